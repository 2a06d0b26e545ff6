/- TopTampers: for every input the call returns true; part HR3 of the proof. -/
import Derived.Test.YtadggjnohohedaaGreatDoorA9
import Derived.KernelRfl
namespace Go.Proofs.YtadggjnohohedaaGreatDoor
namespace EV
noncomputable section
open Go.RowKit
set_option maxRecDepth 100000
theorem hc154_ok:rowsS (biK [kb31]) p9 hc154=true:=by kernel_rfl
theorem hc155_ok:rowsS (biK [kb38]) p9 hc155=true:=by kernel_rfl
theorem hc156_ok:rowsS (biK [kb0]) p9 hc156=true:=by kernel_rfl
theorem hc157_ok:rowsS (biK [kb1]) p9 hc157=true:=by kernel_rfl
theorem hc158_ok:rowsS (biK [kb1]) p9 hc158=true:=by kernel_rfl
theorem hc159_ok:rowsS (biK [kb1]) p9 hc159=true:=by kernel_rfl
theorem hc160_ok:rowsS (biK [kb1]) p9 hc160=true:=by kernel_rfl
theorem hc161_ok:rowsS (biK [kb1]) p9 hc161=true:=by kernel_rfl
theorem hc162_ok:rowsS (biK [kb7]) p9 hc162=true:=by kernel_rfl
theorem hc163_ok:rowsS (biK [kb8]) p9 hc163=true:=by kernel_rfl
theorem hc164_ok:rowsS (biK [kb8]) p9 hc164=true:=by kernel_rfl
theorem hc165_ok:rowsS (biK [kb8]) p9 hc165=true:=by kernel_rfl
theorem hc166_ok:rowsS (biK [kb8]) p9 hc166=true:=by kernel_rfl
end
end EV
end Go.Proofs.YtadggjnohohedaaGreatDoor
