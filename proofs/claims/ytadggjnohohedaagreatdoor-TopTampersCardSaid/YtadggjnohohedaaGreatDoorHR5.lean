/- TopTampers: for every input the call returns true; part HR5 of the proof. -/
import Derived.Test.YtadggjnohohedaaGreatDoorA9
import Derived.KernelRfl
namespace Go.Proofs.YtadggjnohohedaaGreatDoor
namespace EV
noncomputable section
open Go.RowKit
set_option maxRecDepth 100000
theorem hc179_ok:rowsS (biK [kb25]) p9 hc179=true:=by kernel_rfl
theorem hc180_ok:rowsS (biK [kb25]) p9 hc180=true:=by kernel_rfl
theorem hc181_ok:rowsS (biK [kb25]) p9 hc181=true:=by kernel_rfl
theorem hc182_ok:rowsS (biK [kb31]) p9 hc182=true:=by kernel_rfl
theorem hc183_ok:rowsS (biK [kb32]) p9 hc183=true:=by kernel_rfl
theorem hc184_ok:rowsS (biK [kb32]) p9 hc184=true:=by kernel_rfl
theorem hc185_ok:rowsS (biK [kb32]) p9 hc185=true:=by kernel_rfl
theorem hc186_ok:rowsS (biK [kb32]) p9 hc186=true:=by kernel_rfl
theorem hc187_ok:rowsS (biK [kb32]) p9 hc187=true:=by kernel_rfl
theorem hc188_ok:rowsS (biK [kb32]) p9 hc188=true:=by kernel_rfl
theorem hc189_ok:rowsS (biK [kb39]) p9 hc189=true:=by kernel_rfl
theorem hc190_ok:rowsS (biK [kb0]) p9 hc190=true:=by kernel_rfl
theorem hc191_ok:rowsS (biK [kb1]) p9 hc191=true:=by kernel_rfl
end
end EV
end Go.Proofs.YtadggjnohohedaaGreatDoor
