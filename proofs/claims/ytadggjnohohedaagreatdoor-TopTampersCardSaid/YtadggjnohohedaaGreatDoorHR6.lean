/- TopTampers: for every input the call returns true; part HR6 of the proof. -/
import Derived.Test.YtadggjnohohedaaGreatDoorA9
import Derived.KernelRfl
namespace Go.Proofs.YtadggjnohohedaaGreatDoor
namespace EV
noncomputable section
open Go.RowKit
set_option maxRecDepth 100000
theorem hc192_ok:rowsS (biK [kb1]) p9 hc192=true:=by kernel_rfl
theorem hc193_ok:rowsS (biK [kb1]) p9 hc193=true:=by kernel_rfl
theorem hc194_ok:rowsS (biK [kb1]) p9 hc194=true:=by kernel_rfl
theorem hc195_ok:rowsS (biK [kb1]) p9 hc195=true:=by kernel_rfl
theorem hc196_ok:rowsS (biK [kb7]) p9 hc196=true:=by kernel_rfl
theorem hc197_ok:rowsS (biK [kb8]) p9 hc197=true:=by kernel_rfl
theorem hc198_ok:rowsS (biK [kb8]) p9 hc198=true:=by kernel_rfl
theorem hc199_ok:rowsS (biK [kb8]) p9 hc199=true:=by kernel_rfl
theorem hc200_ok:rowsS (biK [kb8]) p9 hc200=true:=by kernel_rfl
theorem hc201_ok:rowsS (biK [kb8]) p9 hc201=true:=by kernel_rfl
theorem hc202_ok:rowsS (biK [kb15]) p9 hc202=true:=by kernel_rfl
theorem hc203_ok:rowsS (biK [kb17]) p9 hc203=true:=by kernel_rfl
end
end EV
end Go.Proofs.YtadggjnohohedaaGreatDoor
