/- TopTampers: for every input the call returns true; part HRA of the proof. -/
import Derived.Test.YtadggjnohohedaaGreatDoorA9
import Derived.KernelRfl
namespace Go.Proofs.YtadggjnohohedaaGreatDoor
namespace EV
noncomputable section
open Go.RowKit
set_option maxRecDepth 100000
theorem hc236_ok:rowsS (biK [kb17]) p9 hc236=true:=by kernel_rfl
theorem hc237_ok:rowsS (biK [kb17]) p9 hc237=true:=by kernel_rfl
theorem hc238_ok:rowsS (biK [kb17]) p9 hc238=true:=by kernel_rfl
theorem hc239_ok:rowsS (biK [kb17]) p9 hc239=true:=by kernel_rfl
theorem hc240_ok:rowsS (biK [kb24]) p9 hc240=true:=by kernel_rfl
theorem hc241_ok:rowsS (biK [kb24]) p9 hc241=true:=by kernel_rfl
theorem hc242_ok:rowsS (biK [kb24]) p9 hc242=true:=by kernel_rfl
theorem hc243_ok:rowsS (biK [kb24]) p9 hc243=true:=by kernel_rfl
theorem hc244_ok:rowsS (biK [kb24]) p9 hc244=true:=by kernel_rfl
end
end EV
end Go.Proofs.YtadggjnohohedaaGreatDoor
