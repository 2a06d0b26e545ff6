/- TopTampers: for every input the call returns true; part HR8 of the proof. -/
import Derived.Test.YtadggjnohohedaaGreatDoorA9
import Derived.KernelRfl
namespace Go.Proofs.YtadggjnohohedaaGreatDoor
namespace EV
noncomputable section
open Go.RowKit
set_option maxRecDepth 100000
theorem hc214_ok:rowsS (biK [kb25]) p9 hc214=true:=by kernel_rfl
theorem hc215_ok:rowsS (biK [kb25]) p9 hc215=true:=by kernel_rfl
theorem hc216_ok:rowsS (biK [kb31]) p9 hc216=true:=by kernel_rfl
theorem hc217_ok:rowsS (biK [kb32]) p9 hc217=true:=by kernel_rfl
theorem hc218_ok:rowsS (biK [kb32]) p9 hc218=true:=by kernel_rfl
theorem hc219_ok:rowsS (biK [kb32]) p9 hc219=true:=by kernel_rfl
theorem hc220_ok:rowsS (biK [kb32]) p9 hc220=true:=by kernel_rfl
theorem hc221_ok:rowsS (biK [kb32]) p9 hc221=true:=by kernel_rfl
theorem hc222_ok:rowsS (biK [kb32]) p9 hc222=true:=by kernel_rfl
theorem hc223_ok:rowsS (biK [kb39]) p9 hc223=true:=by kernel_rfl
theorem hc224_ok:rowsS (biK [kb0]) p9 hc224=true:=by kernel_rfl
theorem hc225_ok:rowsS (biK [kb0]) p9 hc225=true:=by kernel_rfl
end
end EV
end Go.Proofs.YtadggjnohohedaaGreatDoor
