/- TopTampers: for every input the call returns true; part HR7 of the proof. -/
import Derived.Test.YtadggjnohohedaaGreatDoorA9
import Derived.KernelRfl
namespace Go.Proofs.YtadggjnohohedaaGreatDoor
namespace EV
noncomputable section
open Go.RowKit
set_option maxRecDepth 100000
theorem hc204_ok:rowsS (biK [kb18]) p9 hc204=true:=by kernel_rfl
theorem hc205_ok:rowsS (biK [kb18]) p9 hc205=true:=by kernel_rfl
theorem hc206_ok:rowsS (biK [kb18]) p9 hc206=true:=by kernel_rfl
theorem hc207_ok:rowsS (biK [kb18]) p9 hc207=true:=by kernel_rfl
theorem hc208_ok:rowsS (biK [kb18]) p9 hc208=true:=by kernel_rfl
theorem hc209_ok:rowsS (biK [kb24]) p9 hc209=true:=by kernel_rfl
theorem hc210_ok:rowsS (biK [kb25]) p9 hc210=true:=by kernel_rfl
theorem hc211_ok:rowsS (biK [kb25]) p9 hc211=true:=by kernel_rfl
theorem hc212_ok:rowsS (biK [kb25]) p9 hc212=true:=by kernel_rfl
theorem hc213_ok:rowsS (biK [kb25]) p9 hc213=true:=by kernel_rfl
end
end EV
end Go.Proofs.YtadggjnohohedaaGreatDoor
