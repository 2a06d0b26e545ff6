/- TopTampers: for every input the call returns true; part HR4 of the proof. -/
import Derived.Test.YtadggjnohohedaaGreatDoorA9
import Derived.KernelRfl
namespace Go.Proofs.YtadggjnohohedaaGreatDoor
namespace EV
noncomputable section
open Go.RowKit
set_option maxRecDepth 100000
theorem hc167_ok:rowsS (biK [kb8]) p9 hc167=true:=by kernel_rfl
theorem hc168_ok:rowsS (biK [kb15]) p9 hc168=true:=by kernel_rfl
theorem hc169_ok:rowsS (biK [kb17]) p9 hc169=true:=by kernel_rfl
theorem hc170_ok:rowsS (biK [kb18]) p9 hc170=true:=by kernel_rfl
theorem hc171_ok:rowsS (biK [kb18]) p9 hc171=true:=by kernel_rfl
theorem hc172_ok:rowsS (biK [kb18]) p9 hc172=true:=by kernel_rfl
theorem hc173_ok:rowsS (biK [kb18]) p9 hc173=true:=by kernel_rfl
theorem hc174_ok:rowsS (biK [kb18]) p9 hc174=true:=by kernel_rfl
theorem hc175_ok:rowsS (biK [kb24]) p9 hc175=true:=by kernel_rfl
theorem hc176_ok:rowsS (biK [kb25]) p9 hc176=true:=by kernel_rfl
theorem hc177_ok:rowsS (biK [kb25]) p9 hc177=true:=by kernel_rfl
theorem hc178_ok:rowsS (biK [kb25]) p9 hc178=true:=by kernel_rfl
end
end EV
end Go.Proofs.YtadggjnohohedaaGreatDoor
