/- TopTampers: for every input the call returns true; part HRE of the proof. -/
import Derived.Test.YtadggjnohohedaaGreatDoorA9
import Derived.KernelRfl
namespace Go.Proofs.YtadggjnohohedaaGreatDoor
namespace EV
noncomputable section
open Go.RowKit
set_option maxRecDepth 100000
theorem hc369_ok:rowsS (biL [cb8]) p9 hc369=true:=by kernel_rfl
theorem hc370_ok:rowsS (biL [cb8]) p9 hc370=true:=by kernel_rfl
theorem hc371_ok:rowsS (biL [cb8]) p9 hc371=true:=by kernel_rfl
theorem hc372_ok:rowsS (biL [cb15]) p9 hc372=true:=by kernel_rfl
theorem hc373_ok:rowsS (biL [cb17]) p9 hc373=true:=by kernel_rfl
theorem hc374_ok:rowsS (biL [cb18]) p9 hc374=true:=by kernel_rfl
theorem hc375_ok:rowsS (biL [cb18]) p9 hc375=true:=by kernel_rfl
theorem hc376_ok:rowsS (biL [cb18]) p9 hc376=true:=by kernel_rfl
theorem hc377_ok:rowsS (biL [cb18]) p9 hc377=true:=by kernel_rfl
theorem hc378_ok:rowsS (biL [cb18]) p9 hc378=true:=by kernel_rfl
theorem hc379_ok:rowsS (biL [cb18]) p9 hc379=true:=by kernel_rfl
theorem hc380_ok:rowsS (biL [cb24]) p9 hc380=true:=by kernel_rfl
theorem hc381_ok:rowsS (biL [cb25]) p9 hc381=true:=by kernel_rfl
end
end EV
end Go.Proofs.YtadggjnohohedaaGreatDoor
