/- TopTampers: for every input the call returns true; part HRD of the proof. -/
import Derived.Test.YtadggjnohohedaaGreatDoorA9
import Derived.KernelRfl
namespace Go.Proofs.YtadggjnohohedaaGreatDoor
namespace EV
noncomputable section
open Go.RowKit
set_option maxRecDepth 100000
theorem hc359_ok:rowsS (biL [cb1]) p9 hc359=true:=by kernel_rfl
theorem hc360_ok:rowsS (biL [cb1]) p9 hc360=true:=by kernel_rfl
theorem hc361_ok:rowsS (biL [cb1]) p9 hc361=true:=by kernel_rfl
theorem hc362_ok:rowsS (biL [cb1]) p9 hc362=true:=by kernel_rfl
theorem hc363_ok:rowsS (biL [cb1]) p9 hc363=true:=by kernel_rfl
theorem hc364_ok:rowsS (biL [cb1]) p9 hc364=true:=by kernel_rfl
theorem hc365_ok:rowsS (biL [cb7]) p9 hc365=true:=by kernel_rfl
theorem hc366_ok:rowsS (biL [cb8]) p9 hc366=true:=by kernel_rfl
theorem hc367_ok:rowsS (biL [cb8]) p9 hc367=true:=by kernel_rfl
theorem hc368_ok:rowsS (biL [cb8]) p9 hc368=true:=by kernel_rfl
end
end EV
end Go.Proofs.YtadggjnohohedaaGreatDoor
