/- TopTampers: for every input the call returns true; part HRF of the proof. -/
import Derived.Test.YtadggjnohohedaaGreatDoorA9
import Derived.KernelRfl
namespace Go.Proofs.YtadggjnohohedaaGreatDoor
namespace EV
noncomputable section
open Go.RowKit
set_option maxRecDepth 100000
theorem hc382_ok:rowsS (biL [cb25]) p9 hc382=true:=by kernel_rfl
theorem hc383_ok:rowsS (biL [cb25]) p9 hc383=true:=by kernel_rfl
theorem hc384_ok:rowsS (biL [cb25]) p9 hc384=true:=by kernel_rfl
theorem hc385_ok:rowsS (biL [cb25]) p9 hc385=true:=by kernel_rfl
theorem hc386_ok:rowsS (biL [cb25]) p9 hc386=true:=by kernel_rfl
theorem hc387_ok:rowsS (biL [cb31]) p9 hc387=true:=by kernel_rfl
theorem hc388_ok:rowsS (biL [cb32]) p9 hc388=true:=by kernel_rfl
theorem hc389_ok:rowsS (biL [cb32]) p9 hc389=true:=by kernel_rfl
theorem hc390_ok:rowsS (biL [cb32]) p9 hc390=true:=by kernel_rfl
theorem hc391_ok:rowsS (biL [cb32]) p9 hc391=true:=by kernel_rfl
end
end EV
end Go.Proofs.YtadggjnohohedaaGreatDoor
