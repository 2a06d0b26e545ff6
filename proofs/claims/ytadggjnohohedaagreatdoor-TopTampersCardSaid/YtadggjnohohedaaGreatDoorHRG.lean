/- TopTampers: for every input the call returns true; part HRG of the proof. -/
import Derived.Test.YtadggjnohohedaaGreatDoorA9
import Derived.KernelRfl
namespace Go.Proofs.YtadggjnohohedaaGreatDoor
namespace EV
noncomputable section
open Go.RowKit
set_option maxRecDepth 100000
theorem hc392_ok:rowsS (biL [cb32]) p9 hc392=true:=by kernel_rfl
theorem hc393_ok:rowsS (biL [cb32]) p9 hc393=true:=by kernel_rfl
theorem hc394_ok:rowsS (biL [cb39]) p9 hc394=true:=by kernel_rfl
theorem hc395_ok:rowsS (biL [ub0]) p9 hc395=true:=by kernel_rfl
theorem hc396_ok:rowsS (biL [ub1]) p9 hc396=true:=by kernel_rfl
theorem hc397_ok:rowsS (biL [ub1]) p9 hc397=true:=by kernel_rfl
theorem hc398_ok:rowsS (biL [ub7]) p9 hc398=true:=by kernel_rfl
theorem hc399_ok:rowsS (biL [ub8]) p9 hc399=true:=by kernel_rfl
theorem hc400_ok:rowsS (biL [ub8]) p9 hc400=true:=by kernel_rfl
theorem hc401_ok:rowsS (biL [ub15]) p9 hc401=true:=by kernel_rfl
theorem hc402_ok:rowsS (biL [ub17]) p9 hc402=true:=by kernel_rfl
theorem hc403_ok:rowsS (biL [ub18]) p9 hc403=true:=by kernel_rfl
theorem hc404_ok:rowsS (biL [ub18]) p9 hc404=true:=by kernel_rfl
theorem hc405_ok:rowsS (biL [ub24]) p9 hc405=true:=by kernel_rfl
theorem hc406_ok:rowsS (biL [ub25]) p9 hc406=true:=by kernel_rfl
theorem hc407_ok:rowsS (biL [ub25]) p9 hc407=true:=by kernel_rfl
theorem hc408_ok:rowsS (biL [ub31]) p9 hc408=true:=by kernel_rfl
theorem hc409_ok:rowsS (biL [ub32]) p9 hc409=true:=by kernel_rfl
theorem hc410_ok:rowsS (biL [ub32]) p9 hc410=true:=by kernel_rfl
theorem hc411_ok:rowsS (biL [ub39]) p9 hc411=true:=by kernel_rfl
theorem hc412_ok:rowsS (biL [cb0]) p9 hc412=true:=by kernel_rfl
theorem hc413_ok:rowsS (biL [cb0]) p9 hc413=true:=by kernel_rfl
theorem hc414_ok:rowsS (biL [cb7]) p9 hc414=true:=by kernel_rfl
theorem hc415_ok:rowsS (biL [cb7]) p9 hc415=true:=by kernel_rfl
theorem hc416_ok:rowsS (biL [cb14]) p9 hc416=true:=by kernel_rfl
theorem hc417_ok:rowsS (biL [cb17]) p9 hc417=true:=by kernel_rfl
theorem hc418_ok:rowsS (biL [cb17]) p9 hc418=true:=by kernel_rfl
theorem hc419_ok:rowsS (biL [cb24]) p9 hc419=true:=by kernel_rfl
theorem hc420_ok:rowsS (biL [cb24]) p9 hc420=true:=by kernel_rfl
theorem hc421_ok:rowsS (biL [cb31]) p9 hc421=true:=by kernel_rfl
theorem hc422_ok:rowsS (biL [cb31]) p9 hc422=true:=by kernel_rfl
theorem hc423_ok:rowsS (biL [cb38]) p9 hc423=true:=by kernel_rfl
end
end EV
end Go.Proofs.YtadggjnohohedaaGreatDoor
