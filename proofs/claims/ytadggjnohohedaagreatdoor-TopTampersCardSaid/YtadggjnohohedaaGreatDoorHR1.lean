/- TopTampers: for every input the call returns true; part HR1 of the proof. -/
import Derived.Test.YtadggjnohohedaaGreatDoorA9
import Derived.KernelRfl
namespace Go.Proofs.YtadggjnohohedaaGreatDoor
namespace EV
noncomputable section
open Go.RowKit
set_option maxRecDepth 100000
theorem hc37_ok:rowsS (biK [ka3]) p9 hc37=true:=by kernel_rfl
theorem hc38_ok:rowsS (biK [ka3]) p9 hc38=true:=by kernel_rfl
theorem hc39_ok:rowsS (biK [ka3]) p9 hc39=true:=by kernel_rfl
theorem hc40_ok:rowsS (biK [ka3]) p9 hc40=true:=by kernel_rfl
theorem hc41_ok:rowsS (biK [ka6]) p9 hc41=true:=by kernel_rfl
theorem hc42_ok:rowsS (biK [ka0]) p9 hc42=true:=by kernel_rfl
theorem hc43_ok:rowsS (biK [ka1]) p9 hc43=true:=by kernel_rfl
theorem hc44_ok:rowsS (biK [ka1]) p9 hc44=true:=by kernel_rfl
theorem hc45_ok:rowsS (biK [ka1]) p9 hc45=true:=by kernel_rfl
theorem hc46_ok:rowsS (biK [ka1]) p9 hc46=true:=by kernel_rfl
theorem hc47_ok:rowsS (biK [ka0]) p9 hc47=true:=by kernel_rfl
theorem hc48_ok:rowsS (biK [ka0]) p9 hc48=true:=by kernel_rfl
end
end EV
end Go.Proofs.YtadggjnohohedaaGreatDoor
