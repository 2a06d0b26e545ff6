/- TopTampers: for every input the call returns true; part HR9 of the proof. -/
import Derived.Test.YtadggjnohohedaaGreatDoorA9
import Derived.KernelRfl
namespace Go.Proofs.YtadggjnohohedaaGreatDoor
namespace EV
noncomputable section
open Go.RowKit
set_option maxRecDepth 100000
theorem hc226_ok:rowsS (biK [kb0]) p9 hc226=true:=by kernel_rfl
theorem hc227_ok:rowsS (biK [kb0]) p9 hc227=true:=by kernel_rfl
theorem hc228_ok:rowsS (biK [kb0]) p9 hc228=true:=by kernel_rfl
theorem hc229_ok:rowsS (biK [kb7]) p9 hc229=true:=by kernel_rfl
theorem hc230_ok:rowsS (biK [kb7]) p9 hc230=true:=by kernel_rfl
theorem hc231_ok:rowsS (biK [kb7]) p9 hc231=true:=by kernel_rfl
theorem hc232_ok:rowsS (biK [kb7]) p9 hc232=true:=by kernel_rfl
theorem hc233_ok:rowsS (biK [kb7]) p9 hc233=true:=by kernel_rfl
theorem hc234_ok:rowsS (biK [kb14]) p9 hc234=true:=by kernel_rfl
theorem hc235_ok:rowsS (biK [kb17]) p9 hc235=true:=by kernel_rfl
end
end EV
end Go.Proofs.YtadggjnohohedaaGreatDoor
