/- TopTampers: for every input the call returns true; part HK3 of the proof. -/
import Derived.Test.YtadggjnohohedaaGreatDoorA9
import Derived.KernelRfl
namespace Go.Proofs.YtadggjnohohedaaGreatDoor
namespace EV
noncomputable section
open Go.RowKit
set_option maxRecDepth 100000
theorem ub18_ok:rowS bi3 p31 ub18=true:=by kernel_rfl
theorem ub24_ok:rowS bi3 p31 ub24=true:=by kernel_rfl
theorem ub25_ok:rowS bi3 p31 ub25=true:=by kernel_rfl
theorem ub31_ok:rowS bi3 p31 ub31=true:=by kernel_rfl
theorem ub32_ok:rowS bi3 p31 ub32=true:=by kernel_rfl
theorem ub39_ok:rowS bi3 p31 ub39=true:=by kernel_rfl
theorem ub44_ok:rowS bi3 p31 ub44=true:=by kernel_rfl
theorem ub46_ok:rowS bi3 p31 ub46=true:=by kernel_rfl
theorem ub49_ok:rowS bi3 p31 ub49=true:=by kernel_rfl
theorem ub52_ok:rowS bi3 p31 ub52=true:=by kernel_rfl
theorem ub54_ok:rowS bi3 p31 ub54=true:=by kernel_rfl
theorem ub56_ok:rowS bi3 p31 ub56=true:=by kernel_rfl
theorem ub60_ok:rowS bi3 p31 ub60=true:=by kernel_rfl
theorem ub62_ok:rowS bi3 p31 ub62=true:=by kernel_rfl
theorem ub65_ok:rowS bi3 p31 ub65=true:=by kernel_rfl
theorem ub68_ok:rowS bi3 p31 ub68=true:=by kernel_rfl
theorem ub70_ok:rowS bi3 p31 ub70=true:=by kernel_rfl
theorem ub72_ok:rowS bi3 p31 ub72=true:=by kernel_rfl
theorem ub75_ok:rowS bi3 p31 ub75=true:=by kernel_rfl
theorem ub78_ok:rowS bi3 p31 ub78=true:=by kernel_rfl
end
end EV
end Go.Proofs.YtadggjnohohedaaGreatDoor
