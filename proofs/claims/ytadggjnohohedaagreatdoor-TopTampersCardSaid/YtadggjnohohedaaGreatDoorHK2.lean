/- TopTampers: for every input the call returns true; part HK2 of the proof. -/
import Derived.Test.YtadggjnohohedaaGreatDoorA9
import Derived.KernelRfl
namespace Go.Proofs.YtadggjnohohedaaGreatDoor
namespace EV
noncomputable section
open Go.RowKit
set_option maxRecDepth 100000
theorem cb20_ok:rowS bi3 p31 cb20=true:=by kernel_rfl
theorem cb21_ok:rowS bi3 p31 cb21=true:=by kernel_rfl
theorem cb22_ok:rowS bi3 p31 cb22=true:=by kernel_rfl
theorem cb23_ok:rowS bi3 p31 cb23=true:=by kernel_rfl
theorem cb24_ok:rowS bi3 p31 cb24=true:=by kernel_rfl
theorem cb25_ok:rowS bi3 p31 cb25=true:=by kernel_rfl
theorem cb26_ok:rowS bi3 p31 cb26=true:=by kernel_rfl
theorem cb27_ok:rowS bi3 p31 cb27=true:=by kernel_rfl
theorem cb28_ok:rowS bi3 p31 cb28=true:=by kernel_rfl
theorem cb29_ok:rowS bi3 p31 cb29=true:=by kernel_rfl
theorem cb30_ok:rowS bi3 p31 cb30=true:=by kernel_rfl
theorem cb31_ok:rowS bi3 p31 cb31=true:=by kernel_rfl
theorem cb32_ok:rowS bi3 p31 cb32=true:=by kernel_rfl
theorem cb33_ok:rowS bi3 p31 cb33=true:=by kernel_rfl
theorem cb34_ok:rowS bi3 p31 cb34=true:=by kernel_rfl
theorem cb35_ok:rowS bi3 p31 cb35=true:=by kernel_rfl
theorem cb36_ok:rowS bi3 p31 cb36=true:=by kernel_rfl
theorem cb37_ok:rowS bi3 p31 cb37=true:=by kernel_rfl
theorem cb38_ok:rowS bi3 p31 cb38=true:=by kernel_rfl
theorem cb39_ok:rowS bi3 p31 cb39=true:=by kernel_rfl
theorem cb40_ok:rowS bi3 p31 cb40=true:=by kernel_rfl
theorem cb41_ok:rowS bi3 p31 cb41=true:=by kernel_rfl
theorem cb42_ok:rowS bi3 p31 cb42=true:=by kernel_rfl
theorem cb43_ok:rowS bi3 p31 cb43=true:=by kernel_rfl
theorem cb44_ok:rowS bi3 p31 cb44=true:=by kernel_rfl
theorem cb45_ok:rowS bi3 p31 cb45=true:=by kernel_rfl
theorem cb46_ok:rowS bi3 p31 cb46=true:=by kernel_rfl
theorem cb47_ok:rowS bi3 p31 cb47=true:=by kernel_rfl
theorem cb48_ok:rowS bi3 p31 cb48=true:=by kernel_rfl
theorem cb49_ok:rowS bi3 p31 cb49=true:=by kernel_rfl
theorem cb50_ok:rowS bi3 p31 cb50=true:=by kernel_rfl
theorem cb51_ok:rowS bi3 p31 cb51=true:=by kernel_rfl
theorem cb52_ok:rowS bi3 p31 cb52=true:=by kernel_rfl
theorem cb53_ok:rowS bi3 p31 cb53=true:=by kernel_rfl
theorem cb54_ok:rowS bi3 p31 cb54=true:=by kernel_rfl
theorem cb55_ok:rowS bi3 p31 cb55=true:=by kernel_rfl
theorem cb56_ok:rowS bi3 p31 cb56=true:=by kernel_rfl
theorem cb57_ok:rowS bi3 p31 cb57=true:=by kernel_rfl
theorem cb58_ok:rowS bi3 p31 cb58=true:=by kernel_rfl
theorem cb59_ok:rowS bi3 p31 cb59=true:=by kernel_rfl
theorem cb60_ok:rowS bi3 p31 cb60=true:=by kernel_rfl
theorem cb61_ok:rowS bi3 p31 cb61=true:=by kernel_rfl
theorem cb62_ok:rowS bi3 p31 cb62=true:=by kernel_rfl
theorem cb63_ok:rowS bi3 p31 cb63=true:=by kernel_rfl
theorem cb64_ok:rowS bi3 p31 cb64=true:=by kernel_rfl
theorem cb65_ok:rowS bi3 p31 cb65=true:=by kernel_rfl
theorem cb66_ok:rowS bi3 p31 cb66=true:=by kernel_rfl
theorem cb67_ok:rowS bi3 p31 cb67=true:=by kernel_rfl
theorem cb68_ok:rowS bi3 p31 cb68=true:=by kernel_rfl
theorem cb69_ok:rowS bi3 p31 cb69=true:=by kernel_rfl
theorem cb70_ok:rowS bi3 p31 cb70=true:=by kernel_rfl
theorem cb71_ok:rowS bi3 p31 cb71=true:=by kernel_rfl
theorem cb72_ok:rowS bi3 p31 cb72=true:=by kernel_rfl
theorem cb73_ok:rowS bi3 p31 cb73=true:=by kernel_rfl
theorem cb74_ok:rowS bi3 p31 cb74=true:=by kernel_rfl
theorem cb75_ok:rowS bi3 p31 cb75=true:=by kernel_rfl
theorem cb76_ok:rowS bi3 p31 cb76=true:=by kernel_rfl
theorem cb77_ok:rowS bi3 p31 cb77=true:=by kernel_rfl
theorem cb78_ok:rowS bi3 p31 cb78=true:=by kernel_rfl
theorem ub0_ok:rowS bi3 p31 ub0=true:=by kernel_rfl
theorem ub1_ok:rowS bi3 p31 ub1=true:=by kernel_rfl
theorem ub7_ok:rowS bi3 p31 ub7=true:=by kernel_rfl
theorem ub8_ok:rowS bi3 p31 ub8=true:=by kernel_rfl
theorem ub15_ok:rowS bi3 p31 ub15=true:=by kernel_rfl
theorem ub17_ok:rowS bi3 p31 ub17=true:=by kernel_rfl
end
end EV
end Go.Proofs.YtadggjnohohedaaGreatDoor
