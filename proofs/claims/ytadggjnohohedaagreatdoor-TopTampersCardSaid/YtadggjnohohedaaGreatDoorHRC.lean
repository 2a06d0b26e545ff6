/- TopTampers: for every input the call returns true; part HRC of the proof. -/
import Derived.Test.YtadggjnohohedaaGreatDoorA9
import Derived.KernelRfl
namespace Go.Proofs.YtadggjnohohedaaGreatDoor
namespace EV
noncomputable section
open Go.RowKit
set_option maxRecDepth 100000
theorem hc289_ok:rowsS (biL [cb76]) p9 hc289=true:=by kernel_rfl
theorem hc290_ok:rowsS (biL [cb78]) p9 hc290=true:=by kernel_rfl
theorem hc291_ok:rowsS (biL [ub44]) p9 hc291=true:=by kernel_rfl
theorem hc292_ok:rowsS (biL [ub46]) p9 hc292=true:=by kernel_rfl
theorem hc293_ok:rowsS (biL [ub49]) p9 hc293=true:=by kernel_rfl
theorem hc294_ok:rowsS (biL [ub52]) p9 hc294=true:=by kernel_rfl
theorem hc295_ok:rowsS (biL [ub54]) p9 hc295=true:=by kernel_rfl
theorem hc296_ok:rowsS (biL [ub56]) p9 hc296=true:=by kernel_rfl
theorem hc297_ok:rowsS (biL [ub60]) p9 hc297=true:=by kernel_rfl
theorem hc298_ok:rowsS (biL [ub62]) p9 hc298=true:=by kernel_rfl
theorem hc299_ok:rowsS (biL [ub65]) p9 hc299=true:=by kernel_rfl
theorem hc300_ok:rowsS (biL [ub68]) p9 hc300=true:=by kernel_rfl
theorem hc301_ok:rowsS (biL [ub70]) p9 hc301=true:=by kernel_rfl
theorem hc302_ok:rowsS (biL [ub72]) p9 hc302=true:=by kernel_rfl
theorem hc303_ok:rowsS (biL [ub75]) p9 hc303=true:=by kernel_rfl
theorem hc304_ok:rowsS (biL [ub78]) p9 hc304=true:=by kernel_rfl
theorem hc305_ok:rowsS (biL [cb43]) p9 hc305=true:=by kernel_rfl
theorem hc306_ok:rowsS (biL [cb45]) p9 hc306=true:=by kernel_rfl
theorem hc307_ok:rowsS (biL [cb48]) p9 hc307=true:=by kernel_rfl
theorem hc308_ok:rowsS (biL [cb51]) p9 hc308=true:=by kernel_rfl
theorem hc309_ok:rowsS (biL [cb53]) p9 hc309=true:=by kernel_rfl
theorem hc310_ok:rowsS (biL [cb55]) p9 hc310=true:=by kernel_rfl
theorem hc311_ok:rowsS (biL [cb59]) p9 hc311=true:=by kernel_rfl
theorem hc312_ok:rowsS (biL [cb61]) p9 hc312=true:=by kernel_rfl
theorem hc313_ok:rowsS (biL [cb64]) p9 hc313=true:=by kernel_rfl
theorem hc314_ok:rowsS (biL [cb67]) p9 hc314=true:=by kernel_rfl
theorem hc315_ok:rowsS (biL [cb69]) p9 hc315=true:=by kernel_rfl
theorem hc316_ok:rowsS (biL [cb71]) p9 hc316=true:=by kernel_rfl
theorem hc317_ok:rowsS (biL [cb74]) p9 hc317=true:=by kernel_rfl
theorem hc318_ok:rowsS (biL [cb77]) p9 hc318=true:=by kernel_rfl
theorem hc319_ok:rowsS (biL [cb2]) p9 hc319=true:=by kernel_rfl
theorem hc320_ok:rowsS (biL [cb3]) p9 hc320=true:=by kernel_rfl
theorem hc321_ok:rowsS (biL [cb4]) p9 hc321=true:=by kernel_rfl
theorem hc322_ok:rowsS (biL [cb5]) p9 hc322=true:=by kernel_rfl
theorem hc323_ok:rowsS (biL [cb6]) p9 hc323=true:=by kernel_rfl
theorem hc324_ok:rowsS (biL [cb9]) p9 hc324=true:=by kernel_rfl
theorem hc325_ok:rowsS (biL [cb10]) p9 hc325=true:=by kernel_rfl
theorem hc326_ok:rowsS (biL [cb11]) p9 hc326=true:=by kernel_rfl
theorem hc327_ok:rowsS (biL [cb12]) p9 hc327=true:=by kernel_rfl
theorem hc328_ok:rowsS (biL [cb13]) p9 hc328=true:=by kernel_rfl
theorem hc329_ok:rowsS (biL [cb16]) p9 hc329=true:=by kernel_rfl
theorem hc330_ok:rowsS (biL [cb19]) p9 hc330=true:=by kernel_rfl
theorem hc331_ok:rowsS (biL [cb20]) p9 hc331=true:=by kernel_rfl
theorem hc332_ok:rowsS (biL [cb21]) p9 hc332=true:=by kernel_rfl
theorem hc333_ok:rowsS (biL [cb22]) p9 hc333=true:=by kernel_rfl
theorem hc334_ok:rowsS (biL [cb23]) p9 hc334=true:=by kernel_rfl
theorem hc335_ok:rowsS (biL [cb26]) p9 hc335=true:=by kernel_rfl
theorem hc336_ok:rowsS (biL [cb27]) p9 hc336=true:=by kernel_rfl
theorem hc337_ok:rowsS (biL [cb28]) p9 hc337=true:=by kernel_rfl
theorem hc338_ok:rowsS (biL [cb29]) p9 hc338=true:=by kernel_rfl
theorem hc339_ok:rowsS (biL [cb30]) p9 hc339=true:=by kernel_rfl
theorem hc340_ok:rowsS (biL [cb33]) p9 hc340=true:=by kernel_rfl
theorem hc341_ok:rowsS (biL [cb34]) p9 hc341=true:=by kernel_rfl
theorem hc342_ok:rowsS (biL [cb35]) p9 hc342=true:=by kernel_rfl
theorem hc343_ok:rowsS (biL [cb36]) p9 hc343=true:=by kernel_rfl
theorem hc344_ok:rowsS (biL [cb37]) p9 hc344=true:=by kernel_rfl
theorem hc345_ok:rowsS (biL [cb40]) p9 hc345=true:=by kernel_rfl
theorem hc346_ok:rowsS (biL [cb0]) p9 hc346=true:=by kernel_rfl
theorem hc347_ok:rowsS (biL [cb0]) p9 hc347=true:=by kernel_rfl
theorem hc348_ok:rowsS (biL [cb7]) p9 hc348=true:=by kernel_rfl
theorem hc349_ok:rowsS (biL [cb7]) p9 hc349=true:=by kernel_rfl
theorem hc350_ok:rowsS (biL [cb14]) p9 hc350=true:=by kernel_rfl
theorem hc351_ok:rowsS (biL [cb17]) p9 hc351=true:=by kernel_rfl
theorem hc352_ok:rowsS (biL [cb17]) p9 hc352=true:=by kernel_rfl
theorem hc353_ok:rowsS (biL [cb24]) p9 hc353=true:=by kernel_rfl
theorem hc354_ok:rowsS (biL [cb24]) p9 hc354=true:=by kernel_rfl
theorem hc355_ok:rowsS (biL [cb31]) p9 hc355=true:=by kernel_rfl
theorem hc356_ok:rowsS (biL [cb31]) p9 hc356=true:=by kernel_rfl
theorem hc357_ok:rowsS (biL [cb38]) p9 hc357=true:=by kernel_rfl
theorem hc358_ok:rowsS (biL [cb0]) p9 hc358=true:=by kernel_rfl
end
end EV
end Go.Proofs.YtadggjnohohedaaGreatDoor
