/- TopTampers: for every input the call returns true; part HRB of the proof. -/
import Derived.Test.YtadggjnohohedaaGreatDoorA9
import Derived.KernelRfl
namespace Go.Proofs.YtadggjnohohedaaGreatDoor
namespace EV
noncomputable section
open Go.RowKit
set_option maxRecDepth 100000
theorem hc245_ok:rowsS (biK [kb24]) p9 hc245=true:=by kernel_rfl
theorem hc246_ok:rowsS (biK [kb31]) p9 hc246=true:=by kernel_rfl
theorem hc247_ok:rowsS (biK [kb31]) p9 hc247=true:=by kernel_rfl
theorem hc248_ok:rowsS (biK [kb31]) p9 hc248=true:=by kernel_rfl
theorem hc249_ok:rowsS (biK [kb31]) p9 hc249=true:=by kernel_rfl
theorem hc250_ok:rowsS (biK [kb31]) p9 hc250=true:=by kernel_rfl
theorem hc251_ok:rowsS (biK [kb31]) p9 hc251=true:=by kernel_rfl
theorem hc252_ok:rowsS (biK [kb38]) p9 hc252=true:=by kernel_rfl
theorem hc253_ok:rowsS (biL [cb43]) p9 hc253=true:=by kernel_rfl
theorem hc254_ok:rowsS (biL [cb45]) p9 hc254=true:=by kernel_rfl
theorem hc255_ok:rowsS (biL [cb48]) p9 hc255=true:=by kernel_rfl
theorem hc256_ok:rowsS (biL [cb51]) p9 hc256=true:=by kernel_rfl
theorem hc257_ok:rowsS (biL [cb53]) p9 hc257=true:=by kernel_rfl
theorem hc258_ok:rowsS (biL [cb55]) p9 hc258=true:=by kernel_rfl
theorem hc259_ok:rowsS (biL [cb59]) p9 hc259=true:=by kernel_rfl
theorem hc260_ok:rowsS (biL [cb61]) p9 hc260=true:=by kernel_rfl
theorem hc261_ok:rowsS (biL [cb64]) p9 hc261=true:=by kernel_rfl
theorem hc262_ok:rowsS (biL [cb67]) p9 hc262=true:=by kernel_rfl
theorem hc263_ok:rowsS (biL [cb69]) p9 hc263=true:=by kernel_rfl
theorem hc264_ok:rowsS (biL [cb71]) p9 hc264=true:=by kernel_rfl
theorem hc265_ok:rowsS (biL [cb74]) p9 hc265=true:=by kernel_rfl
theorem hc266_ok:rowsS (biL [cb77]) p9 hc266=true:=by kernel_rfl
theorem hc267_ok:rowsS (biL [cb41]) p9 hc267=true:=by kernel_rfl
theorem hc268_ok:rowsS (biL [cb42]) p9 hc268=true:=by kernel_rfl
theorem hc269_ok:rowsS (biL [cb44]) p9 hc269=true:=by kernel_rfl
theorem hc270_ok:rowsS (biL [cb46]) p9 hc270=true:=by kernel_rfl
theorem hc271_ok:rowsS (biL [cb47]) p9 hc271=true:=by kernel_rfl
theorem hc272_ok:rowsS (biL [cb49]) p9 hc272=true:=by kernel_rfl
theorem hc273_ok:rowsS (biL [cb50]) p9 hc273=true:=by kernel_rfl
theorem hc274_ok:rowsS (biL [cb52]) p9 hc274=true:=by kernel_rfl
theorem hc275_ok:rowsS (biL [cb54]) p9 hc275=true:=by kernel_rfl
theorem hc276_ok:rowsS (biL [cb56]) p9 hc276=true:=by kernel_rfl
theorem hc277_ok:rowsS (biL [cb57]) p9 hc277=true:=by kernel_rfl
theorem hc278_ok:rowsS (biL [cb58]) p9 hc278=true:=by kernel_rfl
theorem hc279_ok:rowsS (biL [cb60]) p9 hc279=true:=by kernel_rfl
theorem hc280_ok:rowsS (biL [cb62]) p9 hc280=true:=by kernel_rfl
theorem hc281_ok:rowsS (biL [cb63]) p9 hc281=true:=by kernel_rfl
theorem hc282_ok:rowsS (biL [cb65]) p9 hc282=true:=by kernel_rfl
theorem hc283_ok:rowsS (biL [cb66]) p9 hc283=true:=by kernel_rfl
theorem hc284_ok:rowsS (biL [cb68]) p9 hc284=true:=by kernel_rfl
theorem hc285_ok:rowsS (biL [cb70]) p9 hc285=true:=by kernel_rfl
theorem hc286_ok:rowsS (biL [cb72]) p9 hc286=true:=by kernel_rfl
theorem hc287_ok:rowsS (biL [cb73]) p9 hc287=true:=by kernel_rfl
theorem hc288_ok:rowsS (biL [cb75]) p9 hc288=true:=by kernel_rfl
end
end EV
end Go.Proofs.YtadggjnohohedaaGreatDoor
