/- TopTampers: for every input the call returns true; part HR2 of the proof. -/
import Derived.Test.YtadggjnohohedaaGreatDoorA9
import Derived.KernelRfl
namespace Go.Proofs.YtadggjnohohedaaGreatDoor
namespace EV
noncomputable section
open Go.RowKit
set_option maxRecDepth 100000
theorem hc49_ok:rowsS (biK [ka0]) p9 hc49=true:=by kernel_rfl
theorem hc50_ok:rowsS (biK [ka0]) p9 hc50=true:=by kernel_rfl
theorem hc51_ok:rowsS (biK [kb43]) p9 hc51=true:=by kernel_rfl
theorem hc52_ok:rowsS (biK [kb45]) p9 hc52=true:=by kernel_rfl
theorem hc53_ok:rowsS (biK [kb48]) p9 hc53=true:=by kernel_rfl
theorem hc54_ok:rowsS (biK [kb51]) p9 hc54=true:=by kernel_rfl
theorem hc55_ok:rowsS (biK [kb53]) p9 hc55=true:=by kernel_rfl
theorem hc56_ok:rowsS (biK [kb55]) p9 hc56=true:=by kernel_rfl
theorem hc57_ok:rowsS (biK [kb59]) p9 hc57=true:=by kernel_rfl
theorem hc58_ok:rowsS (biK [kb61]) p9 hc58=true:=by kernel_rfl
theorem hc59_ok:rowsS (biK [kb64]) p9 hc59=true:=by kernel_rfl
theorem hc60_ok:rowsS (biK [kb67]) p9 hc60=true:=by kernel_rfl
theorem hc61_ok:rowsS (biK [kb69]) p9 hc61=true:=by kernel_rfl
theorem hc62_ok:rowsS (biK [kb71]) p9 hc62=true:=by kernel_rfl
theorem hc63_ok:rowsS (biK [kb74]) p9 hc63=true:=by kernel_rfl
theorem hc64_ok:rowsS (biK [kb77]) p9 hc64=true:=by kernel_rfl
theorem hc65_ok:rowsS (biK [kb41]) p9 hc65=true:=by kernel_rfl
theorem hc66_ok:rowsS (biK [kb42]) p9 hc66=true:=by kernel_rfl
theorem hc67_ok:rowsS (biK [kb44]) p9 hc67=true:=by kernel_rfl
theorem hc68_ok:rowsS (biK [kb46]) p9 hc68=true:=by kernel_rfl
theorem hc69_ok:rowsS (biK [kb47]) p9 hc69=true:=by kernel_rfl
theorem hc70_ok:rowsS (biK [kb49]) p9 hc70=true:=by kernel_rfl
theorem hc71_ok:rowsS (biK [kb50]) p9 hc71=true:=by kernel_rfl
theorem hc72_ok:rowsS (biK [kb52]) p9 hc72=true:=by kernel_rfl
theorem hc73_ok:rowsS (biK [kb54]) p9 hc73=true:=by kernel_rfl
theorem hc74_ok:rowsS (biK [kb56]) p9 hc74=true:=by kernel_rfl
theorem hc75_ok:rowsS (biK [kb57]) p9 hc75=true:=by kernel_rfl
theorem hc76_ok:rowsS (biK [kb58]) p9 hc76=true:=by kernel_rfl
theorem hc77_ok:rowsS (biK [kb60]) p9 hc77=true:=by kernel_rfl
theorem hc78_ok:rowsS (biK [kb62]) p9 hc78=true:=by kernel_rfl
theorem hc79_ok:rowsS (biK [kb63]) p9 hc79=true:=by kernel_rfl
theorem hc80_ok:rowsS (biK [kb65]) p9 hc80=true:=by kernel_rfl
theorem hc81_ok:rowsS (biK [kb66]) p9 hc81=true:=by kernel_rfl
theorem hc82_ok:rowsS (biK [kb68]) p9 hc82=true:=by kernel_rfl
theorem hc83_ok:rowsS (biK [kb70]) p9 hc83=true:=by kernel_rfl
theorem hc84_ok:rowsS (biK [kb72]) p9 hc84=true:=by kernel_rfl
theorem hc85_ok:rowsS (biK [kb73]) p9 hc85=true:=by kernel_rfl
theorem hc86_ok:rowsS (biK [kb75]) p9 hc86=true:=by kernel_rfl
theorem hc87_ok:rowsS (biK [kb76]) p9 hc87=true:=by kernel_rfl
theorem hc88_ok:rowsS (biK [kb78]) p9 hc88=true:=by kernel_rfl
theorem hc89_ok:rowsS (biK [kb44]) p9 hc89=true:=by kernel_rfl
theorem hc90_ok:rowsS (biK [kb46]) p9 hc90=true:=by kernel_rfl
theorem hc91_ok:rowsS (biK [kb49]) p9 hc91=true:=by kernel_rfl
theorem hc92_ok:rowsS (biK [kb52]) p9 hc92=true:=by kernel_rfl
theorem hc93_ok:rowsS (biK [kb54]) p9 hc93=true:=by kernel_rfl
theorem hc94_ok:rowsS (biK [kb56]) p9 hc94=true:=by kernel_rfl
theorem hc95_ok:rowsS (biK [kb60]) p9 hc95=true:=by kernel_rfl
theorem hc96_ok:rowsS (biK [kb62]) p9 hc96=true:=by kernel_rfl
theorem hc97_ok:rowsS (biK [kb65]) p9 hc97=true:=by kernel_rfl
theorem hc98_ok:rowsS (biK [kb68]) p9 hc98=true:=by kernel_rfl
theorem hc99_ok:rowsS (biK [kb70]) p9 hc99=true:=by kernel_rfl
theorem hc100_ok:rowsS (biK [kb72]) p9 hc100=true:=by kernel_rfl
theorem hc101_ok:rowsS (biK [kb75]) p9 hc101=true:=by kernel_rfl
theorem hc102_ok:rowsS (biK [kb78]) p9 hc102=true:=by kernel_rfl
theorem hc103_ok:rowsS (biK [kb43]) p9 hc103=true:=by kernel_rfl
theorem hc104_ok:rowsS (biK [kb45]) p9 hc104=true:=by kernel_rfl
theorem hc105_ok:rowsS (biK [kb48]) p9 hc105=true:=by kernel_rfl
theorem hc106_ok:rowsS (biK [kb51]) p9 hc106=true:=by kernel_rfl
theorem hc107_ok:rowsS (biK [kb53]) p9 hc107=true:=by kernel_rfl
theorem hc108_ok:rowsS (biK [kb55]) p9 hc108=true:=by kernel_rfl
theorem hc109_ok:rowsS (biK [kb59]) p9 hc109=true:=by kernel_rfl
theorem hc110_ok:rowsS (biK [kb61]) p9 hc110=true:=by kernel_rfl
theorem hc111_ok:rowsS (biK [kb64]) p9 hc111=true:=by kernel_rfl
theorem hc112_ok:rowsS (biK [kb67]) p9 hc112=true:=by kernel_rfl
theorem hc113_ok:rowsS (biK [kb69]) p9 hc113=true:=by kernel_rfl
theorem hc114_ok:rowsS (biK [kb71]) p9 hc114=true:=by kernel_rfl
theorem hc115_ok:rowsS (biK [kb74]) p9 hc115=true:=by kernel_rfl
theorem hc116_ok:rowsS (biK [kb77]) p9 hc116=true:=by kernel_rfl
theorem hc117_ok:rowsS (biK [kb2]) p9 hc117=true:=by kernel_rfl
theorem hc118_ok:rowsS (biK [kb3]) p9 hc118=true:=by kernel_rfl
theorem hc119_ok:rowsS (biK [kb4]) p9 hc119=true:=by kernel_rfl
theorem hc120_ok:rowsS (biK [kb5]) p9 hc120=true:=by kernel_rfl
theorem hc121_ok:rowsS (biK [kb6]) p9 hc121=true:=by kernel_rfl
theorem hc122_ok:rowsS (biK [kb9]) p9 hc122=true:=by kernel_rfl
theorem hc123_ok:rowsS (biK [kb10]) p9 hc123=true:=by kernel_rfl
theorem hc124_ok:rowsS (biK [kb11]) p9 hc124=true:=by kernel_rfl
theorem hc125_ok:rowsS (biK [kb12]) p9 hc125=true:=by kernel_rfl
theorem hc126_ok:rowsS (biK [kb13]) p9 hc126=true:=by kernel_rfl
theorem hc127_ok:rowsS (biK [kb16]) p9 hc127=true:=by kernel_rfl
theorem hc128_ok:rowsS (biK [kb19]) p9 hc128=true:=by kernel_rfl
theorem hc129_ok:rowsS (biK [kb20]) p9 hc129=true:=by kernel_rfl
theorem hc130_ok:rowsS (biK [kb21]) p9 hc130=true:=by kernel_rfl
theorem hc131_ok:rowsS (biK [kb22]) p9 hc131=true:=by kernel_rfl
theorem hc132_ok:rowsS (biK [kb23]) p9 hc132=true:=by kernel_rfl
theorem hc133_ok:rowsS (biK [kb26]) p9 hc133=true:=by kernel_rfl
theorem hc134_ok:rowsS (biK [kb27]) p9 hc134=true:=by kernel_rfl
theorem hc135_ok:rowsS (biK [kb28]) p9 hc135=true:=by kernel_rfl
theorem hc136_ok:rowsS (biK [kb29]) p9 hc136=true:=by kernel_rfl
theorem hc137_ok:rowsS (biK [kb30]) p9 hc137=true:=by kernel_rfl
theorem hc138_ok:rowsS (biK [kb33]) p9 hc138=true:=by kernel_rfl
theorem hc139_ok:rowsS (biK [kb34]) p9 hc139=true:=by kernel_rfl
theorem hc140_ok:rowsS (biK [kb35]) p9 hc140=true:=by kernel_rfl
theorem hc141_ok:rowsS (biK [kb36]) p9 hc141=true:=by kernel_rfl
theorem hc142_ok:rowsS (biK [kb37]) p9 hc142=true:=by kernel_rfl
theorem hc143_ok:rowsS (biK [kb40]) p9 hc143=true:=by kernel_rfl
theorem hc144_ok:rowsS (biK [kb0]) p9 hc144=true:=by kernel_rfl
theorem hc145_ok:rowsS (biK [kb0]) p9 hc145=true:=by kernel_rfl
theorem hc146_ok:rowsS (biK [kb7]) p9 hc146=true:=by kernel_rfl
theorem hc147_ok:rowsS (biK [kb7]) p9 hc147=true:=by kernel_rfl
theorem hc148_ok:rowsS (biK [kb14]) p9 hc148=true:=by kernel_rfl
theorem hc149_ok:rowsS (biK [kb17]) p9 hc149=true:=by kernel_rfl
theorem hc150_ok:rowsS (biK [kb17]) p9 hc150=true:=by kernel_rfl
theorem hc151_ok:rowsS (biK [kb24]) p9 hc151=true:=by kernel_rfl
theorem hc152_ok:rowsS (biK [kb24]) p9 hc152=true:=by kernel_rfl
theorem hc153_ok:rowsS (biK [kb31]) p9 hc153=true:=by kernel_rfl
end
end EV
end Go.Proofs.YtadggjnohohedaaGreatDoor
