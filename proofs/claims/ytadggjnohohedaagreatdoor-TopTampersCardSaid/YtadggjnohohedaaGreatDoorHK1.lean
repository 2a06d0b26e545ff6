/- TopTampers: for every input the call returns true; part HK1 of the proof. -/
import Derived.Test.YtadggjnohohedaaGreatDoorA9
import Derived.KernelRfl
namespace Go.Proofs.YtadggjnohohedaaGreatDoor
namespace EV
noncomputable section
open Go.RowKit
set_option maxRecDepth 100000
theorem kb34_ok:rowS bi2 p31 kb34=true:=by kernel_rfl
theorem kb35_ok:rowS bi2 p31 kb35=true:=by kernel_rfl
theorem kb36_ok:rowS bi2 p31 kb36=true:=by kernel_rfl
theorem kb37_ok:rowS bi2 p31 kb37=true:=by kernel_rfl
theorem kb38_ok:rowS bi2 p31 kb38=true:=by kernel_rfl
theorem kb39_ok:rowS bi2 p31 kb39=true:=by kernel_rfl
theorem kb40_ok:rowS bi2 p31 kb40=true:=by kernel_rfl
theorem kb41_ok:rowS bi2 p31 kb41=true:=by kernel_rfl
theorem kb42_ok:rowS bi2 p31 kb42=true:=by kernel_rfl
theorem kb43_ok:rowS bi2 p31 kb43=true:=by kernel_rfl
theorem kb44_ok:rowS bi2 p31 kb44=true:=by kernel_rfl
theorem kb45_ok:rowS bi2 p31 kb45=true:=by kernel_rfl
theorem kb46_ok:rowS bi2 p31 kb46=true:=by kernel_rfl
theorem kb47_ok:rowS bi2 p31 kb47=true:=by kernel_rfl
theorem kb48_ok:rowS bi2 p31 kb48=true:=by kernel_rfl
theorem kb49_ok:rowS bi2 p31 kb49=true:=by kernel_rfl
theorem kb50_ok:rowS bi2 p31 kb50=true:=by kernel_rfl
theorem kb51_ok:rowS bi2 p31 kb51=true:=by kernel_rfl
theorem kb52_ok:rowS bi2 p31 kb52=true:=by kernel_rfl
theorem kb53_ok:rowS bi2 p31 kb53=true:=by kernel_rfl
theorem kb54_ok:rowS bi2 p31 kb54=true:=by kernel_rfl
theorem kb55_ok:rowS bi2 p31 kb55=true:=by kernel_rfl
theorem kb56_ok:rowS bi2 p31 kb56=true:=by kernel_rfl
theorem kb57_ok:rowS bi2 p31 kb57=true:=by kernel_rfl
theorem kb58_ok:rowS bi2 p31 kb58=true:=by kernel_rfl
theorem kb59_ok:rowS bi2 p31 kb59=true:=by kernel_rfl
theorem kb60_ok:rowS bi2 p31 kb60=true:=by kernel_rfl
theorem kb61_ok:rowS bi2 p31 kb61=true:=by kernel_rfl
theorem kb62_ok:rowS bi2 p31 kb62=true:=by kernel_rfl
theorem kb63_ok:rowS bi2 p31 kb63=true:=by kernel_rfl
theorem kb64_ok:rowS bi2 p31 kb64=true:=by kernel_rfl
theorem kb65_ok:rowS bi2 p31 kb65=true:=by kernel_rfl
theorem kb66_ok:rowS bi2 p31 kb66=true:=by kernel_rfl
theorem kb67_ok:rowS bi2 p31 kb67=true:=by kernel_rfl
theorem kb68_ok:rowS bi2 p31 kb68=true:=by kernel_rfl
theorem kb69_ok:rowS bi2 p31 kb69=true:=by kernel_rfl
theorem kb70_ok:rowS bi2 p31 kb70=true:=by kernel_rfl
theorem kb71_ok:rowS bi2 p31 kb71=true:=by kernel_rfl
theorem kb72_ok:rowS bi2 p31 kb72=true:=by kernel_rfl
theorem kb73_ok:rowS bi2 p31 kb73=true:=by kernel_rfl
theorem kb74_ok:rowS bi2 p31 kb74=true:=by kernel_rfl
theorem kb75_ok:rowS bi2 p31 kb75=true:=by kernel_rfl
theorem kb76_ok:rowS bi2 p31 kb76=true:=by kernel_rfl
theorem kb77_ok:rowS bi2 p31 kb77=true:=by kernel_rfl
theorem kb78_ok:rowS bi2 p31 kb78=true:=by kernel_rfl
theorem cb0_ok:rowS bi3 p31 cb0=true:=by kernel_rfl
theorem cb1_ok:rowS bi3 p31 cb1=true:=by kernel_rfl
theorem cb2_ok:rowS bi3 p31 cb2=true:=by kernel_rfl
theorem cb3_ok:rowS bi3 p31 cb3=true:=by kernel_rfl
theorem cb4_ok:rowS bi3 p31 cb4=true:=by kernel_rfl
theorem cb5_ok:rowS bi3 p31 cb5=true:=by kernel_rfl
theorem cb6_ok:rowS bi3 p31 cb6=true:=by kernel_rfl
theorem cb7_ok:rowS bi3 p31 cb7=true:=by kernel_rfl
theorem cb8_ok:rowS bi3 p31 cb8=true:=by kernel_rfl
theorem cb9_ok:rowS bi3 p31 cb9=true:=by kernel_rfl
theorem cb10_ok:rowS bi3 p31 cb10=true:=by kernel_rfl
theorem cb11_ok:rowS bi3 p31 cb11=true:=by kernel_rfl
theorem cb12_ok:rowS bi3 p31 cb12=true:=by kernel_rfl
theorem cb13_ok:rowS bi3 p31 cb13=true:=by kernel_rfl
theorem cb14_ok:rowS bi3 p31 cb14=true:=by kernel_rfl
theorem cb15_ok:rowS bi3 p31 cb15=true:=by kernel_rfl
theorem cb16_ok:rowS bi3 p31 cb16=true:=by kernel_rfl
theorem cb17_ok:rowS bi3 p31 cb17=true:=by kernel_rfl
theorem cb18_ok:rowS bi3 p31 cb18=true:=by kernel_rfl
theorem cb19_ok:rowS bi3 p31 cb19=true:=by kernel_rfl
end
end EV
end Go.Proofs.YtadggjnohohedaaGreatDoor
