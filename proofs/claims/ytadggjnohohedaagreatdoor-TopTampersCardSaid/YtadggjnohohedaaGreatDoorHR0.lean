/- TopTampers: for every input the call returns true; part HR0 of the proof. -/
import Derived.Test.YtadggjnohohedaaGreatDoorA9
import Derived.KernelRfl
namespace Go.Proofs.YtadggjnohohedaaGreatDoor
namespace EV
noncomputable section
open Go.RowKit
set_option maxRecDepth 100000
theorem hc0_ok:rowsS (biK [ka7]) p9 hc0=true:=by kernel_rfl
theorem hc1_ok:rowsS (biK [ka8]) p9 hc1=true:=by kernel_rfl
theorem hc2_ok:rowsS (biK [ka9]) p9 hc2=true:=by kernel_rfl
theorem hc3_ok:rowsS (biK [ka10]) p9 hc3=true:=by kernel_rfl
theorem hc4_ok:rowsS (biK [ka11]) p9 hc4=true:=by kernel_rfl
theorem hc5_ok:rowsS (biK [ka12]) p9 hc5=true:=by kernel_rfl
theorem hc6_ok:rowsS (biK [ka13]) p9 hc6=true:=by kernel_rfl
theorem hc7_ok:rowsS (biK [ka14]) p9 hc7=true:=by kernel_rfl
theorem hc8_ok:rowsS (biK [ka15]) p9 hc8=true:=by kernel_rfl
theorem hc9_ok:rowsS (biK [ka16]) p9 hc9=true:=by kernel_rfl
theorem hc10_ok:rowsS (biK [ka17]) p9 hc10=true:=by kernel_rfl
theorem hc11_ok:rowsS (biK [ka18]) p9 hc11=true:=by kernel_rfl
theorem hc12_ok:rowsS (biK [ka19]) p9 hc12=true:=by kernel_rfl
theorem hc13_ok:rowsS (biK [ka20]) p9 hc13=true:=by kernel_rfl
theorem hc14_ok:rowsS (biK [ka21]) p9 hc14=true:=by kernel_rfl
theorem hc15_ok:rowsS (biK [ka22]) p9 hc15=true:=by kernel_rfl
theorem hc16_ok:rowsS (biK [ka23]) p9 hc16=true:=by kernel_rfl
theorem hc17_ok:rowsS (biK [ka24]) p9 hc17=true:=by kernel_rfl
theorem hc18_ok:rowsS (biK [ka25]) p9 hc18=true:=by kernel_rfl
theorem hc19_ok:rowsS (biK [ka26]) p9 hc19=true:=by kernel_rfl
theorem hc20_ok:rowsS (biK [ka27]) p9 hc20=true:=by kernel_rfl
theorem hc21_ok:rowsS (biK [ka28]) p9 hc21=true:=by kernel_rfl
theorem hc22_ok:rowsS (biK [ka29]) p9 hc22=true:=by kernel_rfl
theorem hc23_ok:rowsS (biK [ka30]) p9 hc23=true:=by kernel_rfl
theorem hc24_ok:rowsS (biK [ka5]) p9 hc24=true:=by kernel_rfl
theorem hc25_ok:rowsS (biK [ka4]) p9 hc25=true:=by kernel_rfl
theorem hc26_ok:rowsS (biK [ka0]) p9 hc26=true:=by kernel_rfl
theorem hc27_ok:rowsS (biK [ka3]) p9 hc27=true:=by kernel_rfl
theorem hc28_ok:rowsS (biK [ka3]) p9 hc28=true:=by kernel_rfl
theorem hc29_ok:rowsS (biK [ka3]) p9 hc29=true:=by kernel_rfl
theorem hc30_ok:rowsS (biK [ka3]) p9 hc30=true:=by kernel_rfl
theorem hc31_ok:rowsS (biK [ka0]) p9 hc31=true:=by kernel_rfl
theorem hc32_ok:rowsS (biK [ka0]) p9 hc32=true:=by kernel_rfl
theorem hc33_ok:rowsS (biK [ka0]) p9 hc33=true:=by kernel_rfl
theorem hc34_ok:rowsS (biK [ka0]) p9 hc34=true:=by kernel_rfl
theorem hc35_ok:rowsS (biK [ka0]) p9 hc35=true:=by kernel_rfl
theorem hc36_ok:rowsS (biK [ka2]) p9 hc36=true:=by kernel_rfl
end
end EV
end Go.Proofs.YtadggjnohohedaaGreatDoor
