/- TopTampers: for every input the call returns true; part HK0 of the proof. -/
import Derived.Test.YtadggjnohohedaaGreatDoorA9
import Derived.KernelRfl
namespace Go.Proofs.YtadggjnohohedaaGreatDoor
namespace EV
noncomputable section
open Go.RowKit
set_option maxRecDepth 100000
theorem rowTwo_ok:rowsS biA p6 [rowTwo]=true:=by kernel_rfl
theorem rowStart_ok:rowsS biA p7 [rowStart]=true:=by kernel_rfl
theorem rowD_ok:rowsS biA p8 [rowD0,rowD1]=true:=by kernel_rfl
theorem T8_run:rowsS bi2 p8 T8=true:=by kernel_rfl
theorem T11_run:rowsS bi2 p11 T11=true:=by kernel_rfl
theorem ka0_ok:rowS bi2 p31 ka0=true:=by kernel_rfl
theorem ka1_ok:rowS bi2 p31 ka1=true:=by kernel_rfl
theorem ka2_ok:rowS bi2 p31 ka2=true:=by kernel_rfl
theorem ka3_ok:rowS bi2 p31 ka3=true:=by kernel_rfl
theorem ka4_ok:rowS bi2 p31 ka4=true:=by kernel_rfl
theorem ka5_ok:rowS bi2 p31 ka5=true:=by kernel_rfl
theorem ka6_ok:rowS bi2 p31 ka6=true:=by kernel_rfl
theorem ka7_ok:rowS bi2 p31 ka7=true:=by kernel_rfl
theorem ka8_ok:rowS bi2 p31 ka8=true:=by kernel_rfl
theorem ka9_ok:rowS bi2 p31 ka9=true:=by kernel_rfl
theorem ka10_ok:rowS bi2 p31 ka10=true:=by kernel_rfl
theorem ka11_ok:rowS bi2 p31 ka11=true:=by kernel_rfl
theorem ka12_ok:rowS bi2 p31 ka12=true:=by kernel_rfl
theorem ka13_ok:rowS bi2 p31 ka13=true:=by kernel_rfl
theorem ka14_ok:rowS bi2 p31 ka14=true:=by kernel_rfl
theorem ka15_ok:rowS bi2 p31 ka15=true:=by kernel_rfl
theorem ka16_ok:rowS bi2 p31 ka16=true:=by kernel_rfl
theorem ka17_ok:rowS bi2 p31 ka17=true:=by kernel_rfl
theorem ka18_ok:rowS bi2 p31 ka18=true:=by kernel_rfl
theorem ka19_ok:rowS bi2 p31 ka19=true:=by kernel_rfl
theorem ka20_ok:rowS bi2 p31 ka20=true:=by kernel_rfl
theorem ka21_ok:rowS bi2 p31 ka21=true:=by kernel_rfl
theorem ka22_ok:rowS bi2 p31 ka22=true:=by kernel_rfl
theorem ka23_ok:rowS bi2 p31 ka23=true:=by kernel_rfl
theorem ka24_ok:rowS bi2 p31 ka24=true:=by kernel_rfl
theorem ka25_ok:rowS bi2 p31 ka25=true:=by kernel_rfl
theorem ka26_ok:rowS bi2 p31 ka26=true:=by kernel_rfl
theorem ka27_ok:rowS bi2 p31 ka27=true:=by kernel_rfl
theorem ka28_ok:rowS bi2 p31 ka28=true:=by kernel_rfl
theorem ka29_ok:rowS bi2 p31 ka29=true:=by kernel_rfl
theorem ka30_ok:rowS bi2 p31 ka30=true:=by kernel_rfl
theorem kb0_ok:rowS bi2 p31 kb0=true:=by kernel_rfl
theorem kb1_ok:rowS bi2 p31 kb1=true:=by kernel_rfl
theorem kb2_ok:rowS bi2 p31 kb2=true:=by kernel_rfl
theorem kb3_ok:rowS bi2 p31 kb3=true:=by kernel_rfl
theorem kb4_ok:rowS bi2 p31 kb4=true:=by kernel_rfl
theorem kb5_ok:rowS bi2 p31 kb5=true:=by kernel_rfl
theorem kb6_ok:rowS bi2 p31 kb6=true:=by kernel_rfl
theorem kb7_ok:rowS bi2 p31 kb7=true:=by kernel_rfl
theorem kb8_ok:rowS bi2 p31 kb8=true:=by kernel_rfl
theorem kb9_ok:rowS bi2 p31 kb9=true:=by kernel_rfl
theorem kb10_ok:rowS bi2 p31 kb10=true:=by kernel_rfl
theorem kb11_ok:rowS bi2 p31 kb11=true:=by kernel_rfl
theorem kb12_ok:rowS bi2 p31 kb12=true:=by kernel_rfl
theorem kb13_ok:rowS bi2 p31 kb13=true:=by kernel_rfl
theorem kb14_ok:rowS bi2 p31 kb14=true:=by kernel_rfl
theorem kb15_ok:rowS bi2 p31 kb15=true:=by kernel_rfl
theorem kb16_ok:rowS bi2 p31 kb16=true:=by kernel_rfl
theorem kb17_ok:rowS bi2 p31 kb17=true:=by kernel_rfl
theorem kb18_ok:rowS bi2 p31 kb18=true:=by kernel_rfl
theorem kb19_ok:rowS bi2 p31 kb19=true:=by kernel_rfl
theorem kb20_ok:rowS bi2 p31 kb20=true:=by kernel_rfl
theorem kb21_ok:rowS bi2 p31 kb21=true:=by kernel_rfl
theorem kb22_ok:rowS bi2 p31 kb22=true:=by kernel_rfl
theorem kb23_ok:rowS bi2 p31 kb23=true:=by kernel_rfl
theorem kb24_ok:rowS bi2 p31 kb24=true:=by kernel_rfl
theorem kb25_ok:rowS bi2 p31 kb25=true:=by kernel_rfl
theorem kb26_ok:rowS bi2 p31 kb26=true:=by kernel_rfl
theorem kb27_ok:rowS bi2 p31 kb27=true:=by kernel_rfl
theorem kb28_ok:rowS bi2 p31 kb28=true:=by kernel_rfl
theorem kb29_ok:rowS bi2 p31 kb29=true:=by kernel_rfl
theorem kb30_ok:rowS bi2 p31 kb30=true:=by kernel_rfl
theorem kb31_ok:rowS bi2 p31 kb31=true:=by kernel_rfl
theorem kb32_ok:rowS bi2 p31 kb32=true:=by kernel_rfl
theorem kb33_ok:rowS bi2 p31 kb33=true:=by kernel_rfl
end
end EV
end Go.Proofs.YtadggjnohohedaaGreatDoor
