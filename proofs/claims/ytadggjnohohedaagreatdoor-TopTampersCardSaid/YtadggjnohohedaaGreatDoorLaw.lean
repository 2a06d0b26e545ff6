/-
  The tied card of TopTampers: for every input the call returns true, and each argument reads behind the call as it read before.
  No condition beyond the given row: the listed package variables read as the program's text lays them.
-/
import Derived.Test.YtadggjnohohedaaGreatDoorA9
import Derived.Test.YtadggjnohohedaaGreatDoorHR0
import Derived.Test.YtadggjnohohedaaGreatDoorHR1
import Derived.Test.YtadggjnohohedaaGreatDoorHR2
import Derived.Test.YtadggjnohohedaaGreatDoorHR3
import Derived.Test.YtadggjnohohedaaGreatDoorHR4
import Derived.Test.YtadggjnohohedaaGreatDoorHR5
import Derived.Test.YtadggjnohohedaaGreatDoorHR6
import Derived.Test.YtadggjnohohedaaGreatDoorHR7
import Derived.Test.YtadggjnohohedaaGreatDoorHR8
import Derived.Test.YtadggjnohohedaaGreatDoorHR9
import Derived.Test.YtadggjnohohedaaGreatDoorHRA
import Derived.Test.YtadggjnohohedaaGreatDoorHRB
import Derived.Test.YtadggjnohohedaaGreatDoorHRC
import Derived.Test.YtadggjnohohedaaGreatDoorHRD
import Derived.Test.YtadggjnohohedaaGreatDoorHRE
import Derived.Test.YtadggjnohohedaaGreatDoorHRF
import Derived.Test.YtadggjnohohedaaGreatDoorHRG
import Derived.Test.YtadggjnohohedaaGreatDoorHK0
import Derived.Test.YtadggjnohohedaaGreatDoorHK1
import Derived.Test.YtadggjnohohedaaGreatDoorHK2
import Derived.Test.YtadggjnohohedaaGreatDoorHK3
import Derived.Test.YtadggjnohohedaaGreatDoorHT
import Derived.Test.YtadggjnohohedaaGreatDoorHF0
import Derived.Test.YtadggjnohohedaaGreatDoorHF1
import Derived.Test.YtadggjnohohedaaGreatDoorHF2
import Derived.Test.YtadggjnohohedaaGreatDoorHF3
import Derived.Test.YtadggjnohohedaaGreatDoorCards
import Derived.Test.YtadggjnohohedaaGreatDoorTie
import Derived.WalkKit
import Derived.ProofKit
import Derived.OpenShut
import Derived.Deep.DeepHandedRow
set_option linter.unusedVariables false
set_option linter.unusedSimpArgs false
set_option linter.unusedSectionVars false
namespace Go.Proofs.YtadggjnohohedaaGreatDoor
namespace EV
noncomputable section
open Go.RowKit
set_option maxRecDepth 100000
section
variable {W0:World}
theorem noA_ok {f:Nat} (he:Enters Tryz.prog f):BSnd Tryz.prog W0 f noA:=⟨he,fun vs me nx v me' nx' h=>by (cases h),fun vs me nx v me' nx' h=>by (cases h)⟩
theorem fix13_ok (hF:ftab0.Ok Tryz.prog W0) (hmix:Tryz.prog.follows .mixedOrders=true):BSnd Tryz.prog W0 13 fix13:=by
 refine ⟨en13,fun vs me nx v me' nx' h W R g xs hf hx hm=>?_,fun vs me nx v me' nx' h=>?_⟩
 ·unfold fix13 at h
  split at h
  ·injection h with h1 h2 h3; subst h1; subst h2; subst h3
   have:xs=[]:=by simpa [dens] using hx.symm
   subst this
   refine (fixed_calls hF hmix hm).mono ?_
   rintro e w' ⟨rfl,h2⟩
   exact ⟨g,_,rfl,G.ext.refl _ _,hf,Nat.le_refl _,rfl,h2⟩
  ·cases h
 ·unfold fix13 at h
  split at h <;> cases h
theorem run4_sound (hF:ftab0.Ok Tryz.prog W0) (hmix:Tryz.prog.follows .mixedOrders=true) {t8 t9 t11:List Row} (h8:∀ r∈t8,RowOk W0 p8 r) (h9:∀ r∈t9,RowOk W0 p9 r) (h11:∀ r∈t11,RowOk W0 p11 r) (n:Nat):SndF Tryz.prog W0 (runF (bi4 t8 t9 t11) n) :=
 runF_sound (AllT_put p14 _ _ _ (AllT_put p6 _ _ _ (AllT_put p7 _ _ _ (AllT_put p8 _ _ _ (AllT_put p9 _ _ _ (AllT_put p11 _ _ _ (biA_ok hF hmix)
  (tkW_ok (f:=p11) en10 (noA_ok en10) t11 h11)) (tkW_ok (f:=p9) en8 (noA_ok en8) t9 h9)) (tkW_ok (f:=p8) en7 (noA_ok en7) _ (fun r hr=>by
   rcases List.mem_cons.1 hr with rfl | hr
   ·exact rowsOk_of (runA_sound hF hmix 100) rowD_ok _ (by simp)
   ·rcases List.mem_cons.1 hr with rfl | hr
    ·exact rowsOk_of (runA_sound hF hmix 100) rowD_ok _ (by simp)
    ·exact h8 r hr))) (tkW_ok (f:=p7) en6 (noA_ok en6) _ (rowsOk_of (runA_sound hF hmix 100) rowStart_ok))) (tkW_ok (f:=p6) en5 (noA_ok en5) _ (rowsOk_of (runA_sound hF hmix 100) rowTwo_ok))) (fix13_ok hF hmix)) fs_ok hF hmix endd n
end
theorem ao {P:Row→Prop} {l m:List Row} (h:∀ r∈l,P r) (h2:∀ r∈m,P r):∀ r∈app l m,P r:=by
 rw [app_eq]
 intro r hr
 rcases List.mem_append.1 hr with hr | hr
 ·exact h r hr
 ·exact h2 r hr
section
variable {W0:World} (hF:ftab0.Ok Tryz.prog W0) (hmix:Tryz.prog.follows .mixedOrders=true)
include hF hmix
theorem rK {kr:Row} {q:List Row} (h:rowS bi2 p31 kr=true) (hq:rowsS (biK [kr]) p9 q=true):∀ r∈q,RowOk W0 p9 r :=
 rowsOk_of (runK_sound hF hmix (tb:=[kr]) (fun r hr=>by obtain rfl:=List.mem_singleton.1 hr; exact rowOk_of (run2_sound hF hmix 100) h) 100) hq
theorem rL {kr:Row} {q:List Row} (h:rowS bi3 p31 kr=true) (hq:rowsS (biL [kr]) p9 q=true):∀ r∈q,RowOk W0 p9 r :=
 rowsOk_of (runL_sound hF hmix (tb:=[kr]) (fun r hr=>by obtain rfl:=List.mem_singleton.1 hr; exact rowOk_of (run3_sound hF hmix 100) h) 100) hq
theorem r2 {f:Pos} {q:List Row} (hq:rowsS bi2 f q=true):∀ r∈q,RowOk W0 f r:=rowsOk_of (run2_sound hF hmix 100) hq
theorem Z1_0_ok:∀ r∈Z1_0,RowOk W0 p9 r :=
 (rK hF hmix ka5_ok hc24_ok)
theorem Z1_1_ok:∀ r∈Z1_1,RowOk W0 p9 r :=
 (rK hF hmix ka4_ok hc25_ok)
theorem Z1_2_ok:∀ r∈Z1_2,RowOk W0 p9 r :=
 ao (rK hF hmix ka7_ok hc0_ok) (ao (rK hF hmix ka8_ok hc1_ok) (ao (rK hF hmix ka9_ok hc2_ok) (ao (rK hF hmix ka10_ok hc3_ok) (ao (rK hF hmix ka11_ok hc4_ok) (ao (rK hF hmix ka12_ok hc5_ok) (ao (rK hF hmix ka13_ok hc6_ok) (ao (rK hF hmix ka14_ok hc7_ok) (ao (rK hF hmix ka15_ok hc8_ok) (ao (rK hF hmix ka16_ok hc9_ok) (ao (rK hF hmix ka0_ok hc26_ok) (ao (rK hF hmix ka3_ok hc27_ok) (ao (rK hF hmix ka3_ok hc28_ok) (ao (rK hF hmix ka3_ok hc29_ok) (rK hF hmix ka3_ok hc30_ok))))))))))))))
theorem Z1_3_ok:∀ r∈Z1_3,RowOk W0 p9 r :=
 ao (rK hF hmix ka0_ok hc31_ok) (ao (rK hF hmix ka0_ok hc32_ok) (ao (rK hF hmix ka0_ok hc33_ok) (rK hF hmix ka0_ok hc34_ok)))
theorem Z1_4_ok:∀ r∈Z1_4,RowOk W0 p9 r :=
 ao (rK hF hmix ka17_ok hc10_ok) (ao (rK hF hmix ka18_ok hc11_ok) (ao (rK hF hmix ka19_ok hc12_ok) (ao (rK hF hmix ka20_ok hc13_ok) (ao (rK hF hmix ka21_ok hc14_ok) (ao (rK hF hmix ka22_ok hc15_ok) (ao (rK hF hmix ka23_ok hc16_ok) (ao (rK hF hmix ka24_ok hc17_ok) (ao (rK hF hmix ka25_ok hc18_ok) (ao (rK hF hmix ka26_ok hc19_ok) (ao (rK hF hmix ka0_ok hc35_ok) (ao (rK hF hmix ka2_ok hc36_ok) (ao (rK hF hmix ka3_ok hc37_ok) (ao (rK hF hmix ka3_ok hc38_ok) (ao (rK hF hmix ka3_ok hc39_ok) (ao (rK hF hmix ka3_ok hc40_ok) (rK hF hmix ka6_ok hc41_ok))))))))))))))))
theorem Z1_5_ok:∀ r∈Z1_5,RowOk W0 p9 r :=
 ao (rK hF hmix ka27_ok hc20_ok) (ao (rK hF hmix ka28_ok hc21_ok) (ao (rK hF hmix ka29_ok hc22_ok) (ao (rK hF hmix ka30_ok hc23_ok) (ao (rK hF hmix ka0_ok hc42_ok) (ao (rK hF hmix ka1_ok hc43_ok) (ao (rK hF hmix ka1_ok hc44_ok) (ao (rK hF hmix ka1_ok hc45_ok) (rK hF hmix ka1_ok hc46_ok))))))))
theorem Z1_6_ok:∀ r∈Z1_6,RowOk W0 p9 r :=
 ao (rK hF hmix ka0_ok hc47_ok) (ao (rK hF hmix ka0_ok hc48_ok) (ao (rK hF hmix ka0_ok hc49_ok) (rK hF hmix ka0_ok hc50_ok)))
theorem Z2_0_ok:∀ r∈Z2_0,RowOk W0 p9 r :=
 ao (rK hF hmix kb43_ok hc51_ok) (ao (rK hF hmix kb45_ok hc52_ok) (ao (rK hF hmix kb48_ok hc53_ok) (ao (rK hF hmix kb51_ok hc54_ok) (ao (rK hF hmix kb53_ok hc55_ok) (ao (rK hF hmix kb55_ok hc56_ok) (ao (rK hF hmix kb59_ok hc57_ok) (ao (rK hF hmix kb61_ok hc58_ok) (ao (rK hF hmix kb64_ok hc59_ok) (ao (rK hF hmix kb67_ok hc60_ok) (ao (rK hF hmix kb69_ok hc61_ok) (ao (rK hF hmix kb71_ok hc62_ok) (ao (rK hF hmix kb74_ok hc63_ok) (ao (rK hF hmix kb77_ok hc64_ok) (ao (rK hF hmix kb0_ok hc144_ok) (ao (rK hF hmix kb0_ok hc145_ok) (ao (rK hF hmix kb7_ok hc146_ok) (ao (rK hF hmix kb7_ok hc147_ok) (ao (rK hF hmix kb14_ok hc148_ok) (ao (rK hF hmix kb17_ok hc149_ok) (ao (rK hF hmix kb17_ok hc150_ok) (ao (rK hF hmix kb24_ok hc151_ok) (ao (rK hF hmix kb24_ok hc152_ok) (ao (rK hF hmix kb31_ok hc153_ok) (ao (rK hF hmix kb31_ok hc154_ok) (rK hF hmix kb38_ok hc155_ok)))))))))))))))))))))))))
theorem Z2_1_ok:∀ r∈Z2_1,RowOk W0 p9 r :=
 ao (rK hF hmix kb41_ok hc65_ok) (ao (rK hF hmix kb42_ok hc66_ok) (ao (rK hF hmix kb44_ok hc67_ok) (ao (rK hF hmix kb46_ok hc68_ok) (ao (rK hF hmix kb47_ok hc69_ok) (ao (rK hF hmix kb49_ok hc70_ok) (ao (rK hF hmix kb50_ok hc71_ok) (ao (rK hF hmix kb52_ok hc72_ok) (ao (rK hF hmix kb54_ok hc73_ok) (ao (rK hF hmix kb56_ok hc74_ok) (ao (rK hF hmix kb57_ok hc75_ok) (ao (rK hF hmix kb58_ok hc76_ok) (ao (rK hF hmix kb60_ok hc77_ok) (ao (rK hF hmix kb62_ok hc78_ok) (ao (rK hF hmix kb63_ok hc79_ok) (ao (rK hF hmix kb65_ok hc80_ok) (ao (rK hF hmix kb66_ok hc81_ok) (ao (rK hF hmix kb68_ok hc82_ok) (ao (rK hF hmix kb70_ok hc83_ok) (ao (rK hF hmix kb72_ok hc84_ok) (ao (rK hF hmix kb73_ok hc85_ok) (ao (rK hF hmix kb75_ok hc86_ok) (ao (rK hF hmix kb76_ok hc87_ok) (ao (rK hF hmix kb78_ok hc88_ok) (ao (rK hF hmix kb2_ok hc117_ok) (ao (rK hF hmix kb3_ok hc118_ok) (ao (rK hF hmix kb4_ok hc119_ok) (ao (rK hF hmix kb5_ok hc120_ok) (ao (rK hF hmix kb6_ok hc121_ok) (ao (rK hF hmix kb9_ok hc122_ok) (ao (rK hF hmix kb10_ok hc123_ok) (ao (rK hF hmix kb11_ok hc124_ok) (ao (rK hF hmix kb12_ok hc125_ok) (ao (rK hF hmix kb13_ok hc126_ok) (ao (rK hF hmix kb16_ok hc127_ok) (ao (rK hF hmix kb19_ok hc128_ok) (ao (rK hF hmix kb20_ok hc129_ok) (ao (rK hF hmix kb21_ok hc130_ok) (ao (rK hF hmix kb22_ok hc131_ok) (ao (rK hF hmix kb23_ok hc132_ok) (ao (rK hF hmix kb26_ok hc133_ok) (ao (rK hF hmix kb27_ok hc134_ok) (ao (rK hF hmix kb28_ok hc135_ok) (ao (rK hF hmix kb29_ok hc136_ok) (ao (rK hF hmix kb30_ok hc137_ok) (ao (rK hF hmix kb33_ok hc138_ok) (ao (rK hF hmix kb34_ok hc139_ok) (ao (rK hF hmix kb35_ok hc140_ok) (ao (rK hF hmix kb36_ok hc141_ok) (ao (rK hF hmix kb37_ok hc142_ok) (ao (rK hF hmix kb40_ok hc143_ok) (ao (rK hF hmix kb0_ok hc156_ok) (ao (rK hF hmix kb1_ok hc157_ok) (ao (rK hF hmix kb1_ok hc158_ok) (ao (rK hF hmix kb1_ok hc159_ok) (ao (rK hF hmix kb1_ok hc160_ok) (ao (rK hF hmix kb1_ok hc161_ok) (ao (rK hF hmix kb7_ok hc162_ok) (ao (rK hF hmix kb8_ok hc163_ok) (ao (rK hF hmix kb8_ok hc164_ok) (ao (rK hF hmix kb8_ok hc165_ok) (ao (rK hF hmix kb8_ok hc166_ok) (ao (rK hF hmix kb8_ok hc167_ok) (ao (rK hF hmix kb15_ok hc168_ok) (ao (rK hF hmix kb17_ok hc169_ok) (ao (rK hF hmix kb18_ok hc170_ok) (ao (rK hF hmix kb18_ok hc171_ok) (ao (rK hF hmix kb18_ok hc172_ok) (ao (rK hF hmix kb18_ok hc173_ok) (ao (rK hF hmix kb18_ok hc174_ok) (ao (rK hF hmix kb24_ok hc175_ok) (ao (rK hF hmix kb25_ok hc176_ok) (ao (rK hF hmix kb25_ok hc177_ok) (ao (rK hF hmix kb25_ok hc178_ok) (ao (rK hF hmix kb25_ok hc179_ok) (ao (rK hF hmix kb25_ok hc180_ok) (ao (rK hF hmix kb25_ok hc181_ok) (ao (rK hF hmix kb31_ok hc182_ok) (ao (rK hF hmix kb32_ok hc183_ok) (ao (rK hF hmix kb32_ok hc184_ok) (ao (rK hF hmix kb32_ok hc185_ok) (ao (rK hF hmix kb32_ok hc186_ok) (ao (rK hF hmix kb32_ok hc187_ok) (ao (rK hF hmix kb32_ok hc188_ok) (rK hF hmix kb39_ok hc189_ok))))))))))))))))))))))))))))))))))))))))))))))))))))))))))))))))))))))))))))))))))))
theorem Z2_2_ok:∀ r∈Z2_2,RowOk W0 p9 r :=
 ao (rK hF hmix kb44_ok hc89_ok) (ao (rK hF hmix kb46_ok hc90_ok) (ao (rK hF hmix kb49_ok hc91_ok) (ao (rK hF hmix kb52_ok hc92_ok) (ao (rK hF hmix kb54_ok hc93_ok) (ao (rK hF hmix kb56_ok hc94_ok) (ao (rK hF hmix kb60_ok hc95_ok) (ao (rK hF hmix kb62_ok hc96_ok) (ao (rK hF hmix kb65_ok hc97_ok) (ao (rK hF hmix kb68_ok hc98_ok) (ao (rK hF hmix kb70_ok hc99_ok) (ao (rK hF hmix kb72_ok hc100_ok) (ao (rK hF hmix kb75_ok hc101_ok) (ao (rK hF hmix kb78_ok hc102_ok) (ao (rK hF hmix kb0_ok hc190_ok) (ao (rK hF hmix kb1_ok hc191_ok) (ao (rK hF hmix kb1_ok hc192_ok) (ao (rK hF hmix kb1_ok hc193_ok) (ao (rK hF hmix kb1_ok hc194_ok) (ao (rK hF hmix kb1_ok hc195_ok) (ao (rK hF hmix kb7_ok hc196_ok) (ao (rK hF hmix kb8_ok hc197_ok) (ao (rK hF hmix kb8_ok hc198_ok) (ao (rK hF hmix kb8_ok hc199_ok) (ao (rK hF hmix kb8_ok hc200_ok) (ao (rK hF hmix kb8_ok hc201_ok) (ao (rK hF hmix kb15_ok hc202_ok) (ao (rK hF hmix kb17_ok hc203_ok) (ao (rK hF hmix kb18_ok hc204_ok) (ao (rK hF hmix kb18_ok hc205_ok) (ao (rK hF hmix kb18_ok hc206_ok) (ao (rK hF hmix kb18_ok hc207_ok) (ao (rK hF hmix kb18_ok hc208_ok) (ao (rK hF hmix kb24_ok hc209_ok) (ao (rK hF hmix kb25_ok hc210_ok) (ao (rK hF hmix kb25_ok hc211_ok) (ao (rK hF hmix kb25_ok hc212_ok) (ao (rK hF hmix kb25_ok hc213_ok) (ao (rK hF hmix kb25_ok hc214_ok) (ao (rK hF hmix kb25_ok hc215_ok) (ao (rK hF hmix kb31_ok hc216_ok) (ao (rK hF hmix kb32_ok hc217_ok) (ao (rK hF hmix kb32_ok hc218_ok) (ao (rK hF hmix kb32_ok hc219_ok) (ao (rK hF hmix kb32_ok hc220_ok) (ao (rK hF hmix kb32_ok hc221_ok) (ao (rK hF hmix kb32_ok hc222_ok) (rK hF hmix kb39_ok hc223_ok)))))))))))))))))))))))))))))))))))))))))))))))
theorem Z2_3_ok:∀ r∈Z2_3,RowOk W0 p9 r :=
 ao (rK hF hmix kb43_ok hc103_ok) (ao (rK hF hmix kb45_ok hc104_ok) (ao (rK hF hmix kb48_ok hc105_ok) (ao (rK hF hmix kb51_ok hc106_ok) (ao (rK hF hmix kb53_ok hc107_ok) (ao (rK hF hmix kb55_ok hc108_ok) (ao (rK hF hmix kb59_ok hc109_ok) (ao (rK hF hmix kb61_ok hc110_ok) (ao (rK hF hmix kb64_ok hc111_ok) (ao (rK hF hmix kb67_ok hc112_ok) (ao (rK hF hmix kb69_ok hc113_ok) (ao (rK hF hmix kb71_ok hc114_ok) (ao (rK hF hmix kb74_ok hc115_ok) (ao (rK hF hmix kb77_ok hc116_ok) (ao (rK hF hmix kb0_ok hc224_ok) (ao (rK hF hmix kb0_ok hc225_ok) (ao (rK hF hmix kb0_ok hc226_ok) (ao (rK hF hmix kb0_ok hc227_ok) (ao (rK hF hmix kb0_ok hc228_ok) (ao (rK hF hmix kb7_ok hc229_ok) (ao (rK hF hmix kb7_ok hc230_ok) (ao (rK hF hmix kb7_ok hc231_ok) (ao (rK hF hmix kb7_ok hc232_ok) (ao (rK hF hmix kb7_ok hc233_ok) (ao (rK hF hmix kb14_ok hc234_ok) (ao (rK hF hmix kb17_ok hc235_ok) (ao (rK hF hmix kb17_ok hc236_ok) (ao (rK hF hmix kb17_ok hc237_ok) (ao (rK hF hmix kb17_ok hc238_ok) (ao (rK hF hmix kb17_ok hc239_ok) (ao (rK hF hmix kb24_ok hc240_ok) (ao (rK hF hmix kb24_ok hc241_ok) (ao (rK hF hmix kb24_ok hc242_ok) (ao (rK hF hmix kb24_ok hc243_ok) (ao (rK hF hmix kb24_ok hc244_ok) (ao (rK hF hmix kb24_ok hc245_ok) (ao (rK hF hmix kb31_ok hc246_ok) (ao (rK hF hmix kb31_ok hc247_ok) (ao (rK hF hmix kb31_ok hc248_ok) (ao (rK hF hmix kb31_ok hc249_ok) (ao (rK hF hmix kb31_ok hc250_ok) (ao (rK hF hmix kb31_ok hc251_ok) (rK hF hmix kb38_ok hc252_ok))))))))))))))))))))))))))))))))))))))))))
theorem Z3_0_ok:∀ r∈Z3_0,RowOk W0 p9 r :=
 ao (rL hF hmix cb43_ok hc253_ok) (ao (rL hF hmix cb45_ok hc254_ok) (ao (rL hF hmix cb48_ok hc255_ok) (ao (rL hF hmix cb51_ok hc256_ok) (ao (rL hF hmix cb53_ok hc257_ok) (ao (rL hF hmix cb55_ok hc258_ok) (ao (rL hF hmix cb59_ok hc259_ok) (ao (rL hF hmix cb61_ok hc260_ok) (ao (rL hF hmix cb64_ok hc261_ok) (ao (rL hF hmix cb67_ok hc262_ok) (ao (rL hF hmix cb69_ok hc263_ok) (ao (rL hF hmix cb71_ok hc264_ok) (ao (rL hF hmix cb74_ok hc265_ok) (ao (rL hF hmix cb77_ok hc266_ok) (ao (rL hF hmix cb0_ok hc346_ok) (ao (rL hF hmix cb0_ok hc347_ok) (ao (rL hF hmix cb7_ok hc348_ok) (ao (rL hF hmix cb7_ok hc349_ok) (ao (rL hF hmix cb14_ok hc350_ok) (ao (rL hF hmix cb17_ok hc351_ok) (ao (rL hF hmix cb17_ok hc352_ok) (ao (rL hF hmix cb24_ok hc353_ok) (ao (rL hF hmix cb24_ok hc354_ok) (ao (rL hF hmix cb31_ok hc355_ok) (ao (rL hF hmix cb31_ok hc356_ok) (rL hF hmix cb38_ok hc357_ok)))))))))))))))))))))))))
theorem Z3_1_ok:∀ r∈Z3_1,RowOk W0 p9 r :=
 ao (rL hF hmix cb41_ok hc267_ok) (ao (rL hF hmix cb42_ok hc268_ok) (ao (rL hF hmix cb44_ok hc269_ok) (ao (rL hF hmix cb46_ok hc270_ok) (ao (rL hF hmix cb47_ok hc271_ok) (ao (rL hF hmix cb49_ok hc272_ok) (ao (rL hF hmix cb50_ok hc273_ok) (ao (rL hF hmix cb52_ok hc274_ok) (ao (rL hF hmix cb54_ok hc275_ok) (ao (rL hF hmix cb56_ok hc276_ok) (ao (rL hF hmix cb57_ok hc277_ok) (ao (rL hF hmix cb58_ok hc278_ok) (ao (rL hF hmix cb60_ok hc279_ok) (ao (rL hF hmix cb62_ok hc280_ok) (ao (rL hF hmix cb63_ok hc281_ok) (ao (rL hF hmix cb65_ok hc282_ok) (ao (rL hF hmix cb66_ok hc283_ok) (ao (rL hF hmix cb68_ok hc284_ok) (ao (rL hF hmix cb70_ok hc285_ok) (ao (rL hF hmix cb72_ok hc286_ok) (ao (rL hF hmix cb73_ok hc287_ok) (ao (rL hF hmix cb75_ok hc288_ok) (ao (rL hF hmix cb76_ok hc289_ok) (ao (rL hF hmix cb78_ok hc290_ok) (ao (rL hF hmix cb2_ok hc319_ok) (ao (rL hF hmix cb3_ok hc320_ok) (ao (rL hF hmix cb4_ok hc321_ok) (ao (rL hF hmix cb5_ok hc322_ok) (ao (rL hF hmix cb6_ok hc323_ok) (ao (rL hF hmix cb9_ok hc324_ok) (ao (rL hF hmix cb10_ok hc325_ok) (ao (rL hF hmix cb11_ok hc326_ok) (ao (rL hF hmix cb12_ok hc327_ok) (ao (rL hF hmix cb13_ok hc328_ok) (ao (rL hF hmix cb16_ok hc329_ok) (ao (rL hF hmix cb19_ok hc330_ok) (ao (rL hF hmix cb20_ok hc331_ok) (ao (rL hF hmix cb21_ok hc332_ok) (ao (rL hF hmix cb22_ok hc333_ok) (ao (rL hF hmix cb23_ok hc334_ok) (ao (rL hF hmix cb26_ok hc335_ok) (ao (rL hF hmix cb27_ok hc336_ok) (ao (rL hF hmix cb28_ok hc337_ok) (ao (rL hF hmix cb29_ok hc338_ok) (ao (rL hF hmix cb30_ok hc339_ok) (ao (rL hF hmix cb33_ok hc340_ok) (ao (rL hF hmix cb34_ok hc341_ok) (ao (rL hF hmix cb35_ok hc342_ok) (ao (rL hF hmix cb36_ok hc343_ok) (ao (rL hF hmix cb37_ok hc344_ok) (ao (rL hF hmix cb40_ok hc345_ok) (ao (rL hF hmix cb0_ok hc358_ok) (ao (rL hF hmix cb1_ok hc359_ok) (ao (rL hF hmix cb1_ok hc360_ok) (ao (rL hF hmix cb1_ok hc361_ok) (ao (rL hF hmix cb1_ok hc362_ok) (ao (rL hF hmix cb1_ok hc363_ok) (ao (rL hF hmix cb1_ok hc364_ok) (ao (rL hF hmix cb7_ok hc365_ok) (ao (rL hF hmix cb8_ok hc366_ok) (ao (rL hF hmix cb8_ok hc367_ok) (ao (rL hF hmix cb8_ok hc368_ok) (ao (rL hF hmix cb8_ok hc369_ok) (ao (rL hF hmix cb8_ok hc370_ok) (ao (rL hF hmix cb8_ok hc371_ok) (ao (rL hF hmix cb15_ok hc372_ok) (ao (rL hF hmix cb17_ok hc373_ok) (ao (rL hF hmix cb18_ok hc374_ok) (ao (rL hF hmix cb18_ok hc375_ok) (ao (rL hF hmix cb18_ok hc376_ok) (ao (rL hF hmix cb18_ok hc377_ok) (ao (rL hF hmix cb18_ok hc378_ok) (ao (rL hF hmix cb18_ok hc379_ok) (ao (rL hF hmix cb24_ok hc380_ok) (ao (rL hF hmix cb25_ok hc381_ok) (ao (rL hF hmix cb25_ok hc382_ok) (ao (rL hF hmix cb25_ok hc383_ok) (ao (rL hF hmix cb25_ok hc384_ok) (ao (rL hF hmix cb25_ok hc385_ok) (ao (rL hF hmix cb25_ok hc386_ok) (ao (rL hF hmix cb31_ok hc387_ok) (ao (rL hF hmix cb32_ok hc388_ok) (ao (rL hF hmix cb32_ok hc389_ok) (ao (rL hF hmix cb32_ok hc390_ok) (ao (rL hF hmix cb32_ok hc391_ok) (ao (rL hF hmix cb32_ok hc392_ok) (ao (rL hF hmix cb32_ok hc393_ok) (rL hF hmix cb39_ok hc394_ok)))))))))))))))))))))))))))))))))))))))))))))))))))))))))))))))))))))))))))))))))))))))
theorem Z3_2_ok:∀ r∈Z3_2,RowOk W0 p9 r :=
 ao (rL hF hmix ub44_ok hc291_ok) (ao (rL hF hmix ub46_ok hc292_ok) (ao (rL hF hmix ub49_ok hc293_ok) (ao (rL hF hmix ub52_ok hc294_ok) (ao (rL hF hmix ub54_ok hc295_ok) (ao (rL hF hmix ub56_ok hc296_ok) (ao (rL hF hmix ub60_ok hc297_ok) (ao (rL hF hmix ub62_ok hc298_ok) (ao (rL hF hmix ub65_ok hc299_ok) (ao (rL hF hmix ub68_ok hc300_ok) (ao (rL hF hmix ub70_ok hc301_ok) (ao (rL hF hmix ub72_ok hc302_ok) (ao (rL hF hmix ub75_ok hc303_ok) (ao (rL hF hmix ub78_ok hc304_ok) (ao (rL hF hmix ub0_ok hc395_ok) (ao (rL hF hmix ub1_ok hc396_ok) (ao (rL hF hmix ub1_ok hc397_ok) (ao (rL hF hmix ub7_ok hc398_ok) (ao (rL hF hmix ub8_ok hc399_ok) (ao (rL hF hmix ub8_ok hc400_ok) (ao (rL hF hmix ub15_ok hc401_ok) (ao (rL hF hmix ub17_ok hc402_ok) (ao (rL hF hmix ub18_ok hc403_ok) (ao (rL hF hmix ub18_ok hc404_ok) (ao (rL hF hmix ub24_ok hc405_ok) (ao (rL hF hmix ub25_ok hc406_ok) (ao (rL hF hmix ub25_ok hc407_ok) (ao (rL hF hmix ub31_ok hc408_ok) (ao (rL hF hmix ub32_ok hc409_ok) (ao (rL hF hmix ub32_ok hc410_ok) (rL hF hmix ub39_ok hc411_ok))))))))))))))))))))))))))))))
theorem Z3_3_ok:∀ r∈Z3_3,RowOk W0 p9 r :=
 ao (rL hF hmix cb43_ok hc305_ok) (ao (rL hF hmix cb45_ok hc306_ok) (ao (rL hF hmix cb48_ok hc307_ok) (ao (rL hF hmix cb51_ok hc308_ok) (ao (rL hF hmix cb53_ok hc309_ok) (ao (rL hF hmix cb55_ok hc310_ok) (ao (rL hF hmix cb59_ok hc311_ok) (ao (rL hF hmix cb61_ok hc312_ok) (ao (rL hF hmix cb64_ok hc313_ok) (ao (rL hF hmix cb67_ok hc314_ok) (ao (rL hF hmix cb69_ok hc315_ok) (ao (rL hF hmix cb71_ok hc316_ok) (ao (rL hF hmix cb74_ok hc317_ok) (ao (rL hF hmix cb77_ok hc318_ok) (ao (rL hF hmix cb0_ok hc412_ok) (ao (rL hF hmix cb0_ok hc413_ok) (ao (rL hF hmix cb7_ok hc414_ok) (ao (rL hF hmix cb7_ok hc415_ok) (ao (rL hF hmix cb14_ok hc416_ok) (ao (rL hF hmix cb17_ok hc417_ok) (ao (rL hF hmix cb17_ok hc418_ok) (ao (rL hF hmix cb24_ok hc419_ok) (ao (rL hF hmix cb24_ok hc420_ok) (ao (rL hF hmix cb31_ok hc421_ok) (ao (rL hF hmix cb31_ok hc422_ok) (rL hF hmix cb38_ok hc423_ok)))))))))))))))))))))))))
theorem T8_ok:∀ r∈T8,RowOk W0 p8 r:=r2 hF hmix T8_run
theorem T11_ok:∀ r∈T11,RowOk W0 p11 r:=r2 hF hmix T11_run
end
theorem allN_spec {p:Nat→Bool}:∀ {n k:Nat},allN p n k=true→∀ m,k≤m→m < k + n→p m=true
 | 0,k,_,m,h1,h2=>by omega
 | n + 1,k,h,m,h1,h2=>by
  have h':(and (p k) (allN p n (k + 1)))=true:=h
  simp only [Bool.and_eq_true] at h'
  rcases Nat.lt_or_ge k m with h3 | h3
  ·exact allN_spec h'.2 m (by omega) (by omega)
  ·have:m=k:=by omega
   subst this; exact h'.1
theorem a8 {p:Nat→Bool} (h0:allN p 32 0=true) (h1:allN p 32 32=true) (h2:allN p 32 64=true) (h3:allN p 32 96=true) (h4:allN p 32 128=true) (h5:allN p 32 160=true) (h6:allN p 32 192=true) (h7:allN p 32 224=true) (n:Nat) (hn:n < 256):p n=true:=by
 rcases (show n < 32∨(32≤n∧n < 64)∨(64≤n∧n < 96)∨(96≤n∧n < 128)∨(128≤n∧n < 160)∨(160≤n∧n < 192)∨(192≤n∧n < 224)∨224≤n by omega) with h | h | h | h | h | h | h | h
 ·exact allN_spec h0 n (by omega) (by omega)
 ·exact allN_spec h1 n (by omega) (by omega)
 ·exact allN_spec h2 n (by omega) (by omega)
 ·exact allN_spec h3 n (by omega) (by omega)
 ·exact allN_spec h4 n (by omega) (by omega)
 ·exact allN_spec h5 n (by omega) (by omega)
 ·exact allN_spec h6 n (by omega) (by omega)
 ·exact allN_spec h7 n (by omega) (by omega)
theorem okR_ret {r:RF} (h:okR r=true):∃ me nx,r=.ret (.b true) me nx:=by
 unfold okR at h
 split at h
 ·rename_i x me nx
  subst h; exact ⟨me,nx,rfl⟩
 ·cases h
section
variable {W0:World}
theorem top_run (hF:ftab0.Ok Tryz.prog W0) (hmix:Tryz.prog.follows .mixedOrders=true) {l m r:List Row} (h1:∀ q∈l,RowOk W0 p9 q) (h2:∀ q∈m,RowOk W0 p9 q) (h3:∀ q∈r,RowOk W0 p9 q) {what n:Nat} (hw:what < 256) (hn:n < 256) (h:topR l m r (what % 7) (what % 4) n=true) {W:World} (hs:Sts W0 W []) :
  Calls Tryz.prog 3 [.int .u8 what,.int .u8 n].toArray W fun e w'=>e=.returned (.bool true)∧Sts W0 w' []:=by
 obtain ⟨me,nx,hr⟩:=okR_ret h
 refine ((run4_sound hF hmix (fun r hr=>T8_ok hF hmix r (List.mem_reverse.1 hr)) (ao h1 (ao h2 h3)) (fun r hr=>T11_ok hF hmix r (List.mem_reverse.1 hr)) 100).1 p4 _ _ _ _ _ _ hr W [] ⟨fun _=>none,what,0,hw,by decide⟩ [.int .u8 what,.int .u8 n] (fun _ _=>rfl) ?_ hs).mono ?_
 ·have e1:den (⟨fun _=>none,what,0,hw,by decide⟩:G) (.w .u8 (what % 7) (what % 4))=some (.int .u8 what):=by
   show (if ((what % 7=7∨what % 7=what % 7)∧(what % 4=4∨what % 4=what % 4)) then some (Value.int .u8 what) else none)=_
   rw [if_pos ⟨.inr rfl,.inr rfl⟩]
  have e2:den (⟨fun _=>none,what,0,hw,by decide⟩:G) (.i .u8 (.ofNat n))=some (.int .u8 n):=rfl
  simp only [dens,e1,e2]
 ·rintro e w' ⟨g',x,rfl,k1,k2,k3,k4,k5⟩
  have:x=.bool true:=(Option.some.inj (show some (Value.bool true)=some x from k4)).symm
  subst this
  exact ⟨rfl,drop_mem k5⟩
theorem top_all (hF:ftab0.Ok Tryz.prog W0) (hmix:Tryz.prog.follows .mixedOrders=true) {what n:Nat} (hw:what < 256) (hn:n < 256) {W:World} (hs:Sts W0 W []) :
  Calls Tryz.prog 3 [.int .u8 what,.int .u8 n].toArray W fun e w'=>e=.returned (.bool true)∧Sts W0 w' []:=by
 have ha:what % 7 < 7:=Nat.mod_lt _ (by decide)
 have hb:what % 4 < 4:=Nat.mod_lt _ (by decide)
 have key:∀ a b,a=what % 7→b=what % 4→a < 7→b < 4→Calls Tryz.prog 3 [.int .u8 what,.int .u8 n].toArray W fun e w'=>e=.returned (.bool true)∧Sts W0 w' []:=by
  intro a b ea eb ha hb
  match a,b,ha,hb,ea,eb with
  | 0,0,_,_,ea,eb=>exact top_run hF hmix (Z1_0_ok hF hmix) (Z2_0_ok hF hmix) (Z3_0_ok hF hmix) hw hn (by rw [← ea,← eb]; exact a8 t0_0_0 t0_0_1 t0_0_2 t0_0_3 t0_0_4 t0_0_5 t0_0_6 t0_0_7 n hn) hs
  | 0,1,_,_,ea,eb=>exact top_run hF hmix (Z1_0_ok hF hmix) (Z2_1_ok hF hmix) (Z3_1_ok hF hmix) hw hn (by rw [← ea,← eb]; exact a8 t0_1_0 t0_1_1 t0_1_2 t0_1_3 t0_1_4 t0_1_5 t0_1_6 t0_1_7 n hn) hs
  | 0,2,_,_,ea,eb=>exact top_run hF hmix (Z1_0_ok hF hmix) (Z2_2_ok hF hmix) (Z3_2_ok hF hmix) hw hn (by rw [← ea,← eb]; exact a8 t0_2_0 t0_2_1 t0_2_2 t0_2_3 t0_2_4 t0_2_5 t0_2_6 t0_2_7 n hn) hs
  | 0,3,_,_,ea,eb=>exact top_run hF hmix (Z1_0_ok hF hmix) (Z2_3_ok hF hmix) (Z3_3_ok hF hmix) hw hn (by rw [← ea,← eb]; exact a8 t0_3_0 t0_3_1 t0_3_2 t0_3_3 t0_3_4 t0_3_5 t0_3_6 t0_3_7 n hn) hs
  | 1,0,_,_,ea,eb=>exact top_run hF hmix (Z1_1_ok hF hmix) (Z2_0_ok hF hmix) (Z3_0_ok hF hmix) hw hn (by rw [← ea,← eb]; exact a8 t1_0_0 t1_0_1 t1_0_2 t1_0_3 t1_0_4 t1_0_5 t1_0_6 t1_0_7 n hn) hs
  | 1,1,_,_,ea,eb=>exact top_run hF hmix (Z1_1_ok hF hmix) (Z2_1_ok hF hmix) (Z3_1_ok hF hmix) hw hn (by rw [← ea,← eb]; exact a8 t1_1_0 t1_1_1 t1_1_2 t1_1_3 t1_1_4 t1_1_5 t1_1_6 t1_1_7 n hn) hs
  | 1,2,_,_,ea,eb=>exact top_run hF hmix (Z1_1_ok hF hmix) (Z2_2_ok hF hmix) (Z3_2_ok hF hmix) hw hn (by rw [← ea,← eb]; exact a8 t1_2_0 t1_2_1 t1_2_2 t1_2_3 t1_2_4 t1_2_5 t1_2_6 t1_2_7 n hn) hs
  | 1,3,_,_,ea,eb=>exact top_run hF hmix (Z1_1_ok hF hmix) (Z2_3_ok hF hmix) (Z3_3_ok hF hmix) hw hn (by rw [← ea,← eb]; exact a8 t1_3_0 t1_3_1 t1_3_2 t1_3_3 t1_3_4 t1_3_5 t1_3_6 t1_3_7 n hn) hs
  | 2,0,_,_,ea,eb=>exact top_run hF hmix (Z1_2_ok hF hmix) (Z2_0_ok hF hmix) (Z3_0_ok hF hmix) hw hn (by rw [← ea,← eb]; exact a8 t2_0_0 t2_0_1 t2_0_2 t2_0_3 t2_0_4 t2_0_5 t2_0_6 t2_0_7 n hn) hs
  | 2,1,_,_,ea,eb=>exact top_run hF hmix (Z1_2_ok hF hmix) (Z2_1_ok hF hmix) (Z3_1_ok hF hmix) hw hn (by rw [← ea,← eb]; exact a8 t2_1_0 t2_1_1 t2_1_2 t2_1_3 t2_1_4 t2_1_5 t2_1_6 t2_1_7 n hn) hs
  | 2,2,_,_,ea,eb=>exact top_run hF hmix (Z1_2_ok hF hmix) (Z2_2_ok hF hmix) (Z3_2_ok hF hmix) hw hn (by rw [← ea,← eb]; exact a8 t2_2_0 t2_2_1 t2_2_2 t2_2_3 t2_2_4 t2_2_5 t2_2_6 t2_2_7 n hn) hs
  | 2,3,_,_,ea,eb=>exact top_run hF hmix (Z1_2_ok hF hmix) (Z2_3_ok hF hmix) (Z3_3_ok hF hmix) hw hn (by rw [← ea,← eb]; exact a8 t2_3_0 t2_3_1 t2_3_2 t2_3_3 t2_3_4 t2_3_5 t2_3_6 t2_3_7 n hn) hs
  | 3,0,_,_,ea,eb=>exact top_run hF hmix (Z1_3_ok hF hmix) (Z2_0_ok hF hmix) (Z3_0_ok hF hmix) hw hn (by rw [← ea,← eb]; exact a8 t3_0_0 t3_0_1 t3_0_2 t3_0_3 t3_0_4 t3_0_5 t3_0_6 t3_0_7 n hn) hs
  | 3,1,_,_,ea,eb=>exact top_run hF hmix (Z1_3_ok hF hmix) (Z2_1_ok hF hmix) (Z3_1_ok hF hmix) hw hn (by rw [← ea,← eb]; exact a8 t3_1_0 t3_1_1 t3_1_2 t3_1_3 t3_1_4 t3_1_5 t3_1_6 t3_1_7 n hn) hs
  | 3,2,_,_,ea,eb=>exact top_run hF hmix (Z1_3_ok hF hmix) (Z2_2_ok hF hmix) (Z3_2_ok hF hmix) hw hn (by rw [← ea,← eb]; exact a8 t3_2_0 t3_2_1 t3_2_2 t3_2_3 t3_2_4 t3_2_5 t3_2_6 t3_2_7 n hn) hs
  | 3,3,_,_,ea,eb=>exact top_run hF hmix (Z1_3_ok hF hmix) (Z2_3_ok hF hmix) (Z3_3_ok hF hmix) hw hn (by rw [← ea,← eb]; exact a8 t3_3_0 t3_3_1 t3_3_2 t3_3_3 t3_3_4 t3_3_5 t3_3_6 t3_3_7 n hn) hs
  | 4,0,_,_,ea,eb=>exact top_run hF hmix (Z1_4_ok hF hmix) (Z2_0_ok hF hmix) (Z3_0_ok hF hmix) hw hn (by rw [← ea,← eb]; exact a8 t4_0_0 t4_0_1 t4_0_2 t4_0_3 t4_0_4 t4_0_5 t4_0_6 t4_0_7 n hn) hs
  | 4,1,_,_,ea,eb=>exact top_run hF hmix (Z1_4_ok hF hmix) (Z2_1_ok hF hmix) (Z3_1_ok hF hmix) hw hn (by rw [← ea,← eb]; exact a8 t4_1_0 t4_1_1 t4_1_2 t4_1_3 t4_1_4 t4_1_5 t4_1_6 t4_1_7 n hn) hs
  | 4,2,_,_,ea,eb=>exact top_run hF hmix (Z1_4_ok hF hmix) (Z2_2_ok hF hmix) (Z3_2_ok hF hmix) hw hn (by rw [← ea,← eb]; exact a8 t4_2_0 t4_2_1 t4_2_2 t4_2_3 t4_2_4 t4_2_5 t4_2_6 t4_2_7 n hn) hs
  | 4,3,_,_,ea,eb=>exact top_run hF hmix (Z1_4_ok hF hmix) (Z2_3_ok hF hmix) (Z3_3_ok hF hmix) hw hn (by rw [← ea,← eb]; exact a8 t4_3_0 t4_3_1 t4_3_2 t4_3_3 t4_3_4 t4_3_5 t4_3_6 t4_3_7 n hn) hs
  | 5,0,_,_,ea,eb=>exact top_run hF hmix (Z1_5_ok hF hmix) (Z2_0_ok hF hmix) (Z3_0_ok hF hmix) hw hn (by rw [← ea,← eb]; exact a8 t5_0_0 t5_0_1 t5_0_2 t5_0_3 t5_0_4 t5_0_5 t5_0_6 t5_0_7 n hn) hs
  | 5,1,_,_,ea,eb=>exact top_run hF hmix (Z1_5_ok hF hmix) (Z2_1_ok hF hmix) (Z3_1_ok hF hmix) hw hn (by rw [← ea,← eb]; exact a8 t5_1_0 t5_1_1 t5_1_2 t5_1_3 t5_1_4 t5_1_5 t5_1_6 t5_1_7 n hn) hs
  | 5,2,_,_,ea,eb=>exact top_run hF hmix (Z1_5_ok hF hmix) (Z2_2_ok hF hmix) (Z3_2_ok hF hmix) hw hn (by rw [← ea,← eb]; exact a8 t5_2_0 t5_2_1 t5_2_2 t5_2_3 t5_2_4 t5_2_5 t5_2_6 t5_2_7 n hn) hs
  | 5,3,_,_,ea,eb=>exact top_run hF hmix (Z1_5_ok hF hmix) (Z2_3_ok hF hmix) (Z3_3_ok hF hmix) hw hn (by rw [← ea,← eb]; exact a8 t5_3_0 t5_3_1 t5_3_2 t5_3_3 t5_3_4 t5_3_5 t5_3_6 t5_3_7 n hn) hs
  | 6,0,_,_,ea,eb=>exact top_run hF hmix (Z1_6_ok hF hmix) (Z2_0_ok hF hmix) (Z3_0_ok hF hmix) hw hn (by rw [← ea,← eb]; exact a8 t6_0_0 t6_0_1 t6_0_2 t6_0_3 t6_0_4 t6_0_5 t6_0_6 t6_0_7 n hn) hs
  | 6,1,_,_,ea,eb=>exact top_run hF hmix (Z1_6_ok hF hmix) (Z2_1_ok hF hmix) (Z3_1_ok hF hmix) hw hn (by rw [← ea,← eb]; exact a8 t6_1_0 t6_1_1 t6_1_2 t6_1_3 t6_1_4 t6_1_5 t6_1_6 t6_1_7 n hn) hs
  | 6,2,_,_,ea,eb=>exact top_run hF hmix (Z1_6_ok hF hmix) (Z2_2_ok hF hmix) (Z3_2_ok hF hmix) hw hn (by rw [← ea,← eb]; exact a8 t6_2_0 t6_2_1 t6_2_2 t6_2_3 t6_2_4 t6_2_5 t6_2_6 t6_2_7 n hn) hs
  | 6,3,_,_,ea,eb=>exact top_run hF hmix (Z1_6_ok hF hmix) (Z2_3_ok hF hmix) (Z3_3_ok hF hmix) hw hn (by rw [← ea,← eb]; exact a8 t6_3_0 t6_3_1 t6_3_2 t6_3_3 t6_3_4 t6_3_5 t6_3_6 t6_3_7 n hn) hs
  | a + 7,_,ha,_,_,_=>omega
  | 0,b + 4,_,hb,_,_=>omega
  | 1,b + 4,_,hb,_,_=>omega
  | 2,b + 4,_,hb,_,_=>omega
  | 3,b + 4,_,hb,_,_=>omega
  | 4,b + 4,_,hb,_,_=>omega
  | 5,b + 4,_,hb,_,_=>omega
  | 6,b + 4,_,hb,_,_=>omega
 exact key _ _ rfl rfl ha hb
end
theorem top_walk (a0 a1:Int) (w0:(Lit.int .u8 a0).wf=true) (w1:(Lit.int .u8 a1).wf=true) (W:World) (hL:laidMetH Tryz.prog Rows.topTampersRow.laid W) :
  Calls Tryz.prog 3 #[.int .u8 a0,.int .u8 a1] W fun e w'=>e=.returned (.bool true)∧Below W.heap.size W w':=by
 have u8:∀ {a:Int},(Lit.int .u8 a).wf=true→∃ n:Nat,a=n∧n < 256:=by
  intro a h
  have h1:IntKind.u8.min≤a∧a≤IntKind.u8.max:=by simpa [Lit.wf] using h
  have e1:IntKind.u8.min=0:=rfl
  have e2:IntKind.u8.max=255:=rfl
  rw [e1,e2] at h1
  exact ⟨a.toNat,by omega,by omega⟩
 obtain ⟨x,rfl,hx⟩:=u8 w0
 obtain ⟨y,rfl,hy⟩:=u8 w1
 exact (top_all (fields_ok hL) (by kernel_rfl) hx hy (Sts.nil W)).mono fun e w' ⟨h1,h2⟩=>⟨h1,h2.1⟩
end
end EV
end Go.Proofs.YtadggjnohohedaaGreatDoor
namespace Go.Proofs.YtadggjnohohedaaGreatDoor.topTampers
open Go.ChangeShapes Go.WideShapes Go.ChangeAt Go.RowKit
theorem own:ownKnob Tryz.prog.godebug=none:=by kernel_rfl
set_option maxRecDepth 100000 in
theorem contract (H:Type) (enc:TypeId × Value→H) (W:World) (base:Nat) (args:Array Value) (ds gs:List (DataW H)) (before:List MemPlace)
  (hval:∀ (j:Nat) t v,Tryz.f3.params[j]?=some t→args[j]?=some v→Value.okWide Tryz.prog W .any base t v)
  (hW:DataW.Whole enc Tryz.prog Tryz.f3.params.toList Rows.topTampersSpec.vars false W args.toList ds gs before) (hL:laidMetH Tryz.prog Rows.topTampersRow.laid W) :
  Calls Tryz.prog 3 args W fun e W'=>∃ v,e=.returned v∧Rows.topTampersSpec.post enc Tryz.prog Tryz.f3 false true false false W args v W':=by
 have hW':=hW
 obtain ⟨p,q,hA0,hV,rfl,hfz,hnd⟩:=hW
 have hA:DataW.TrodAll enc Tryz.prog W 0 (fun _=>true) true Tryz.f3.params.toList args.toList ds p:=hA0
 rw [Tryz.params3] at hA hval
 obtain ⟨v0,vs0,d0,ds0,p0,q0,hargs,rfl,rfl,h0,r0⟩:=trodAll_cons hA
 obtain ⟨v1,vs1,d1,ds1,p1,q1,rfl,rfl,rfl,h1,r1⟩:=trodAll_cons r0
 obtain ⟨rfl,rfl,rfl⟩:=trodAll_nil r1
 obtain rfl:args=#[v0,v1]:=by cases args; simp_all
 obtain ⟨rfl,rfl⟩:=trodVars_none hV
 obtain ⟨a0,rfl,rfl,rfl,w0⟩:=open_int Tryz.underlying5 (hval 0 5 v0 rfl rfl) h0
 obtain ⟨a1,rfl,rfl,rfl,w1⟩:=open_int Tryz.underlying5 (hval 1 5 v1 rfl rfl) h1
 clear hA0
 refine (EV.top_walk a0 a1 w0 w1 W hL).mono fun e W' ⟨he,bel⟩=>?_
 subst he
 exact ⟨_,rfl,_,_,_,[],_,[],hW',(trodAll_cons_mk (shut_bool Tryz.underlying4 _) trodAll_mk0),(trodAll_cons_mk (shut_int Tryz.underlying5 w0) (trodAll_cons_mk (shut_int Tryz.underlying5 w1) trodAll_mk0)),rfl,bel.frame _,fun h=>by cases h⟩
noncomputable def lay (w : World) (b : Nat) (cs : Array Value) : World :=
  { w with heap := w.heap.modify b fun
      | .cells _ t frozen => .cells cs t frozen
      | o => o }
noncomputable def u8s (l:List Nat):Array Value:=(l.map fun (n:Nat)=>Value.int .u8 (n:Int)).toArray
noncomputable def laidWorld (os:Os):World :=
 lay (lay (lay (lay (World.holding Tryz.prog os ⟨#[],#[],[]⟩) 0 (fieldsB.map fun z=>Value.string ⟨z.toArray⟩).toArray)
  2 (([1,10,100,1000,10000,100000,1000000,10000000,100000000,1000000000,10000000000,100000000000,1000000000000,10000000000000,100000000000000,1000000000000000,10000000000000000,100000000000000000,1000000000000000000,10000000000000000000]:List Nat).map fun (n:Nat)=>Value.int .u64 (n:Int)).toArray)
  3 (u8s [0,1,28,2,29,14,24,3,30,22,20,15,25,17,4,8,31,27,13,23,21,19,16,7,26,12,18,6,11,5,10,9]))
  4 (u8s [0,1,56,2,57,49,28,3,61,58,42,50,38,29,17,4,62,47,59,36,45,43,51,22,53,39,33,30,24,18,12,5,63,55,48,27,60,41,37,16,46,35,44,21,52,32,23,11,54,26,40,15,34,20,31,10,25,14,19,9,13,8,7,6])
theorem laid_met (os:Os):laidMet Tryz.prog Rows.topTampersRow.laid ((laidWorld os).forCall (fun _ _=>0) ⟨#[],#[.int .u8 0,.int .u8 0],[]⟩).memory :=
 laidMet_of_run' 8 (by kernel_rfl) (by kernel_rfl)
theorem reads (os:Os) {H:Type} (enc:TypeId × Value→H):∃ places,DataW.whole enc Tryz.prog ((laidWorld os).forCall (fun _ _=>0) ⟨#[],#[.int .u8 0,.int .u8 0],[]⟩).memory Tryz.f3.params.toList Rows.topTampersSpec.vars false #[Value.int .u8 0,Value.int .u8 0].toList 8=some ([.lit (.int .u8 0),.lit (.int .u8 0)],[],places) :=
 ⟨[],by kernel_rfl⟩
set_option maxRecDepth 100000 in
theorem lifted (os:Os) (started:os.Started) (H:Type) (enc:TypeId × Value→H) (F:Stop.Interp) :
  ReturnsInHanded {} Tryz.checked os 3 .any ((OpenSpec.ofChange Rows.topTampersSpec).preRow enc Tryz.prog Tryz.f3 Rows.topTampersRow.domain false Rows.topTampersRow.laid) (((OpenSpec.ofChange Rows.topTampersSpec).at F).post enc Tryz.prog Tryz.f3 false true false false):=by
 obtain ⟨places,hx⟩:=reads os enc
 refine returnsInHanded_of_row (C:=Tryz.checked) (s:=OpenSpec.ofChange Rows.topTampersSpec) own started (by kernel_rfl) Tryz.func3
  (witness_row_at (enc:=enc) (C:=Tryz.checked) false (laidWorld os) #[.int .u8 0,.int .u8 0] rfl (by kernel_rfl) (by kernel_rfl) (by kernel_rfl)
   (OpenSpec.preRow_of_cond 8 hx (by kernel_rfl) (fun k hk=>by cases hk) (by kernel_rfl) (laid_met os))) ?_
 intro W base args ds gs before hval hW _ _ _ hL _ _
 exact contract H enc W base args ds gs before hval hW hL
theorem said:Rows.TopTampersSaid :=
 OpenClaim.holds_of_cond 3 Tryz.f3 rfl rfl rfl rfl rfl rfl rfl ⟨rfl,rfl,rfl,rfl,rfl⟩ rfl rfl rfl rfl rfl (by kernel_rfl) Tryz.func3 (by kernel_rfl)
  (of_decide_eq_true (by kernel_rfl)) (by unfold Func.isWrapper; first | (rw [if_pos (by decide +kernel)]; kernel_rfl) | (rw [if_neg (by decide +kernel)]; exact ⟨rfl,rfl⟩))
  (fun os started H enc _ F=>by rw [OpenClaim.pre_eq_preRow]; exact lifted os started H enc F)
theorem plain (f : FuncId) (fn : Func) (hf : Tryz.pinned.checked.prog.funcNamed "sough/soughtop.TopTampers" = some f) (hfn : Tryz.pinned.checked.prog.funcs[f]? = some fn) :
  true=Tryz.pinned.checked.prog.looks []∧∀ (j:Nat) t,fn.params[j]?=some t→Tryz.pinned.checked.prog.wantsStandIn t=false:=by
 obtain rfl : f = 3 := Option.some.inj ((show Tryz.prog.funcNamed "sough/soughtop.TopTampers" = some 3 by kernel_rfl).symm.trans hf) |>.symm
 obtain rfl:fn=Tryz.f3:=(Option.some.inj (Tryz.func3.symm.trans hfn)).symm
 refine ⟨by kernel_rfl,fun j t ht=>?_⟩
 rw [Tryz.params3] at ht
 obtain rfl:t=5:=by simpa using Array.mem_of_getElem? ht
 exact (show Tryz.prog.wantsStandIn 5=false by kernel_rfl)
theorem proved:Rows.TopTampersCardSaid :=
 Claim7.holds_tied_plain_at .later [] _ _ _ _ said (fun _ h=>by cases h) (by kernel_rfl) (fun _ h=>by cases h) topTampers_row_tie rfl ⟨rfl,rfl⟩ (by kernel_rfl) rfl plain (by kernel_rfl)
#print axioms proved
end Go.Proofs.YtadggjnohohedaaGreatDoor.topTampers
