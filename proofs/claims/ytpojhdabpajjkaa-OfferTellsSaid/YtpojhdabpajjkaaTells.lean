/- The walk of OfferTells. -/
import Derived.Test.YtpojhdabpajjkaaR
import Derived.Test.YtpojhdabpajjkaaI
namespace Go.Proofs.Ytpojhdabpajjkaa
open Go.RowKit
set_option maxHeartbeats 4000000
set_option maxRecDepth 100000
set_option linter.unusedVariables false

theorem ints_row {w : World} {a : Option Addr} {len cap : Nat} {zs : List Int} (h : IsRow .i64 w a len cap zs) : len ≤ 9223372036854775807 ∧ len ≤ cap ∧ Ints w a (zs.take len) ∧ (zs.take len).length = len := by
  have h1 := h.at'
  unfold maxLen at h1
  have hl : len ≤ cap ∧ len ≤ zs.length := by
    rcases h with ⟨_, rfl, rfl, rfl⟩ | ⟨x, _, h2, h3, h4, _⟩
    · exact ⟨Nat.le_refl _, Nat.le_refl _⟩
    · omega
  refine ⟨h1.1, hl.1, fun k hk => ?_, by simp; omega⟩
  have hk' : k < len := by simp at hk; omega
  obtain ⟨g, off, ha, hc, _⟩ := h1.2 k hk'
  refine ⟨g, off, ha, lt_of hc, ?_⟩
  rw [hc, List.getElem_take]
  rw [List.getD_eq_getElem?_getD, List.getElem?_eq_getElem (by omega)]; rfl
theorem ints_take {w : World} {a : Option Addr} {L : List Int} (h : Ints w a L) (n : Nat) : Ints w a (L.take n) := fun k hk => by
  simp at hk
  obtain ⟨g, off, ha, hl, hc⟩ := h k (by omega)
  exact ⟨g, off, ha, hl, by rw [hc, List.getElem_take]⟩

theorem tells_core (a : Option Addr) (len cap : Nat) (zs : List Int) (b c : ByteArray) (w : World) (hr : IsRow .i64 w a len cap zs) :
    Calls Try.prog 3 #[.slice a len cap, .string b, .string c] w fun e w' => e = .returned (.bool true) ∧ Below w.heap.size w w' := by
  obtain ⟨hlen, hlc, hI, hL⟩ := ints_row hr
  obtain ⟨Z, hZ⟩ : ∃ Z, zs.take len = Z := ⟨_, rfl⟩
  rw [hZ] at hI hL
  have HI := Lib.hid hI
  have HL := Lib.hid hL
  clear hZ hI hL hr
  have hlc' : (len : Int) ≤ (cap : Int) := by omega
  go_enter Try.func3, Try.ntmps3
  go_upto_region 4 with (fail)
  obtain ⟨ML, hML⟩ : ∃ ML, (if 300 < (len : Int) then 300 else (len : Int)) = ML := ⟨_, rfl⟩
  obtain ⟨MA, hMA⟩ : ∃ MA, (if 20 < (b.size : Int) then 20 else (b.size : Int)) = MA := ⟨_, rfl⟩
  obtain ⟨MB, hMB⟩ : ∃ MB, (if 20 < (c.size : Int) then 20 else (c.size : Int)) = MB := ⟨_, rfl⟩
  rw [hMA, hMB, hML]
  have hA : (b.extract 0 MA.toNat).size ≤ 20 := by rw [ByteArray.size_extract, ← hMA]; split <;> omega
  have hB : (c.extract 0 MB.toNat).size ≤ 20 := by rw [ByteArray.size_extract, ← hMB]; split <;> omega
  obtain ⟨n, hn, hn1, hn2⟩ : ∃ n : Nat, ML.toNat = n ∧ n ≤ 300 ∧ n ≤ len := ⟨_, rfl, by rw [← hML]; split <;> omega, by rw [← hML]; split <;> omega⟩
  rw [hn]
  generalize b.extract 0 MA.toNat = A at hA ⊢
  generalize c.extract 0 MB.toNat = B at hB ⊢
  have HI2 := ints_take HI.out n
  have hL2 : (Z.take n).length = n := by rw [List.length_take, HL.out]; omega
  clear hMA hMB hML HI HL hn
  generalize Z.take n = L at HI2 hL2
  have hLl : L.length ≤ 1000 := by omega
  have t1 := fun W h => make_any a cap L W h hLl
  have t2 := fun W h => rmake_any a cap L W h hLl
  unfold MakeOk at t1 t2
  rw [hL2] at t1 t2
  have t3 := fun W => best_any A B W (by omega) (by omega)
  have t4 := fun W => rbest_any A B W (by omega) (by omega)
  have t5 := fun W => right_any A W (by omega)
  have t6 := fun W => rright_any A W (by omega)
  have t7 := fun W => both_any A B W (by omega) (by omega)
  have t8 := fun W => rboth_any A B W (by omega) (by omega)
  unfold StrOk at t7 t8
  generalize str (makeS L) = S1 at t1 t2
  generalize makeE L = E1 at t1 t2
  generalize bestV A.data.toList B.data.toList = V1 at t3 t4
  generalize bestE A.data.toList B.data.toList = E2 at t3 t4
  generalize str (bothL A.data.toList B.data.toList) = S2 at t7 t8
  generalize rightB A.data.toList = r1 at t5 t6
  have HLI := Lib.hid HI2
  have T1 := Lib.hid t1
  have T2 := Lib.hid t2
  have T3 := Lib.hid t3
  have T4 := Lib.hid t4
  have T5 := Lib.hid t5
  have T6 := Lib.hid t6
  have T7 := Lib.hid t7
  have T8 := Lib.hid t8
  clear t1 t2 t3 t4 t5 t6 t7 t8 HI2 hL2
  go_wp2_with fail
  refine (T1.out _ HLI.out).mono ?_
  rintro e w1 ⟨rfl, hb⟩
  have hB1 := hb
  have HLI2 := Lib.hid (HLI.out.keep hb)
  clear hb
  go_wp2_with fail
  refine (T2.out _ HLI2.out).mono ?_
  rintro e w2 ⟨rfl, hb⟩
  have hB2 := below_from hB1 hB1.size hb
  clear hb hB1
  go_wp2_with fail
  refine (T3.out _).mono ?_
  rintro e w3 ⟨rfl, hb⟩
  have hB3 := below_from hB2 hB2.size hb
  clear hb hB2
  go_wp2_with fail
  refine (T4.out _).mono ?_
  rintro e w4 ⟨rfl, hb⟩
  have hB4 := below_from hB3 hB3.size hb
  clear hb hB3
  go_wp2_with fail
  refine (T5.out _).mono ?_
  rintro e _ ⟨rfl, rfl⟩
  go_wp2_with fail
  refine (T6.out _).mono ?_
  rintro e w5 ⟨rfl, hb⟩
  have hB5 := below_from hB4 hB4.size hb
  clear hb hB4
  go_wp2_with fail
  refine (T7.out _).mono ?_
  rintro e w6 ⟨rfl, hb⟩
  have hB6 := below_from hB5 hB5.size hb
  clear hb hB5
  go_wp2_with fail
  refine (T8.out _).mono ?_
  rintro e w7 ⟨rfl, hb⟩
  have hB7 := below_from hB6 hB6.size hb
  clear hb hB6
  go_wp2_with fail
  refine (fixed_any _).mono ?_
  rintro e w8 ⟨rfl, hb⟩
  have hB8 := below_from hB7 hB7.size hb
  clear hb hB7
  go_wp2
  go_ret
  exact ⟨rfl, hB8⟩
end Go.Proofs.Ytpojhdabpajjkaa
