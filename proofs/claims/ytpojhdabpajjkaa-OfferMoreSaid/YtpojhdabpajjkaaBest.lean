/- The walk of OfferBest. -/
import Derived.Test.YtpojhdabpajjkaaF
import Derived.Test.YtpojhdabpajjkaaQ
import Derived.Deep.DeepCutAuto
import Derived.BigQuiet
namespace Go.Proofs.Ytpojhdabpajjkaa
open Go.RowKit
set_option maxHeartbeats 4000000
set_option maxRecDepth 100000
set_option linter.unusedVariables false

def hasV (l : List UInt8) (V : Nat) : Bool := l.any fun c => c.toNat == V
theorem hasV_succ (s : ByteArray) (k : Nat) (h : k < s.size) (V : Nat) : hasV (s.data.toList.take (k + 1)) V = (hasV (s.data.toList.take k) V || s[k].toNat == V) := by
  unfold hasV
  rw [List.take_succ_eq_append_getElem (by simpa using h), List.any_append]
  simp; rfl
theorem hasV_mem {l : List UInt8} {V : Nat} (h : ∃ c ∈ l, c.toNat = V) : hasV l V = true := by
  unfold hasV; rw [List.any_eq_true]
  obtain ⟨c, hc, e⟩ := h
  exact ⟨c, hc, by simp [e]⟩
theorem hasV_zero {n : Nat} {l : List UInt8} (h : decB n l = true) : hasV l 0 = false := by
  unfold hasV; rw [List.any_eq_false]
  intro c hc
  have := (decB_mem h c hc).1
  simp; omega
theorem mem_get (s : ByteArray) (k : Nat) (h : k < s.size) : s[k] ∈ s.data.toList := by
  have : s[k] = s.data.toList[k]'(by simpa using h) := rfl
  rw [this]; exact List.getElem_mem _
theorem byte_eq {a b : UInt8} (h : a = b) : ((a.toNat : Int) == (b.toNat : Int)) = true := by subst h; simp
theorem byte_ne {a b : UInt8} (h : ¬ a = b) : ((a.toNat : Int) == (b.toNat : Int)) = false := by
  rw [beq_eq_false_iff_ne]; intro e; exact h (byte_ext (by omega))

theorem best_core (a b : ByteArray) (w : World) :
    Calls Try.prog 7 #[.string a, .string b] w fun e w' => e = .returned (.bool true) ∧ Below w.heap.size w w' := by
  go_enter Try.func7, Try.ntmps7
  go_upto_region 3 with (fail)
  obtain ⟨MA, hMA⟩ : ∃ MA, (if 20 < (a.size : Int) then 20 else (a.size : Int)) = MA := ⟨_, rfl⟩
  obtain ⟨MB, hMB⟩ : ∃ MB, (if 20 < (b.size : Int) then 20 else (b.size : Int)) = MB := ⟨_, rfl⟩
  rw [hMA, hMB]
  have hA : (a.extract 0 MA.toNat).size ≤ 20 := by rw [ByteArray.size_extract, ← hMA]; split <;> omega
  have hB : (b.extract 0 MB.toNat).size ≤ 20 := by rw [ByteArray.size_extract, ← hMB]; split <;> omega
  generalize a.extract 0 MA.toNat = A at hA ⊢
  generalize b.extract 0 MB.toNat = B at hB ⊢
  clear hMA hMB
  go_wp2_with fail
  have t1 := fun W => best_any A B W (by omega) (by omega)
  have t2 := fun W => right_any A W (by omega)
  have t3 := fun W => right_any B W (by omega)
  have t4 := fun W => both_any A B W (by omega) (by omega)
  rw [bothE, best_top] at t1
  cases h1 : rightB A.data.toList
  · have hL : bothL A.data.toList B.data.toList = [] := by unfold bothL; rw [h1]; rfl
    rw [h1, hL] at t1
    rw [h1] at t2
    rw [hL] at t4
    simp only [Bool.false_and, Bool.false_eq_true, if_false, topL] at t1
    have T1 := Lib.hid t1
    have T2 := Lib.hid t2
    have T4 := Lib.hid t4
    clear t1 t2 t3 t4 h1 hL
    have hE := str_nil_empty
    refine (T1.out _).mono ?_
    rintro e w1 ⟨rfl, hb⟩
    have hB1 := hb
    clear hb
    go_wp2_with fail
    refine (T2.out _).mono ?_
    rintro e _ ⟨rfl, rfl⟩
    go_wp2_with fail
    refine (T4.out _).mono ?_
    rintro e w2 ⟨rfl, hb⟩
    have hB2 := below_from hB1 hB1.size hb
    clear hb hB1
    go_wp2_with fail
    refine (fixed_any _).mono ?_
    rintro e w3 ⟨rfl, hb⟩
    have hB3 := below_from hB2 hB2.size hb
    clear hb hB2
    go_wp2
    go_ret
    exact ⟨rfl, hB3⟩
  · rw [h1] at t1 t2
    cases h2 : rightB B.data.toList
    · have hL : bothL A.data.toList B.data.toList = [] := by unfold bothL; rw [h2]; simp
      rw [h2, hL] at t1
      rw [h2] at t3
      rw [hL] at t4
      simp only [Bool.and_false, Bool.false_eq_true, if_false, topL] at t1
      have T1 := Lib.hid t1
      have T2 := Lib.hid t2
      have T3 := Lib.hid t3
      have T4 := Lib.hid t4
      clear t1 t2 t3 t4 h1 h2 hL
      have hE := str_nil_empty
      refine (T1.out _).mono ?_
      rintro e w1 ⟨rfl, hb⟩
      have hB1 := hb
      clear hb
      go_wp2_with fail
      refine (T2.out _).mono ?_
      rintro e _ ⟨rfl, rfl⟩
      go_wp2_with fail
      refine (T3.out _).mono ?_
      rintro e _ ⟨rfl, rfl⟩
      go_wp2_with fail
      refine (T4.out _).mono ?_
      rintro e w2 ⟨rfl, hb⟩
      have hB2 := below_from hB1 hB1.size hb
      clear hb hB1
      go_wp2_with fail
      refine (fixed_any _).mono ?_
      rintro e w3 ⟨rfl, hb⟩
      have hB3 := below_from hB2 hB2.size hb
      clear hb hB2
      go_wp2
      go_ret
      exact ⟨rfl, hB3⟩
    · rw [h2] at t1 t3
      simp only [Bool.and_true, if_true] at t1
      obtain ⟨hdL, hmL⟩ := both_mem h1 h2
      have hdA := (right_dec h1).1
      have hdB := (right_dec h2).1
      generalize bothL A.data.toList B.data.toList = L at t1 hdL hmL
      clear t4
      have T2 := Lib.hid t2
      have T3 := Lib.hid t3
      clear t2 t3 h1 h2
      by_cases hL : L = []
      · subst hL
        have hno : ∀ c, c ∈ A.data.toList → c ∈ B.data.toList → False := fun c h3 h4 => by have := (hmL c).2 ⟨h3, h4⟩; simp at this
        simp only [if_true, topL] at t1
        have T1 := Lib.hid t1
        have HNO := Lib.hid hno
        have HA0 := Lib.hid (hasV_zero hdA)
        clear t1 hmL hdL hno hdA hdB
        refine (T1.out _).mono ?_
        rintro e w1 ⟨rfl, hb⟩
        have hB1 := hb
        clear hb
        go_wp2_with fail
        refine (T2.out _).mono ?_
        rintro e _ ⟨rfl, rfl⟩
        go_wp2_with fail
        refine (T3.out _).mono ?_
        rintro e _ ⟨rfl, rfl⟩
        go_wp2_with fail
        go_loopw [7] (fun i wr => ∃ k : Nat, k ≤ A.size ∧ i = .int .i64 k ∧ Below w.heap.size w wr) (fun i _ => A.size - (intOf i).toNat)
        case atStart => exact ⟨0, Nat.zero_le _, rfl, hB1⟩
        case round =>
          obtain ⟨k, hk, rfl, hBr⟩ := hrel
          clear hB1
          by_cases hkA : k < A.size
          · have hkA' : (k : Int) < (A.size : Int) := by omega
            have hk0 : (0 : Int) ≤ (k : Int) := by omega
            have hmA := mem_get A k hkA
            obtain ⟨c, hc⟩ : ∃ c, A[k] = c := ⟨_, rfl⟩
            rw [hc] at hmA
            have hcl := byte_lt c
            go_wp2_with fail
            go_loopw [8] (fun i wr => ∃ j : Nat, j ≤ B.size ∧ i = .int .i64 j ∧ Below w.heap.size w wr) (fun i _ => B.size - (intOf i).toNat)
            case atStart => exact ⟨0, Nat.zero_le _, rfl, hBr⟩
            case round =>
              obtain ⟨j, hj, rfl, hBs⟩ := hrel
              clear hBr
              by_cases hjB : j < B.size
              · have hjB' : (j : Int) < (B.size : Int) := by omega
                have hj0 : (0 : Int) ≤ (j : Int) := by omega
                have hmB := mem_get B j hjB
                obtain ⟨d, hd⟩ : ∃ d, B[j] = d := ⟨_, rfl⟩
                rw [hd] at hmB
                by_cases hcd : c = d
                · exact (HNO.out c hmA (by rw [hcd]; exact hmB)).elim
                · have hcd' := byte_ne hcd
                  clear hmA hmB hcd
                  go_wp2_with fail
                  go_quiet (fail)
                  go_wp2_with fail
                  go_roundw
                  case rel => exact ⟨j + 1, by omega, by go_num, bdrewN hBs _⟩
                  case measure => (simp [intOf] <;> omega)
              · obtain rfl : j = B.size := by omega
                go_wp2_with fail
                go_roundw
                case rel => exact ⟨k + 1, by omega, by go_num, hBs⟩
                case measure => (simp [intOf] <;> omega)
          · obtain rfl : k = A.size := by omega
            clear hkA hk
            go_wp2_with fail
            go_loop [9, 11] (fun h i => ∃ k : Nat, k ≤ A.size ∧ i = .int .i64 k ∧ h = .bool (hasV (A.data.toList.take k) 0)) (fun _ i => A.size - (intOf i).toNat)
            case atStart => exact ⟨0, Nat.zero_le _, rfl, rfl⟩
            case round =>
              obtain ⟨k, hk, rfl, rfl⟩ := hrel
              by_cases hk1 : k < A.size
              · have hs := hasV_succ A k hk1 0
                obtain ⟨c, hc⟩ : ∃ c, A[k] = c := ⟨_, rfl⟩
                rw [hc] at hs
                have hcl := byte_lt c
                have hk1' : (k : Int) < (A.size : Int) := by omega
                have hk0 : (0 : Int) ≤ (k : Int) := by omega
                cases hh : hasV (A.data.toList.take k) 0
                · rw [hh] at hs
                  have hs2 : hasV (A.data.toList.take (k + 1)) 0 = ((c.toNat : Int) == (0 : Int)) := by
                    rw [hs, Bool.false_or, Bool.eq_iff_iff, beq_iff_eq, beq_iff_eq]; omega
                  have HS := Lib.hid hs2
                  clear hs hs2 hh
                  go_wp2_with fail
                  go_round
                  case rel => exact ⟨k + 1, by omega, by go_num, by rw [HS.out]⟩
                  case measure => (simp [intOf] <;> omega)
                · rw [hh] at hs
                  have HS := Lib.hid hs
                  clear hs hh
                  go_wp2_with fail
                  go_round
                  case rel => exact ⟨k + 1, by omega, by go_num, by rw [HS.out]; rfl⟩
                  case measure => (simp [intOf] <;> omega)
              · obtain rfl : k = A.size := by omega
                rw [show A.data.toList.take A.size = A.data.toList from List.take_of_length_le (by simp)]
                clear hk1 hk
                rw [HA0.out]
                go_wp2_with fail
                go_loop [10, 12] (fun h i => ∃ k : Nat, k ≤ B.size ∧ i = .int .i64 k ∧ h = .bool (hasV (B.data.toList.take k) 0)) (fun _ i => B.size - (intOf i).toNat)
                case atStart => exact ⟨0, Nat.zero_le _, rfl, rfl⟩
                case round =>
                  obtain ⟨k, hk, rfl, rfl⟩ := hrel
                  by_cases hk1 : k < B.size
                  · have hs := hasV_succ B k hk1 0
                    obtain ⟨c, hc⟩ : ∃ c, B[k] = c := ⟨_, rfl⟩
                    rw [hc] at hs
                    have hcl := byte_lt c
                    have hk1' : (k : Int) < (B.size : Int) := by omega
                    have hk0 : (0 : Int) ≤ (k : Int) := by omega
                    cases hh : hasV (B.data.toList.take k) 0
                    · rw [hh] at hs
                      have hs2 : hasV (B.data.toList.take (k + 1)) 0 = ((c.toNat : Int) == (0 : Int)) := by
                        rw [hs, Bool.false_or, Bool.eq_iff_iff, beq_iff_eq, beq_iff_eq]; omega
                      have HS := Lib.hid hs2
                      clear hs hs2 hh
                      go_wp2_with fail
                      go_round
                      case rel => exact ⟨k + 1, by omega, by go_num, by rw [HS.out]⟩
                      case measure => (simp [intOf] <;> omega)
                    · rw [hh] at hs
                      have HS := Lib.hid hs
                      clear hs hh
                      go_wp2_with fail
                      go_round
                      case rel => exact ⟨k + 1, by omega, by go_num, by rw [HS.out]; rfl⟩
                      case measure => (simp [intOf] <;> omega)
                  · obtain rfl : k = B.size := by omega
                    rw [show B.data.toList.take B.size = B.data.toList from List.take_of_length_le (by simp)]
                    clear hk1 hk
                    go_wp2_with fail
                    refine (fixed_any _).mono ?_
                    rintro e w3 ⟨rfl, hb⟩
                    have hB3 := below_from hBr hBr.size hb
                    clear hb hBr
                    go_wp2
                    go_ret
                    exact ⟨rfl, hB3⟩
      · have hge : ∀ c, c ∈ A.data.toList → c ∈ B.data.toList → c.toNat ≤ topL L := fun c h3 h4 => top_ge hdL c ((hmL c).2 ⟨h3, h4⟩)
        obtain ⟨c0, hc0, hc1⟩ := top_mem hL
        have hA1 : hasV A.data.toList (topL L) = true := hasV_mem ⟨c0, ((hmL c0).1 hc0).1, hc1⟩
        have hB1 : hasV B.data.toList (topL L) = true := hasV_mem ⟨c0, ((hmL c0).1 hc0).2, hc1⟩
        have hV : topL L < 256 := by rw [← hc1]; exact byte_lt c0
        rw [if_neg hL] at t1
        generalize topL L = V at t1 hge hA1 hB1 hV
        have T1 := Lib.hid t1
        have HGE := Lib.hid hge
        have HA1 := Lib.hid hA1
        have HB1 := Lib.hid hB1
        clear t1 hmL hdL hge hA1 hB1 hdA hdB hc0 hc1 hL
        refine (T1.out _).mono ?_
        rintro e w1 ⟨rfl, hb⟩
        have hB1 := hb
        clear hb
        go_wp2_with fail
        refine (T2.out _).mono ?_
        rintro e _ ⟨rfl, rfl⟩
        go_wp2_with fail
        refine (T3.out _).mono ?_
        rintro e _ ⟨rfl, rfl⟩
        go_wp2_with fail
        go_loopw [7] (fun i wr => ∃ k : Nat, k ≤ A.size ∧ i = .int .i64 k ∧ Below w.heap.size w wr) (fun i _ => A.size - (intOf i).toNat)
        case atStart => exact ⟨0, Nat.zero_le _, rfl, hB1⟩
        case round =>
          obtain ⟨k, hk, rfl, hBr⟩ := hrel
          clear hB1
          by_cases hkA : k < A.size
          · have hkA' : (k : Int) < (A.size : Int) := by omega
            have hk0 : (0 : Int) ≤ (k : Int) := by omega
            have hmA := mem_get A k hkA
            obtain ⟨c, hc⟩ : ∃ c, A[k] = c := ⟨_, rfl⟩
            rw [hc] at hmA
            have hcl := byte_lt c
            go_wp2_with fail
            go_loopw [8] (fun i wr => ∃ j : Nat, j ≤ B.size ∧ i = .int .i64 j ∧ Below w.heap.size w wr) (fun i _ => B.size - (intOf i).toNat)
            case atStart => exact ⟨0, Nat.zero_le _, rfl, hBr⟩
            case round =>
              obtain ⟨j, hj, rfl, hBs⟩ := hrel
              clear hBr
              by_cases hjB : j < B.size
              · have hjB' : (j : Int) < (B.size : Int) := by omega
                have hj0 : (0 : Int) ≤ (j : Int) := by omega
                have hmB := mem_get B j hjB
                obtain ⟨d, hd⟩ : ∃ d, B[j] = d := ⟨_, rfl⟩
                rw [hd] at hmB
                by_cases hcd : c = d
                · have hle := HGE.out c hmA (by rw [hcd]; exact hmB)
                  subst hcd
                  have hcd' := byte_eq (rfl : c = c)
                  have hw1 : IntKind.i64.wrap (c.toNat : Int) = (c.toNat : Int) := IntWalk.i64_in _ ⟨by omega, by omega⟩
                  have hle' : decide ((V : Int) < (c.toNat : Int)) = false := by simp; omega
                  have hw2 : wrap64 (c.toNat : Int) = (c.toNat : Int) := IntWalk.wrap64_in _ ⟨by omega, by omega⟩
                  clear hmA hmB
                  go_wp2_with fail
                  go_quiet (fail)
                  go_wp2_with fail
                  go_roundw
                  case rel => exact ⟨j + 1, by omega, by go_num, bdrewN hBs _⟩
                  case measure => (simp [intOf] <;> omega)
                · have hcd' := byte_ne hcd
                  clear hmA hmB hcd
                  go_wp2_with fail
                  go_quiet (fail)
                  go_wp2_with fail
                  go_roundw
                  case rel => exact ⟨j + 1, by omega, by go_num, bdrewN hBs _⟩
                  case measure => (simp [intOf] <;> omega)
              · obtain rfl : j = B.size := by omega
                go_wp2_with fail
                go_roundw
                case rel => exact ⟨k + 1, by omega, by go_num, hBs⟩
                case measure => (simp [intOf] <;> omega)
          · obtain rfl : k = A.size := by omega
            clear hkA hk
            go_wp2_with fail
            go_loop [9, 11] (fun h i => ∃ k : Nat, k ≤ A.size ∧ i = .int .i64 k ∧ h = .bool (hasV (A.data.toList.take k) V)) (fun _ i => A.size - (intOf i).toNat)
            case atStart => exact ⟨0, Nat.zero_le _, rfl, rfl⟩
            case round =>
              obtain ⟨k, hk, rfl, rfl⟩ := hrel
              by_cases hk1 : k < A.size
              · have hs := hasV_succ A k hk1 V
                obtain ⟨c, hc⟩ : ∃ c, A[k] = c := ⟨_, rfl⟩
                rw [hc] at hs
                have hcl := byte_lt c
                have hk1' : (k : Int) < (A.size : Int) := by omega
                have hk0 : (0 : Int) ≤ (k : Int) := by omega
                cases hh : hasV (A.data.toList.take k) V
                · rw [hh] at hs
                  have hs2 : hasV (A.data.toList.take (k + 1)) V = ((c.toNat : Int) == (V : Int)) := by
                    rw [hs, Bool.false_or, Bool.eq_iff_iff, beq_iff_eq, beq_iff_eq]; omega
                  have HS := Lib.hid hs2
                  clear hs hs2 hh
                  go_wp2_with fail
                  go_round
                  case rel => exact ⟨k + 1, by omega, by go_num, by rw [HS.out]⟩
                  case measure => (simp [intOf] <;> omega)
                · rw [hh] at hs
                  have HS := Lib.hid hs
                  clear hs hh
                  go_wp2_with fail
                  go_round
                  case rel => exact ⟨k + 1, by omega, by go_num, by rw [HS.out]; rfl⟩
                  case measure => (simp [intOf] <;> omega)
              · obtain rfl : k = A.size := by omega
                rw [show A.data.toList.take A.size = A.data.toList from List.take_of_length_le (by simp)]
                clear hk1 hk
                rw [HA1.out]
                go_wp2_with fail
                go_loop [10, 12] (fun h i => ∃ k : Nat, k ≤ B.size ∧ i = .int .i64 k ∧ h = .bool (hasV (B.data.toList.take k) V)) (fun _ i => B.size - (intOf i).toNat)
                case atStart => exact ⟨0, Nat.zero_le _, rfl, rfl⟩
                case round =>
                  obtain ⟨k, hk, rfl, rfl⟩ := hrel
                  by_cases hk1 : k < B.size
                  · have hs := hasV_succ B k hk1 V
                    obtain ⟨c, hc⟩ : ∃ c, B[k] = c := ⟨_, rfl⟩
                    rw [hc] at hs
                    have hcl := byte_lt c
                    have hk1' : (k : Int) < (B.size : Int) := by omega
                    have hk0 : (0 : Int) ≤ (k : Int) := by omega
                    cases hh : hasV (B.data.toList.take k) V
                    · rw [hh] at hs
                      have hs2 : hasV (B.data.toList.take (k + 1)) V = ((c.toNat : Int) == (V : Int)) := by
                        rw [hs, Bool.false_or, Bool.eq_iff_iff, beq_iff_eq, beq_iff_eq]; omega
                      have HS := Lib.hid hs2
                      clear hs hs2 hh
                      go_wp2_with fail
                      go_round
                      case rel => exact ⟨k + 1, by omega, by go_num, by rw [HS.out]⟩
                      case measure => (simp [intOf] <;> omega)
                    · rw [hh] at hs
                      have HS := Lib.hid hs
                      clear hs hh
                      go_wp2_with fail
                      go_round
                      case rel => exact ⟨k + 1, by omega, by go_num, by rw [HS.out]; rfl⟩
                      case measure => (simp [intOf] <;> omega)
                  · obtain rfl : k = B.size := by omega
                    rw [show B.data.toList.take B.size = B.data.toList from List.take_of_length_le (by simp)]
                    clear hk1 hk
                    rw [HB1.out]
                    go_wp2_with fail
                    refine (fixed_any _).mono ?_
                    rintro e w3 ⟨rfl, hb⟩
                    have hB3 := below_from hBr hBr.size hb
                    clear hb hBr
                    go_wp2
                    go_ret
                    exact ⟨rfl, hB3⟩
end Go.Proofs.Ytpojhdabpajjkaa
