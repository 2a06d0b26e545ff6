/- The contracts of the reference's bit, Has, Can, and of the law's Ref. -/
import Derived.Test.YtpjckfpoeiljbaaA
import Derived.Test.YtpjckfpoeiljbaaPlain3
import Derived.LoopTactic
namespace Go.Proofs.Ytpjckfpoeiljbaa
open Go.RowKit
set_option maxHeartbeats 1000000
set_option linter.unusedVariables false

theorem bit_any (n i : Nat) (w : World) (hn : n < 18446744073709551616) (hi : i < 64) :
    Calls Try.prog 18 #[.int .u64 n, .int .i64 i] w fun e w' => e = .returned (.bool (n.testBit i)) ∧ w = w' := by
  go_enter Try.func18, Try.ntmps18
  go_wp2
  go_loop [0, 5] (fun a k => ∃ j : Nat, j ≤ i ∧ k = .int .i64 j ∧ a = .int .u64 (n / 2 ^ j : Nat)) (fun _ k => i - (intOf k).toNat)
  case atStart => exact ⟨0, Nat.zero_le _, rfl, by simp⟩
  case round =>
    obtain ⟨j, hj, rfl, rfl⟩ := hrel
    have hm : n / 2 ^ j < 18446744073709551616 := Nat.lt_of_le_of_lt (Nat.div_le_self _ _) hn
    have hs : n / 2 ^ (j + 1) = n / 2 ^ j / 2 := by rw [Nat.pow_succ, Nat.div_div_eq_div_mul]
    have ht : n.testBit j = decide (n / 2 ^ j % 2 = 1) := Nat.testBit_eq_decide_div_mod_eq
    generalize n / 2 ^ j = m at hm hs ht ⊢
    have HS := Lib.hid hs
    have HT := Lib.hid ht
    clear hs ht
    by_cases hlt : j < i
    · go_wp2
      go_round
      case rel => exact ⟨j + 1, by omega, by go_num, by rw [HS.out]; simp⟩
      case measure => simp [intOf]; omega
    · have : j = i := by omega
      subst this
      go_wp2
      go_ret
      refine ⟨ret_bool ?_, rfl⟩; rw [HT.out]; by_cases e : m % 2 = 1; (rw [decide_eq_true e]; exact beq_iff_eq.2 (by omega)); (rw [decide_eq_false e]; exact beq_eq_false_iff_ne.2 (by omega))

theorem rhas_any (N B n : Nat) (w : World) (hn : n < 18446744073709551616) (hN : N < 18446744073709551616) (hB : B < 18446744073709551616) :
    Calls Try.prog 15 #[.agg #[.int .u64 N, .int .u64 B], .int .u64 n] w fun e w' => e = .returned (.bool (hasB N B n)) ∧ Below w.heap.size w w' := by
  by_cases h : n < N
  · by_cases h2 : N - 1 - n < 64
    · have e : hasB N B n = B.testBit (N - 1 - n) := by unfold hasB; simp [h, h2]
      have hx : (N : Int) - 1 - n ≤ 63 := by omega
      have ex : ((N : Int) - 1 - n) = ((N - 1 - n : Nat) : Int) := by omega
      rw [e]
      clear e
      have EX := Lib.hid ex
      clear ex
      go_enter Try.func15, Try.ntmps15
      go_wp2_with fail
      rw [EX.out]
      refine (bit_any _ _ _ hB h2).mono ?_
      rintro e w' ⟨rfl, rfl⟩
      go_wp2
      go_ret
      exact ⟨rfl, by go_grown⟩
    · have e : hasB N B n = false := by unfold hasB; simp [h2]
      have hx : ¬ (N : Int) - 1 - n ≤ 63 := by omega
      rw [e]
      clear e
      go_enter Try.func15, Try.ntmps15
      go_wp2
      go_ret
      exact ⟨rfl, by go_grown⟩
  · rw [has_above (by omega)]
    go_enter Try.func15, Try.ntmps15
    go_wp2
    go_ret
    exact ⟨rfl, by go_grown⟩

theorem rcan_any (N B n : Nat) (w : World) (hn : n < 18446744073709551616) (hN : N < 18446744073709551616) (hB : B < 18446744073709551616) :
    Calls Try.prog 13 #[.agg #[.int .u64 N, .int .u64 B], .int .u64 n] w fun e w' => e = .returned (.bool (canB N B n)) ∧ Below w.heap.size w w' := by
  by_cases h1 : n = 18446744073709551615
  · subst h1
    rw [canB_max]
    go_enter Try.func13, Try.ntmps13
    go_wp2
    go_ret
    exact ⟨rfl, by go_grown⟩
  · have hn' : n < 18446744073709551615 := by omega
    clear h1
    by_cases h : N ≤ n
    · rw [canB_lo h hn']
      go_enter Try.func13, Try.ntmps13
      go_wp2
      go_ret
      exact ⟨rfl, by go_grown⟩
    · by_cases h2 : N - 1 - n < 64
      · have hx : (N : Int) - 1 - n ≤ 63 := by omega
        rw [can_within hN (by omega) (by omega)]
        go_enter Try.func13, Try.ntmps13
        go_wp2_with fail
        refine (rhas_any _ _ _ _ hn hN hB).mono ?_
        rintro e w' ⟨rfl, hb⟩
        go_wp2
        go_ret
        exact ⟨rfl, below_of hb⟩
      · have hx : ¬ (N : Int) - 1 - n ≤ 63 := by omega
        rw [(can_far (by omega)).1]
        go_enter Try.func13, Try.ntmps13
        go_wp2
        go_ret
        exact ⟨rfl, by go_grown⟩

theorem ref_any (N B : Nat) (w : World) :
    Calls Try.prog 11 #[.agg #[.int .u64 N, .int .u64 B]] w fun e w' => e = .returned (.agg #[.int .u64 N, .int .u64 B]) ∧ Below w.heap.size w w' := by
  go_enter Try.func11, Try.ntmps11
  go_wp2
  exact bodyPost_ret (v := .agg #[.int .u64 N, .int .u64 B]) (by simp [results, Try.results11, go_sem]) rfl ⟨rfl, by go_grown⟩
end Go.Proofs.Ytpjckfpoeiljbaa
