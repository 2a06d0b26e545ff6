/- The reference's digits, in plain numbers: built one by one from the highest, they are the window's. -/
import Derived.Test.YtpjckfpoeiljbaaPlain2
namespace Go.Proofs.Ytpjckfpoeiljbaa

/-- j digits, the highest first: the digits 63, 62, .. as c tells them. -/
def refB (c : Nat → Bool) : Nat → Nat
  | 0 => 0
  | j + 1 => 2 * refB c j + (if c (63 - j) then 1 else 0)
theorem refB_lt (c : Nat → Bool) (j : Nat) : refB c j < 2 ^ j := by
  induction j with
  | zero => simp [refB]
  | succ j ih =>
    rw [refB, Nat.pow_succ]
    split <;> omega
theorem testBit_twice (x : Nat) (b : Bool) (i : Nat) : (2 * x + (if b then 1 else 0)).testBit (i + 1) = x.testBit i := by
  rw [Nat.testBit_succ]
  congr 1
  split <;> omega
theorem testBit_twice0 (x : Nat) (b : Bool) : (2 * x + (if b then 1 else 0)).testBit 0 = b := by
  rw [Nat.testBit_zero]
  cases b <;> simp <;> omega
theorem refB_bit (c : Nat → Bool) (j : Nat) (hj : j ≤ 64) (i : Nat) : (refB c j).testBit i = (decide (i < j) && c (64 - j + i)) := by
  induction j generalizing i with
  | zero => simp [refB]
  | succ j ih =>
    rw [refB]
    cases i with
    | zero =>
      rw [testBit_twice0]
      have : 64 - (j + 1) + 0 = 63 - j := by omega
      rw [this]; simp
    | succ i =>
      rw [testBit_twice, ih (by omega)]
      have : 64 - (j + 1) + (i + 1) = 64 - j + i := by omega
      rw [this]; simp
/-- what the reference asks of the digit k of the window that ends at M behind n. -/
def condB (N B n M k : Nat) : Bool := decide (k < M) && (decide (M - 1 - k = n) || hasB N B (M - 1 - k))
theorem ref_take {N B n : Nat} (hn : n < 18446744073709551615) (h : canB N B n = true) (w : wf N B) :
    refB (condB N B n (takeNext N B n)) 64 = takeBits N B n := by
  have hw := wf_take hn h w
  have hm := next_take hn h
  apply Nat.eq_of_testBit_eq
  intro i
  rw [refB_bit _ _ (Nat.le_refl _)]
  by_cases h64 : i < 64
  · rw [show 64 - 64 + i = i by omega]
    have hh := has_take hn h (takeNext N B n - 1 - i)
    by_cases hi : i < takeNext N B n
    · unfold condB
      have e1 : takeNext N B n - 1 - (takeNext N B n - 1 - i) = i := by omega
      have a1 : decide (takeNext N B n ≤ takeNext N B n - 1 - i + 64) = true := by simp; omega
      rw [a1, Bool.true_and] at hh
      rw [decide_eq_true h64, decide_eq_true hi, Bool.true_and, Bool.true_and, ← hh]
      unfold hasB
      rw [e1]
      have a2 : decide (takeNext N B n - 1 - i < takeNext N B n ∧ i < 64) = true := by simp; omega
      rw [a2, Bool.true_and]
    · unfold condB
      rw [decide_eq_false hi, Bool.false_and, Bool.and_false, hw.2 i (by omega)]
  · rw [decide_eq_false h64, Bool.false_and, bit_high hw.1 (by omega)]
theorem wf_mod {N B : Nat} (hB : B < 18446744073709551616) (h : 64 ≤ N) : wf N B := ⟨hB, fun j hj => bit_high hB (by omega)⟩
theorem wf_mod2 {N B : Nat} (hB : B < 18446744073709551616) (_h : N < 64) : wf N (B % 2 ^ N) := by
  refine ⟨Nat.lt_of_le_of_lt (Nat.mod_le _ _) hB, fun j hj => ?_⟩
  rw [Nat.testBit_mod_two_pow]
  simp; omega
end Go.Proofs.Ytpjckfpoeiljbaa
