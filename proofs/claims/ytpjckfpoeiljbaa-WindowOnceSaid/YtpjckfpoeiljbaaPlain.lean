/- What a window computes, in plain numbers: no program in sight. -/
namespace Go.Proofs.Ytpjckfpoeiljbaa

/-- the digit of n in a window that ends at N. -/
def dig (N n : Nat) : Nat := if n < N ∧ N - 1 - n < 64 then 2 ^ (N - 1 - n) else 0
/-- did n come? -/
def hasB (N B n : Nat) : Bool := decide (n < N ∧ N - 1 - n < 64) && B.testBit (N - 1 - n)
/-- may n come? -/
def canB (N B n : Nat) : Bool := decide (n ≠ 18446744073709551615) && (decide (N ≤ n) || (decide (N - 1 - n < 64) && !B.testBit (N - 1 - n)))

theorem dig_lo {N n : Nat} (h : N ≤ n) : dig N n = 0 := by unfold dig; rw [if_neg (by omega)]
theorem dig_far {N n : Nat} (h : 64 ≤ N - 1 - n) : dig N n = 0 := by unfold dig; rw [if_neg (by omega)]
theorem dig_in {N n : Nat} (h : n < N) (h2 : N - 1 - n < 64) : dig N n = 2 ^ (N - 1 - n) := by unfold dig; rw [if_pos ⟨h, h2⟩]
theorem pow_lt {k : Nat} (h : k < 64) : 2 ^ k < 18446744073709551616 := by
  have : 2 ^ k < 2 ^ 64 := Nat.pow_lt_pow_right (by omega) h
  simpa using this
theorem dig_lt (N n : Nat) : dig N n < 18446744073709551616 := by
  unfold dig; split
  · exact pow_lt (by omega)
  · omega
theorem and_dig {N n B : Nat} (h : n < N) (h2 : N - 1 - n < 64) : (B &&& dig N n = 0) = (B.testBit (N - 1 - n) = false) := by
  rw [dig_in h h2]
  apply propext
  constructor
  · intro hz
    have := congrArg (fun x => Nat.testBit x (N - 1 - n)) hz
    simpa [Nat.testBit_and, Nat.testBit_two_pow_self] using this
  · intro hz
    apply Nat.eq_of_testBit_eq
    intro i
    rw [Nat.testBit_and, Nat.testBit_two_pow]
    by_cases e : N - 1 - n = i
    · subst e; simp [hz]
    · simp [e]
theorem has_dig (N B n : Nat) : hasB N B n = decide (B &&& dig N n ≠ 0) := by
  by_cases h : n < N ∧ N - 1 - n < 64
  · have := and_dig (B := B) h.1 h.2
    unfold hasB
    cases hb : B.testBit (N - 1 - n)
    · have h0 : B &&& dig N n = 0 := by rw [this]; exact hb
      simp [h0]
    · have h0 : ¬ (B &&& dig N n = 0) := by rw [this]; simp [hb]
      simp [h0, h]
  · have : dig N n = 0 := by unfold dig; rw [if_neg h]
    unfold hasB; simp [this, h]
theorem canB_max {N B : Nat} : canB N B 18446744073709551615 = false := by unfold canB; simp
theorem canB_lo {N B n : Nat} (h : N ≤ n) (hn : n < 18446744073709551615) : canB N B n = true := by
  unfold canB; simp [h]; omega
theorem canB_no {N B n : Nat} (h : n < N) (_hN : N < 18446744073709551616) (hd : dig N n = 0 ∨ B &&& dig N n ≠ 0) : canB N B n = false := by
  unfold canB
  by_cases h2 : N - 1 - n < 64
  · have h3 := and_dig (B := B) h h2
    rcases hd with hd | hd
    · rw [dig_in h h2] at hd
      have := Nat.two_pow_pos (N - 1 - n); omega
    · rw [ne_eq, h3] at hd
      simp at hd
      simp [hd]; omega
  · simp [h2]; omega
theorem canB_in {N B n : Nat} (h : n < N) (hN : N < 18446744073709551616) : canB N B n = (dig N n != 0 && (B &&& dig N n) == 0) := by
  by_cases h1 : dig N n = 0
  · rw [canB_no h hN (.inl h1)]; simp [h1]
  · by_cases h2 : B &&& dig N n = 0
    · unfold dig at h1
      have h3 : N - 1 - n < 64 := by
        by_cases h3 : N - 1 - n < 64
        · exact h3
        · rw [if_neg (by omega)] at h1; omega
      have h4 := h2
      rw [and_dig h h3] at h4
      have h5 : (dig N n != 0) = true := by
        have : dig N n ≠ 0 := by unfold dig; exact h1
        simp [this]
      rw [h5, h2]
      unfold canB
      simp [h3, h4]; omega
    · rw [canB_no h hN (.inr h2)]; simp [h2]
/-- the window with n: the number behind the greatest, the digits, the error. -/
def takeNext (N B n : Nat) : Nat := if n = 18446744073709551615 ∨ canB N B n = false then 0 else if n < N then N else n + 1
def takeBits (N B n : Nat) : Nat := if n = 18446744073709551615 ∨ canB N B n = false then 0 else if n < N then B ||| dig N n else (B * 2 ^ min (n + 1 - N) 64) % 18446744073709551616 ||| 1
def takeErr (N B n : Nat) : Int := if n = 18446744073709551615 then 1 else if canB N B n = false then 12 else 0
theorem take_is_max {N B : Nat} : takeNext N B 18446744073709551615 = 0 ∧ takeBits N B 18446744073709551615 = 0 ∧ takeErr N B 18446744073709551615 = 1 := by
  unfold takeNext takeBits takeErr; simp
theorem take_is_old {N B n : Nat} (h1 : n ≠ 18446744073709551615) (hcan : canB N B n = false) : takeNext N B n = 0 ∧ takeBits N B n = 0 ∧ takeErr N B n = 12 := by
  unfold takeNext takeBits takeErr
  rw [if_pos (.inr hcan), if_pos (.inr hcan), if_neg h1, if_pos hcan]; exact ⟨rfl, rfl, rfl⟩
theorem take_is_in {N B n : Nat} (h1 : n ≠ 18446744073709551615) (hcan : canB N B n = true) (h2 : n < N) : takeNext N B n = N ∧ takeBits N B n = B ||| dig N n ∧ takeErr N B n = 0 := by
  unfold takeNext takeBits takeErr
  simp [h1, hcan, h2]
theorem take_is_new {N B n : Nat} (h1 : n ≠ 18446744073709551615) (hcan : canB N B n = true) (h2 : N ≤ n) : takeNext N B n = n + 1 ∧ takeBits N B n = (B * 2 ^ min (n + 1 - N) 64) % 18446744073709551616 ||| 1 ∧ takeErr N B n = 0 := by
  unfold takeNext takeBits takeErr
  have h3 : ¬ n < N := by omega
  simp [h1, hcan, h3]
theorem takeNext_lt {N B n : Nat} (hN : N < 18446744073709551616) (hn : n < 18446744073709551616) : takeNext N B n < 18446744073709551616 := by
  unfold takeNext; split
  · omega
  · split
    · omega
    · omega
theorem takeBits_lt {N B n : Nat} (hB : B < 18446744073709551616) : takeBits N B n < 18446744073709551616 := by
  unfold takeBits; split
  · omega
  · split
    · have := Nat.or_lt_two_pow (n := 64) hB (dig_lt N n); simpa using this
    · have := Nat.or_lt_two_pow (n := 64) (x := (B * 2 ^ min (n + 1 - N) 64) % 18446744073709551616) (y := 1) (Nat.mod_lt _ (by omega)) (by omega); simpa using this
end Go.Proofs.Ytpjckfpoeiljbaa
