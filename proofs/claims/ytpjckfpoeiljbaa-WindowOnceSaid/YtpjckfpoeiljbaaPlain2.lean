/- Of windows in plain numbers: what one has behind a number that came; which numbers make it. -/
import Derived.Test.YtpjckfpoeiljbaaPlain
namespace Go.Proofs.Ytpjckfpoeiljbaa

theorem testBit_shift (B k j : Nat) : (B * 2 ^ k).testBit j = (decide (k ≤ j) && B.testBit (j - k)) := by
  rw [← Nat.shiftLeft_eq, Nat.testBit_shiftLeft]
theorem testBit_one' (j : Nat) : Nat.testBit 1 j = decide (j = 0) := by
  have := Nat.testBit_two_pow (n := 0) (m := j)
  simp only [Nat.pow_zero] at this
  rw [this]
  by_cases h : j = 0
  · simp [h]
  · simp [h]; omega
theorem new_bit (B k j : Nat) (hj : j < 64) : ((B * 2 ^ min k 64) % 18446744073709551616 ||| 1).testBit j = (decide (j = 0) || (decide (k ≤ j) && B.testBit (j - k))) := by
  have e : (18446744073709551616 : Nat) = 2 ^ 64 := by decide
  rw [Nat.testBit_or, e, Nat.testBit_mod_two_pow, testBit_shift, testBit_one']
  by_cases hk : k ≤ j
  · have : min k 64 = k := by omega
    rw [this]; simp [hj, hk, Bool.or_comm]
  · have h1 : ¬ min k 64 ≤ j := by omega
    simp [hk, h1]

theorem can_has {N B n : Nat} (h : canB N B n = true) : hasB N B n = false := by
  unfold canB at h; unfold hasB
  simp at h ⊢
  intro h1 h2
  rcases h.2 with h3 | h3
  · omega
  · exact h3.2
/-- what has come behind a number that came. -/
theorem has_take {N B n : Nat} (hn : n < 18446744073709551615) (h : canB N B n = true) (m : Nat) :
    hasB (takeNext N B n) (takeBits N B n) m = (decide (takeNext N B n ≤ m + 64) && (decide (m = n) || hasB N B m)) := by
  by_cases h2 : n < N
  · obtain ⟨e1, e2, _⟩ := take_is_in (by omega) h h2
    rw [e1, e2]
    have h3 : N - 1 - n < 64 := by unfold canB at h; simp at h; omega
    rw [dig_in h2 h3]
    unfold hasB
    rw [Nat.testBit_or, Nat.testBit_two_pow]
    by_cases hm : m < N ∧ N - 1 - m < 64
    · have a1 : N ≤ m + 64 := by omega
      have a2 : (N - 1 - n = N - 1 - m) = (m = n) := by apply propext; omega
      simp only [hm, a1, a2, and_self, decide_true, Bool.true_and]
      rw [Bool.or_comm]
    · have : m ≠ n := by intro e; subst e; exact hm ⟨h2, h3⟩
      simp [hm, this]
  · obtain ⟨e1, e2, _⟩ := take_is_new (by omega) h (by omega)
    rw [e1, e2]
    unfold hasB
    by_cases hm : m < n + 1 ∧ n + 1 - 1 - m < 64
    · rw [new_bit _ _ _ hm.2]
      have a1 : n + 1 ≤ m + 64 := by omega
      have a2 : (n + 1 - 1 - m = 0) = (m = n) := by apply propext; omega
      simp only [hm, a1, a2, and_self, decide_true, Bool.true_and]
      by_cases e : m = n
      · simp [e]
      · by_cases b : m < N
        · have b1 : n + 1 - N ≤ n + 1 - 1 - m := by omega
          have b2 : n + 1 - 1 - m - (n + 1 - N) = N - 1 - m := by omega
          have b3 : N - 1 - m < 64 := by omega
          rw [decide_eq_true b1, b2]
          simp [e, b, b3]
        · have b1 : ¬ n + 1 - N ≤ n + 1 - 1 - m := by omega
          rw [decide_eq_false b1]
          simp [e, b]
    · have : ¬ (n + 1 ≤ m + 64 ∧ (m = n ∨ m < N)) := by omega
      have h0 : decide (m < n + 1 ∧ n + 1 - 1 - m < 64) = false := decide_eq_false hm
      rw [h0, Bool.false_and]
      by_cases a1 : n + 1 ≤ m + 64
      · have a2 : ¬ m = n := by omega
        have a3 : ¬ m < N := by omega
        simp [a2, a3]
      · simp [a1]

theorem next_take {N B n : Nat} (hn : n < 18446744073709551615) (h : canB N B n = true) : takeNext N B n = max N (n + 1) := by
  by_cases h2 : n < N
  · rw [(take_is_in (by omega) h h2).1]; omega
  · rw [(take_is_new (by omega) h (by omega)).1]; omega

theorem can_within {N B m : Nat} (hN : N < 18446744073709551616) (h1 : m < N) (h2 : N ≤ m + 64) : canB N B m = !hasB N B m := by
  unfold canB hasB
  have a : ¬ N ≤ m := by omega
  have b : N - 1 - m < 64 := by omega
  have c : ¬ m = 18446744073709551615 := by omega
  simp [a, b, c, h1]
theorem can_far {N B m : Nat} (h2 : m + 64 < N) : canB N B m = false ∧ hasB N B m = false := by
  unfold canB hasB
  have a : ¬ N ≤ m := by omega
  have b : ¬ N - 1 - m < 64 := by omega
  simp [a, b]
theorem can_near {N B n : Nat} (h : canB N B n = true) : N ≤ n + 64 := by
  unfold canB at h; simp at h; omega
theorem has_above {N B m : Nat} (h : N ≤ m) : hasB N B m = false := by
  unfold hasB
  have : ¬ m < N := by omega
  simp [this]

/-- no digit below the number 0. -/
def wf (N B : Nat) : Prop := B < 18446744073709551616 ∧ ∀ j, N ≤ j → B.testBit j = false
theorem wf_zero : wf 0 0 := ⟨by omega, fun j _ => by simp⟩
theorem bit_high {B j : Nat} (h : B < 18446744073709551616) (hj : 64 ≤ j) : B.testBit j = false := by
  apply Nat.testBit_lt_two_pow
  have : 2 ^ 64 ≤ 2 ^ j := Nat.pow_le_pow_right (by omega) hj
  have e : (18446744073709551616 : Nat) = 2 ^ 64 := by decide
  omega
theorem wf_take {N B n : Nat} (hn : n < 18446744073709551615) (h : canB N B n = true) (w : wf N B) : wf (takeNext N B n) (takeBits N B n) := by
  refine ⟨takeBits_lt w.1, fun j hj => ?_⟩
  by_cases h64 : 64 ≤ j
  · exact bit_high (takeBits_lt w.1) h64
  · by_cases h2 : n < N
    · obtain ⟨e1, e2, _⟩ := take_is_in (by omega) h h2
      rw [e1] at hj
      rw [e2]
      have h3 : N - 1 - n < 64 := by unfold canB at h; simp at h; omega
      rw [dig_in h2 h3, Nat.testBit_or, w.2 j hj, Nat.testBit_two_pow]
      simp; omega
    · obtain ⟨e1, e2, _⟩ := take_is_new (by omega) h (by omega)
      rw [e1] at hj
      rw [e2, new_bit _ _ _ (by omega)]
      have : B.testBit (j - (n + 1 - N)) = false := w.2 _ (by omega)
      simp [this]; omega
/-- a window is told by what it ends at, and what it has. -/
theorem win_ext {N B C : Nat} (hB : wf N B) (hC : wf N C) (h : ∀ m, hasB N B m = hasB N C m) : B = C := by
  apply Nat.eq_of_testBit_eq
  intro j
  by_cases h64 : 64 ≤ j
  · rw [bit_high hB.1 h64, bit_high hC.1 h64]
  · by_cases hj : N ≤ j
    · rw [hB.2 j hj, hC.2 j hj]
    · have := h (N - 1 - j)
      unfold hasB at this
      have a : N - 1 - (N - 1 - j) = j := by omega
      have b : N - 1 - j < N := by omega
      have c : j < 64 := by omega
      rw [a] at this
      simpa [b, c] using this

/-- one number more. -/
def stepW (s : Nat × Nat) (n : Nat) : Nat × Nat := if canB s.1 s.2 n = true then (takeNext s.1 s.2 n, takeBits s.1 s.2 n) else s
def runW (l : List Nat) : Nat × Nat := l.foldl stepW (0, 0)
theorem runW_snoc (l : List Nat) (n : Nat) : runW (l ++ [n]) = stepW (runW l) n := by unfold runW; rw [List.foldl_append]; rfl
/-- what is so of a window into which these numbers came. -/
structure Inv (L : List Nat) (N B : Nat) : Prop where
  w : wf N B
  has : ∀ m, hasB N B m = true ↔ m ∈ L ∧ N ≤ m + 64
  nil : L = [] → N = 0
  top : L ≠ [] → 0 < N ∧ N - 1 ∈ L
  lt : ∀ m ∈ L, m < N
theorem Inv.zero : Inv [] 0 0 := ⟨wf_zero, by intro m; unfold hasB; simp, fun _ => rfl, fun h => absurd rfl h, by simp⟩
theorem Inv.step {L : List Nat} {N B n : Nat} (h : Inv L N B) (hN : N < 18446744073709551616) (hn : n < 18446744073709551615) : Inv (L ++ [n]) (stepW (N, B) n).1 (stepW (N, B) n).2 := by
  unfold stepW
  cases hc : canB N B n
  · have hnN : n < N := by
      unfold canB at hc; simp at hc; omega
    simp only [Bool.false_eq_true, if_false]
    refine ⟨h.w, fun m => ?_, fun e => by simp at e, fun _ => ?_, ?_⟩
    · rw [h.has m, List.mem_append]
      constructor
      · exact fun a => ⟨.inl a.1, a.2⟩
      · rintro ⟨a | a, b⟩
        · exact ⟨a, b⟩
        · have : m = n := by simpa using a
          subst this
          have := can_within (B := B) hN hnN b
          rw [hc] at this
          have hh : hasB N B m = true := by simpa using this
          exact ⟨((h.has m).1 hh).1, b⟩
    · have hL : L ≠ [] := by intro e; have := h.nil e; omega
      obtain ⟨a, b⟩ := h.top hL
      exact ⟨a, List.mem_append.2 (.inl b)⟩
    · intro m hm
      rcases List.mem_append.1 hm with a | a
      · exact h.lt m a
      · have : m = n := by simpa using a
        omega
  · simp only [if_true]
    have hx := next_take hn hc
    refine ⟨wf_take hn hc h.w, fun m => ?_, fun e => by simp at e, fun _ => ?_, ?_⟩
    · rw [has_take hn hc m]
      simp only [Bool.and_eq_true, Bool.or_eq_true, decide_eq_true_eq, h.has m, List.mem_append, List.mem_singleton]
      constructor
      · rintro ⟨a, b | b⟩
        · exact ⟨.inr b, a⟩
        · exact ⟨.inl b.1, a⟩
      · rintro ⟨a | a, b⟩
        · exact ⟨b, .inr ⟨a, by omega⟩⟩
        · exact ⟨b, .inl a⟩
    · rw [hx]
      refine ⟨by omega, ?_⟩
      by_cases hlt : N ≤ n + 1
      · have : max N (n + 1) - 1 = n := by omega
        rw [this]; simp
      · have : max N (n + 1) - 1 = N - 1 := by omega
        rw [this]
        have hL : L ≠ [] := by intro e; have := h.nil e; omega
        exact List.mem_append.2 (.inl (h.top hL).2)
    · intro m hm
      rw [hx]
      rcases List.mem_append.1 hm with a | a
      · have := h.lt m a; omega
      · have : m = n := by simpa using a
        omega
theorem Inv.unique {L K : List Nat} {N B M C : Nat} (h : Inv L N B) (k : Inv K M C) (e : ∀ m, m ∈ L ↔ m ∈ K) : N = M ∧ B = C := by
  have hNM : N = M := by
    by_cases hL : L = []
    · have hK : K = [] := by
        cases K with
        | nil => rfl
        | cons x r => have := (e x).2 (by simp); simp [hL] at this
      rw [h.nil hL, k.nil hK]
    · have hK : K ≠ [] := by
        intro hK
        cases L with
        | nil => exact hL rfl
        | cons x r => have := (e x).1 (by simp); simp [hK] at this
      have a := k.lt _ ((e _).1 (h.top hL).2)
      have b := h.lt _ ((e _).2 (k.top hK).2)
      have c := (h.top hL).1
      have d := (k.top hK).1
      omega
  subst hNM
  refine ⟨rfl, win_ext h.w k.w fun m => ?_⟩
  rw [Bool.eq_iff_iff, h.has m, k.has m, e m]
theorem Inv.run : ∀ (L K : List Nat) (N B : Nat), Inv K N B → N < 18446744073709551616 → (∀ m ∈ L, m < 18446744073709551615) → Inv (K ++ L) (L.foldl stepW (N, B)).1 (L.foldl stepW (N, B)).2 ∧ (L.foldl stepW (N, B)).1 < 18446744073709551616
  | [], K, N, B, h, hN, _ => by simpa using ⟨h, hN⟩
  | x :: r, K, N, B, h, hN, hl => by
    have hx : x < 18446744073709551615 := hl x (by simp)
    have h1 := h.step hN hx
    have h2 : (stepW (N, B) x).1 < 18446744073709551616 := by
      unfold stepW; split
      · exact takeNext_lt hN (by omega)
      · exact hN
    have := Inv.run r (K ++ [x]) (stepW (N, B) x).1 (stepW (N, B) x).2 h1 h2 (fun m hm => hl m (by simp [hm]))
    simpa using this
theorem runW_inv {L : List Nat} (hl : ∀ m ∈ L, m < 18446744073709551615) : Inv L (runW L).1 (runW L).2 ∧ (runW L).1 < 18446744073709551616 := by
  have := Inv.run L [] 0 0 Inv.zero (by omega) hl
  simpa [runW] using this
/-- the first so many numbers. -/
def firsts (g : Nat → Nat) (k : Nat) : List Nat := (List.range k).map g
theorem firsts_succ (g : Nat → Nat) (k : Nat) : firsts g (k + 1) = firsts g k ++ [g k] := by unfold firsts; rw [List.range_succ, List.map_append]; rfl
theorem mem_firsts {g : Nat → Nat} {k m : Nat} : m ∈ firsts g k ↔ ∃ i, i < k ∧ g i = m := by unfold firsts; simp
def nextOf (g : Nat → Nat) (k : Nat) : Nat := (runW (firsts g k)).1
def bitsOf (g : Nat → Nat) (k : Nat) : Nat := (runW (firsts g k)).2
theorem of_zero (g : Nat → Nat) : nextOf g 0 = 0 ∧ bitsOf g 0 = 0 := ⟨rfl, rfl⟩
theorem of_inv {g : Nat → Nat} {k : Nat} (h : ∀ i, i < k → g i < 18446744073709551615) : Inv (firsts g k) (nextOf g k) (bitsOf g k) ∧ nextOf g k < 18446744073709551616 ∧ bitsOf g k < 18446744073709551616 := by
  have := runW_inv (L := firsts g k) (fun m hm => by obtain ⟨i, a, b⟩ := mem_firsts.1 hm; rw [← b]; exact h i a)
  exact ⟨this.1, this.2, this.1.w.1⟩
theorem of_yes {g : Nat → Nat} {k : Nat} (h : canB (nextOf g k) (bitsOf g k) (g k) = true) : nextOf g (k + 1) = takeNext (nextOf g k) (bitsOf g k) (g k) ∧ bitsOf g (k + 1) = takeBits (nextOf g k) (bitsOf g k) (g k) := by
  unfold nextOf bitsOf at *
  rw [firsts_succ, runW_snoc]; unfold stepW; rw [if_pos h]; exact ⟨rfl, rfl⟩
theorem of_no {g : Nat → Nat} {k : Nat} (h : canB (nextOf g k) (bitsOf g k) (g k) = false) : nextOf g (k + 1) = nextOf g k ∧ bitsOf g (k + 1) = bitsOf g k := by
  unfold nextOf bitsOf at *
  rw [firsts_succ, runW_snoc]; unfold stepW; rw [if_neg (by simp [h])]; exact ⟨rfl, rfl⟩
end Go.Proofs.Ytpjckfpoeiljbaa
