/- Of windows in plain numbers: which numbers were taken. -/
import Derived.Test.YtpjckfpoeiljbaaPlain2
namespace Go.Proofs.Ytpjckfpoeiljbaa

/-- a window that took the numbers ts (none of them beyond top). -/
structure Once (N B top : Nat) (ts : List Nat) : Prop where
  bits : B < 18446744073709551616
  zero : ts = [] → N = 0 ∧ top = 0
  next : ts ≠ [] → N = top + 1
  has : ∀ m, hasB N B m = (decide (m ∈ ts) && decide (N ≤ m + 64))
  lt : ∀ m ∈ ts, m < N
  le : N ≤ 9223372036854776064
def oldB (ts : List Nat) (top n : Nat) : Bool := decide (0 < ts.length) && decide (n + 63 < top)

theorem once_zero : Once 0 0 0 [] := ⟨by omega, fun _ => ⟨rfl, rfl⟩, fun h => (h rfl).elim, fun m => by simp [hasB], fun m h => by simp at h, by omega⟩

theorem once_can {N B top n : Nat} {ts : List Nat} (o : Once N B top ts) (hn : n < 9223372036854776064) : canB N B n = (!decide (n ∈ ts) && !oldB ts top n) := by
  unfold oldB
  by_cases e : ts = []
  · obtain ⟨rfl, rfl⟩ := o.zero e
    subst e
    rw [canB_lo (by omega) (by omega)]; simp
  · have hN := o.next e
    have hl : 0 < ts.length := List.length_pos_iff.2 e
    by_cases h : N ≤ n
    · rw [canB_lo h (by omega)]
      have h1 : n ∉ ts := fun hm => by have := o.lt n hm; omega
      have h2 : ¬ n + 63 < top := by omega
      simp [h1, h2]
    · by_cases h2 : n + 63 < top
      · rw [(can_far (by omega)).1]; simp [h2, hl]
      · have := o.le
        rw [can_within (by omega) (by omega) (by omega), o.has]
        have h3 : N ≤ n + 64 := by omega
        simp [h2, h3]

theorem once_not {N B top n : Nat} {ts : List Nat} (o : Once N B top ts) (hn : n < 9223372036854776064) (h : canB N B n = false) (h2 : oldB ts top n = false) : hasB N B n = true := by
  rw [once_can o hn, h2] at h
  simp at h
  rw [o.has]
  have hl : 0 < ts.length := List.length_pos_of_mem h
  have hN := o.next (by intro e; subst e; simp at h)
  unfold oldB at h2
  simp [hl] at h2
  have : N ≤ n + 64 := by omega
  simp [h, this]

theorem once_take {N B top n : Nat} {ts : List Nat} (o : Once N B top ts) (hn : n < 9223372036854776064) (h : canB N B n = true) :
    Once (takeNext N B n) (takeBits N B n) (max top n) (ts ++ [n]) ∧ hasB (takeNext N B n) (takeBits N B n) n = true := by
  have hm := next_take (by omega) h
  have hh := has_take (by omega) h
  have hle := o.le
  have hnear := can_near h
  refine ⟨⟨takeBits_lt o.bits, by simp, fun _ => ?_, fun m => ?_, fun m hmem => ?_, by omega⟩, ?_⟩
  · rw [hm]
    by_cases e : ts = []
    · obtain ⟨rfl, rfl⟩ := o.zero e; omega
    · have := o.next e; omega
  · rw [hh m, o.has]
    by_cases e : m = n
    · simp [e]
    · by_cases h1 : takeNext N B n ≤ m + 64
      · have h2 : N ≤ m + 64 := by omega
        simp [e, h1, h2]
      · simp [h1]
  · rw [List.mem_append] at hmem
    rcases hmem with h1 | h1
    · have := o.lt m h1; omega
    · simp at h1; omega
  · rw [hh n]
    have : takeNext N B n ≤ n + 64 := by omega
    simp [this]
theorem take_err {N B n : Nat} (hn : n < 18446744073709551615) : takeErr N B n = if canB N B n then 0 else 12 := by
  unfold takeErr
  have : ¬ n = 18446744073709551615 := by omega
  cases h : canB N B n <;> simp [this]
theorem mem_take_succ (l : List Nat) (n k : Nat) (h : k < l.length) : decide (n ∈ l.take (k + 1)) = (decide (n ∈ l.take k) || decide (l[k] = n)) := by
  rw [List.take_succ_eq_append_getElem h, Bool.eq_iff_iff]
  simp only [decide_eq_true_eq, Bool.or_eq_true, List.mem_append, List.mem_singleton]
  rw [eq_comm (a := n)]
end Go.Proofs.Ytpjckfpoeiljbaa
