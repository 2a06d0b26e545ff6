/- Of AlarmOrder, in plain lists. -/
import Derived.Test.YtjdeejbpkdgohaaRoom
namespace Go.Proofs.Ytjdeejbpkdgohaa
set_option linter.unusedVariables false

theorem putS_putL {S : List Al} {most : Int} {id t : Nat} (h : (S.length : Int) < most) : putE S most id = 0 ∧ putS S most id t = putL S id t := by
  unfold putE putS
  have hm : ¬ most ≤ (S.length : Int) := by omega
  cases hasS S id
  · simp only [Bool.false_eq_true, if_false, if_neg hm, and_self]
  · simp only [if_true, and_self]
theorem has_drop {S : List Al} {id i : Nat} (h : i ≠ id) : hasS (dropS S id) i = hasS S i := by
  rw [Bool.eq_iff_iff, has_mem, has_mem]
  unfold dropS
  constructor
  · rintro ⟨x, hx, e⟩; exact ⟨x, (List.mem_filter.1 hx).1, e⟩
  · rintro ⟨x, hx, e⟩; exact ⟨x, List.mem_filter.2 ⟨hx, by rw [e]; simpa using h⟩, e⟩
theorem has_put (S : List Al) (id t i : Nat) : hasS (putL S id t) i = (decide (i = id) || hasS S i) := by
  rw [has_perm (put_perm S id t)]
  have e : hasS ((id, t) :: dropS S id) i = (decide (i = id) || hasS (dropS S id) i) := by
    unfold hasS
    rw [List.any_cons, Bool.eq_iff_iff, Bool.or_eq_true, Bool.or_eq_true, decide_eq_true_eq, beq_iff_eq]
    exact ⟨fun h => h.elim (fun e => .inl e.symm) .inr, fun h => h.elim (fun e => .inl e.symm) .inr⟩
  rw [e]
  by_cases h : i = id
  · simp [h]
  · rw [has_drop h]
theorem mem_put {S : List Al} {id t : Nat} {x : Al} (h : x ∈ putL S id t) : x = (id, t) ∨ (x ∈ S ∧ x.1 ≠ id) := by
  rcases List.mem_cons.1 ((put_perm S id t).mem_iff.1 h) with h | h
  · exact .inl h
  · exact .inr ⟨(List.mem_filter.1 h).1, drop_not S id x h⟩
/-- B tells the last time of each number: 2^20 where there is none. -/
structure Last (S : List Al) (B : List Nat) : Prop where
  fwd : ∀ x ∈ S, x.1 < B.length ∧ B.getD x.1 0 = x.2 ∧ x.2 ≤ 255
  bwd : ∀ i, i < B.length → B.getD i 0 < 1048576 → hasS S i = true
theorem getD_app_rep {B : List Nat} {d i : Nat} : (B ++ List.replicate d 1048576).getD i 0 = if i < B.length then B.getD i 0 else if i < B.length + d then 1048576 else 0 := by
  simp only [List.getD_eq_getElem?_getD, List.getElem?_append]
  split
  · rfl
  · rw [List.getElem?_replicate]
    split
    · rw [if_pos (by omega)]; rfl
    · rw [if_neg (by omega)]; rfl
theorem getD_set {B : List Nat} {i j x : Nat} (h : i < B.length) : (B.set i x).getD j 0 = if j = i then x else B.getD j 0 := by
  simp only [List.getD_eq_getElem?_getD]
  by_cases e : i = j
  · subst e; rw [List.getElem?_set_self h]; simp
  · rw [List.getElem?_set_ne e, if_neg (Ne.symm e)]
theorem last_put {S : List Al} {B : List Nat} {d id t : Nat} (h : Last S B) (hid : id < B.length + d) (ht : t ≤ 255) : Last (putL S id t) ((B ++ List.replicate d 1048576).set id t) := by
  have hl : (B ++ List.replicate d 1048576).length = B.length + d := by simp
  constructor
  · intro x hx
    rw [List.length_set, hl, getD_set (by rw [hl]; exact hid), getD_app_rep]
    rcases mem_put hx with rfl | ⟨hx, hne⟩
    · exact ⟨hid, if_pos rfl, ht⟩
    · obtain ⟨h1, h2, h3⟩ := h.fwd x hx
      rw [if_neg hne, if_pos h1]
      exact ⟨by omega, h2, h3⟩
  · intro i hi hlt
    rw [List.length_set, hl] at hi
    rw [getD_set (by rw [hl]; exact hid), getD_app_rep] at hlt
    rw [has_put]
    by_cases e : i = id
    · simp [e]
    · rw [if_neg e] at hlt
      by_cases h2 : i < B.length
      · rw [if_pos h2] at hlt
        rw [h.bwd i h2 hlt]; simp
      · rw [if_neg h2, if_pos hi] at hlt; omega
/-- lists in order, of the same alarms, are one list. -/
theorem sorted_mem_ext {S T : List Al} (hS : Sorted S) (hT : Sorted T) (h : ∀ x, x ∈ T ↔ x ∈ S) : T = S := by
  induction S generalizing T with
  | nil =>
    cases T with
    | nil => rfl
    | cons y T => exact absurd ((h y).1 (List.mem_cons_self ..)) (by simp)
  | cons x S ih =>
    cases T with
    | nil => exact absurd ((h x).2 (List.mem_cons_self ..)) (by simp)
    | cons y T =>
      unfold Sorted at hS hT
      rw [List.pairwise_cons] at hS hT
      have irr : ∀ {a b : Al}, ltA a b = true → ltA b a = true → False := fun h1 h2 => by
        have := ltA_trans h1 h2; rw [ltA_irr] at this; cases this
      have e : y = x := by
        rcases List.mem_cons.1 ((h y).1 (List.mem_cons_self ..)) with h1 | h1
        · exact h1
        · rcases List.mem_cons.1 ((h x).2 (List.mem_cons_self ..)) with h2 | h2
          · exact h2.symm
          · exact (irr (hS.1 y h1) (hT.1 x h2)).elim
      subst e
      rw [ih hS.2 hT.2 (fun z => ?_)]
      constructor
      · intro hz
        rcases List.mem_cons.1 ((h z).1 (List.mem_cons_of_mem _ hz)) with e | e
        · subst e; have := hT.1 z hz; rw [ltA_irr] at this; cases this
        · exact e
      · intro hz
        rcases List.mem_cons.1 ((h z).2 (List.mem_cons_of_mem _ hz)) with e | e
        · subst e; have := hS.1 z hz; rw [ltA_irr] at this; cases this
        · exact e
/-- T has those of S whose numbers are q or greater. -/
def Above (S T : List Al) (q : Nat) : Prop := ∀ x, x ∈ T ↔ x ∈ S ∧ q ≤ x.1
theorem above_put {S T : List Al} {B : List Nat} {p : Nat} {most : Int} (h : Last S B) (ha : Above S T (p + 1)) (hp : p < B.length) (hlt : B.getD p 0 < 1048576) (hm : (T.length : Int) < most) :
    putE T most p = 0 ∧ Above S (putS T most p (B.getD p 0)) p ∧ (putS T most p (B.getD p 0)).length = T.length + 1 := by
  obtain ⟨e1, e2⟩ := putS_putL (id := p) (t := B.getD p 0) hm
  have hn : hasS T p = false := by
    rw [← Bool.not_eq_true, has_mem]
    rintro ⟨x, hx, e⟩
    have := ((ha x).1 hx).2; omega
  obtain ⟨x, hx, hxp⟩ := has_mem.1 (h.bwd p hp hlt)
  have hxb : x = (p, B.getD p 0) := by
    have := (h.fwd x hx).2.1
    rw [hxp] at this
    exact Prod.ext hxp this.symm
  have hperm : (putL T p (B.getD p 0)).Perm ((p, B.getD p 0) :: T) := by
    have := put_perm T p (B.getD p 0)
    rw [drop_none hn] at this; exact this
  refine ⟨e1, ?_, by rw [e2, hperm.length_eq]; rfl⟩
  rw [e2]
  intro y
  rw [hperm.mem_iff, List.mem_cons, ha y]
  constructor
  · rintro (rfl | ⟨h1, h2⟩)
    · exact ⟨by rw [← hxb]; exact hx, Nat.le_refl _⟩
    · exact ⟨h1, by omega⟩
  · rintro ⟨h1, h2⟩
    by_cases e : y.1 = p
    · left
      have := (h.fwd y h1).2.1
      rw [e] at this
      exact Prod.ext e this.symm
    · exact .inr ⟨h1, by omega⟩
theorem above_skip {S T : List Al} {B : List Nat} {p : Nat} (h : Last S B) (ha : Above S T (p + 1)) (hlt : ¬ B.getD p 0 < 1048576) : Above S T p := fun y => by
  rw [ha y]
  constructor
  · rintro ⟨h1, h2⟩; exact ⟨h1, by omega⟩
  · rintro ⟨h1, h2⟩
    refine ⟨h1, ?_⟩
    have h3 := h.fwd y h1
    by_cases e : y.1 = p
    · rw [e] at h3; omega
    · omega
theorem above_start {S : List Al} {B : List Nat} (h : Last S B) : Above S [] B.length := fun y => by
  constructor
  · intro hy; cases hy
  · rintro ⟨h1, h2⟩
    have := (h.fwd y h1).1
    omega
theorem last_drop {S : List Al} {B : List Nat} {d : Nat} (h : Last S B) : ∀ x ∈ dropS S d, x.1 < B.length ∧ B.getD x.1 0 = x.2 ∧ x.2 ≤ 255 ∧ x.1 ≠ d := fun x hx => by
  obtain ⟨h1, h2, h3⟩ := h.fwd x (List.mem_filter.1 hx).1
  exact ⟨h1, h2, h3, drop_not S d x hx⟩
theorem sorted_at {S : List Al} (h : Sorted S) {i : Nat} (hi : i + 1 < S.length) : S[i].2 < S[i + 1].2 ∨ (S[i].2 = S[i + 1].2 ∧ S[i].1 < S[i + 1].1) := by
  have := List.pairwise_iff_getElem.1 h i (i + 1) (by omega) hi (by omega)
  exact ltA_iff.1 this
end Go.Proofs.Ytjdeejbpkdgohaa
