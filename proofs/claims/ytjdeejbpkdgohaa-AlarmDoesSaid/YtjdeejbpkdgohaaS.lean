/- Alarms as a list in order. -/
import Derived.Test.YtjdeejbpkdgohaaP
namespace Go.Proofs.Ytjdeejbpkdgohaa
set_option linter.unusedVariables false

abbrev Al := Nat × Nat
def Sorted (S : List Al) : Prop := S.Pairwise fun x y => ltA x y = true
def Ids (S : List Al) : Prop := (S.map Prod.fst).Nodup
def hasS (S : List Al) (id : Nat) : Bool := S.any fun x => x.1 == id
def dropS (S : List Al) (id : Nat) : List Al := S.filter fun x => x.1 != id
def insA (x : Al) : List Al → List Al
  | [] => [x]
  | y :: S => if ltA x y then x :: y :: S else y :: insA x S
def putL (S : List Al) (id t : Nat) : List Al := insA (id, t) (dropS S id)

theorem ltA_trans {x y z : Al} (h : ltA x y = true) (k : ltA y z = true) : ltA x z = true := by rw [ltA_iff] at *; omega
theorem ltA_irr (x : Al) : ltA x x = false := by rw [ltA_not]; omega
theorem insA_perm (x : Al) (S : List Al) : (insA x S).Perm (x :: S) := by
  induction S with
  | nil => exact List.Perm.refl _
  | cons y S ih =>
    unfold insA
    split
    · exact List.Perm.refl _
    · exact (List.Perm.cons y ih).trans (List.Perm.swap x y S)
theorem insA_sorted {x : Al} {S : List Al} (h : Sorted S) (hx : ∀ y ∈ S, y.1 ≠ x.1) : Sorted (insA x S) := by
  induction S with
  | nil => exact List.pairwise_singleton _ _
  | cons y S ih =>
    unfold Sorted at h
    rw [List.pairwise_cons] at h
    unfold insA
    split
    · rename_i hl
      refine List.pairwise_cons.2 ⟨fun z hz => ?_, List.pairwise_cons.2 h⟩
      rcases List.mem_cons.1 hz with rfl | hz
      · exact hl
      · exact ltA_trans hl (h.1 z hz)
    · rename_i hl
      refine List.pairwise_cons.2 ⟨fun z hz => ?_, ih h.2 (fun z hz => hx z (List.mem_cons_of_mem _ hz))⟩
      rcases List.mem_cons.1 ((insA_perm x S).mem_iff.1 hz) with rfl | hz
      · have hn := hx y (List.mem_cons_self ..)
        have hl2 : ltA z y = false := by simpa using hl
        rw [ltA_not] at hl2
        rw [ltA_iff]; omega
      · exact h.1 z hz
/-- lists in order, of the same alarms, are one list. -/
theorem sorted_ext {S T : List Al} (hS : Sorted S) (hT : Sorted T) (h : S.Perm T) : S = T := by
  induction S generalizing T with
  | nil => exact h.symm.eq_nil.symm ▸ rfl
  | cons x S ih =>
    cases T with
    | nil => exact absurd h.eq_nil (by simp)
    | cons y T =>
      unfold Sorted at hS hT
      rw [List.pairwise_cons] at hS hT
      have e : x = y := by
        have h1 := h.mem_iff.1 (List.mem_cons_self (a := x) (l := S))
        have h2 := h.mem_iff.2 (List.mem_cons_self (a := y) (l := T))
        rcases List.mem_cons.1 h1 with h1 | h1
        · exact h1
        · rcases List.mem_cons.1 h2 with h2 | h2
          · exact h2.symm
          · have := ltA_trans (hS.1 y h2) (hT.1 x h1)
            rw [ltA_irr] at this; cases this
      subst e
      rw [ih hS.2 hT.2 (List.Perm.cons_inv h)]
theorem sorted_filter {S : List Al} (p : Al → Bool) (h : Sorted S) : Sorted (S.filter p) := List.Pairwise.filter p h
theorem ids_filter {S : List Al} (p : Al → Bool) (h : Ids S) : Ids (S.filter p) := by
  unfold Ids at *
  exact List.Pairwise.sublist (List.Sublist.map Prod.fst List.filter_sublist) h
theorem drop_not (S : List Al) (id : Nat) : ∀ y ∈ dropS S id, y.1 ≠ id := fun y hy => by
  unfold dropS at hy
  simpa using (List.mem_filter.1 hy).2
theorem drop_none {S : List Al} {id : Nat} (h : hasS S id = false) : dropS S id = S := by
  unfold dropS hasS at *
  rw [List.filter_eq_self]
  intro x hx
  rw [List.any_eq_false] at h
  have := h x hx
  simpa using this
theorem put_sorted {S : List Al} {id t : Nat} (h : Sorted S) : Sorted (putL S id t) := insA_sorted (sorted_filter _ h) (drop_not S id)
theorem ids_perm {S T : List Al} (h : S.Perm T) (hi : Ids S) : Ids T := (h.map Prod.fst).nodup_iff.1 hi
theorem put_ids {S : List Al} {id t : Nat} (h : Ids S) : Ids (putL S id t) := by
  refine ids_perm (insA_perm _ _).symm ?_
  unfold Ids
  rw [List.map_cons, List.nodup_cons]
  refine ⟨fun hm => ?_, ids_filter _ h⟩
  obtain ⟨y, hy, e⟩ := List.mem_map.1 hm
  exact drop_not S id y hy e
theorem put_perm (S : List Al) (id t : Nat) : (putL S id t).Perm ((id, t) :: dropS S id) := insA_perm _ _
theorem has_mem {S : List Al} {id : Nat} : hasS S id = true ↔ ∃ x ∈ S, x.1 = id := by
  unfold hasS; rw [List.any_eq_true]; simp
theorem has_perm {S T : List Al} (h : S.Perm T) (id : Nat) : hasS S id = hasS T id := by
  rw [Bool.eq_iff_iff, has_mem, has_mem]
  exact ⟨fun ⟨x, hx, e⟩ => ⟨x, h.mem_iff.1 hx, e⟩, fun ⟨x, hx, e⟩ => ⟨x, h.mem_iff.2 hx, e⟩⟩
/-- without the one of a number. -/
theorem drop_cons {S K : List Al} {x : Al} (h : S.Perm (x :: K)) (hi : Ids S) : (dropS S x.1).Perm K ∧ hasS S x.1 = true ∧ hasS K x.1 = false := by
  have h1 := ids_perm h hi
  unfold Ids at h1
  rw [List.map_cons, List.nodup_cons] at h1
  have hk : hasS K x.1 = false := by
    rw [← Bool.not_eq_true, has_mem]
    rintro ⟨y, hy, e⟩
    exact h1.1 (List.mem_map.2 ⟨y, hy, e⟩)
  refine ⟨?_, has_mem.2 ⟨x, h.mem_iff.2 (List.mem_cons_self ..), rfl⟩, hk⟩
  have h2 : (dropS S x.1).Perm (dropS (x :: K) x.1) := h.filter _
  have h3 : dropS (x :: K) x.1 = dropS K x.1 := by unfold dropS; rw [List.filter_cons]; simp
  rw [h3, drop_none hk] at h2
  exact h2
theorem drop_len {S : List Al} {id : Nat} : (dropS S id).length ≤ S.length := List.length_filter_le _ _
theorem put_len {S : List Al} {id t : Nat} : (putL S id t).length ≤ S.length + 1 := by
  rw [(put_perm S id t).length_eq]
  have := drop_len (S := S) (id := id)
  simp; omega
/-- numbers and times that a word holds. -/
def Fits (S : List Al) : Prop := ∀ x ∈ S, x.1 < 18446744073709551616 ∧ x.2 < 18446744073709551616
theorem fits_drop {S : List Al} {id : Nat} (h : Fits S) : Fits (dropS S id) := fun x hx => h x (List.mem_filter.1 hx).1
theorem fits_put {S : List Al} {id t : Nat} (h : Fits S) (h1 : id < 18446744073709551616) (h2 : t < 18446744073709551616) : Fits (putL S id t) := fun x hx => by
  rcases List.mem_cons.1 ((put_perm S id t).mem_iff.1 hx) with rfl | hx
  · exact ⟨h1, h2⟩
  · exact fits_drop h x hx

/-! What Due takes, and what it leaves. -/
def dueL (S : List Al) (now : Nat) : List Al := S.takeWhile fun x => decide (x.2 ≤ now)
def restL (S : List Al) (now : Nat) : List Al := S.dropWhile fun x => decide (x.2 ≤ now)
theorem due_cons {x : Al} {S : List Al} {now : Nat} (h : x.2 ≤ now) : dueL (x :: S) now = x :: dueL S now ∧ restL (x :: S) now = restL S now := by
  unfold dueL restL
  simp [h]
theorem due_stop {x : Al} {S : List Al} {now : Nat} (h : ¬ x.2 ≤ now) : dueL (x :: S) now = [] ∧ restL (x :: S) now = x :: S := by
  unfold dueL restL
  simp [h]
theorem due_nil (now : Nat) : dueL [] now = [] ∧ restL [] now = [] := ⟨rfl, rfl⟩
theorem due_app (S : List Al) (now : Nat) : dueL S now ++ restL S now = S := List.takeWhile_append_dropWhile
/-- the first one of a heap. -/
theorem first_key {S S' : List Al} {s : Al} {H : List Ent} (hs : S = s :: S') (hS : Sorted S) (hp : S.Perm (H.map Ent.key)) (hh : HeapOn H H.length) : (gt H 0).key = s := by
  subst hs
  have h0 : 0 < H.length := by have := hp.length_eq; simp at this; omega
  have h1 : (gt H 0).key ∈ s :: S' := hp.mem_iff.2 (List.mem_map.2 ⟨_, gt_mem h0, rfl⟩)
  unfold Sorted at hS
  rw [List.pairwise_cons] at hS
  rcases List.mem_cons.1 h1 with h | h
  · exact h
  · have h2 := hS.1 _ h
    obtain ⟨y, hy, e⟩ := List.mem_map.1 (hp.mem_iff.1 (List.mem_cons_self (a := s) (l := S')))
    obtain ⟨i, hi, e2⟩ := mem_gt hy
    have h3 := heap_min hh i hi
    unfold leq ltB at h3
    rw [e2, e, h2] at h3; cases h3
end Go.Proofs.Ytjdeejbpkdgohaa
