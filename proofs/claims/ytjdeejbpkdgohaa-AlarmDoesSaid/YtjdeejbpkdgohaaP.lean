/- Heaps in plain lists. -/
namespace Go.Proofs.Ytjdeejbpkdgohaa
set_option linter.unusedVariables false

/-- an alarm: the block in which it lies, its number, its time. -/
structure Ent where
  b : Nat
  id : Nat
  time : Nat

/-- is one ahead of another one? -/
def ltA (x y : Nat × Nat) : Bool := if x.2 = y.2 then decide (x.1 < y.1) else decide (x.2 < y.2)
def Ent.key (x : Ent) : Nat × Nat := (x.id, x.time)
def ltB (x y : Ent) : Bool := ltA x.key y.key
theorem ltA_iff {x y : Nat × Nat} : ltA x y = true ↔ x.2 < y.2 ∨ (x.2 = y.2 ∧ x.1 < y.1) := by
  unfold ltA
  split <;> simp <;> omega
theorem ltA_not {x y : Nat × Nat} : ltA x y = false ↔ y.2 < x.2 ∨ (y.2 = x.2 ∧ y.1 ≤ x.1) := by
  rw [← Bool.not_eq_true, ltA_iff]; omega
def leq (x y : Ent) : Prop := ltB y x = false
theorem leq_iff {x y : Ent} : leq x y ↔ x.time < y.time ∨ (x.time = y.time ∧ x.id ≤ y.id) := ltA_not
theorem leq_refl (x : Ent) : leq x x := by rw [leq_iff]; omega
theorem leq_trans {x y z : Ent} (h : leq x y) (k : leq y z) : leq x z := by rw [leq_iff] at *; omega
theorem leq_of_lt {x y : Ent} (h : ltB x y = true) : leq x y := by
  rw [leq_iff]; unfold ltB at h; rw [ltA_iff] at h; unfold Ent.key at h; simp at h; omega

def gt (H : List Ent) (i : Nat) : Ent := H.getD i ⟨0, 0, 0⟩
def par (j : Nat) : Nat := (j - 1) / 2
def swp (H : List Ent) (i k : Nat) : List Ent := (H.set i (gt H k)).set k (gt H i)
theorem gt_lt {H : List Ent} {i : Nat} (h : i < H.length) : gt H i = H[i] := by
  unfold gt; rw [List.getD_eq_getElem?_getD, List.getElem?_eq_getElem h]; rfl
theorem gt_set {H : List Ent} {i : Nat} (x : Ent) (h : i < H.length) (j : Nat) : gt (H.set i x) j = if j = i then x else gt H j := by
  unfold gt
  rw [List.getD_eq_getElem?_getD, List.getD_eq_getElem?_getD, List.getElem?_set]
  by_cases e : i = j
  · subst e; simp [h]
  · simp [e, Ne.symm e]
theorem swp_len (H : List Ent) (i k : Nat) : (swp H i k).length = H.length := by simp [swp]
theorem gt_swp {H : List Ent} {i k : Nat} (hi : i < H.length) (hk : k < H.length) (j : Nat) : gt (swp H i k) j = if j = k then gt H i else if j = i then gt H k else gt H j := by
  unfold swp
  rw [gt_set _ (by simpa using hk), gt_set _ hi]
theorem swp_perm {H : List Ent} {i k : Nat} (hi : i < H.length) (hk : k < H.length) : (swp H i k).Perm H := by
  have h := (Array.swap_perm (xs := H.toArray) (i := i) (j := k) (by simpa using hi) (by simpa using hk))
  have e : (H.toArray.swap i k (by simpa using hi) (by simpa using hk)).toList = swp H i k := by
    unfold swp
    rw [gt_lt hi, gt_lt hk]
    simp [Array.swap]
  have := Array.Perm.toList h
  rw [e] at this
  simpa using this
theorem gt_app {H : List Ent} (x : Ent) (j : Nat) : gt (H ++ [x]) j = if j < H.length then gt H j else if j = H.length then x else ⟨0, 0, 0⟩ := by
  unfold gt
  simp only [List.getD_eq_getElem?_getD, List.getElem?_append]
  split
  · rfl
  · split
    · rename_i h1 h2; subst h2; simp
    · rename_i h1 h2
      rw [List.getElem?_eq_none (by simp; omega)]; rfl
theorem gt_dropLast {H : List Ent} {j : Nat} (h : j < H.length - 1) : gt H.dropLast j = gt H j := by
  unfold gt
  rw [List.getD_eq_getElem?_getD, List.getD_eq_getElem?_getD, List.getElem?_dropLast]
  simp [h]

def HeapOn (H : List Ent) (n : Nat) : Prop := ∀ j, 0 < j → j < n → leq (gt H (par j)) (gt H j)
def HE (H : List Ent) (n i : Nat) : Prop := (∀ j, 0 < j → j < n → j ≠ i → par j ≠ i → leq (gt H (par j)) (gt H j)) ∧ (0 < i → ∀ j, 0 < j → j < n → par j = i → leq (gt H (par i)) (gt H j))
def HU (H : List Ent) (n i : Nat) : Prop := (∀ j, 0 < j → j < n → j ≠ i → leq (gt H (par j)) (gt H j)) ∧ (0 < i → ∀ j, 0 < j → j < n → par j = i → leq (gt H (par i)) (gt H j))

theorem up_step {H : List Ent} {n j : Nat} (hn : n ≤ H.length) (h : HU H n j) (h0 : 0 < j) (hj : j < n) (hlt : ltB (gt H j) (gt H (par j)) = true) : HU (swp H (par j) j) n (par j) := by
  obtain ⟨ha, hb⟩ := h
  have hp : par j < j := by unfold par; omega
  have g := gt_swp (H := H) (i := par j) (k := j) (by omega) (by omega)
  have hle := leq_of_lt hlt
  constructor
  · intro k k0 kn kne
    have hpk : par k < k := by unfold par; omega
    by_cases kj : k = j
    · subst kj
      rw [g, g, if_neg (by omega), if_pos rfl, if_pos rfl]; exact hle
    · rw [g k, if_neg kj, if_neg kne, g (par k)]
      by_cases pj : par k = j
      · rw [if_pos pj]; exact hb h0 k k0 kn pj
      · rw [if_neg pj]
        by_cases pp : par k = par j
        · rw [if_pos pp]
          have := ha k k0 kn kj
          rw [pp] at this
          exact leq_trans hle this
        · rw [if_neg pp]; exact ha k k0 kn kj
  · intro p0 k k0 kn pk
    have hpp : par (par j) < par j := by unfold par at *; omega
    have h1 := ha (par j) p0 (by omega) (by omega)
    rw [g (par (par j)), if_neg (by omega), if_neg (by omega), g k]
    by_cases kj : k = j
    · rw [if_pos kj]; exact h1
    · have hpk : par k < k := by unfold par; omega
      rw [if_neg kj, if_neg (by omega)]
      have := ha k k0 kn kj
      rw [pk] at this
      exact leq_trans h1 this
theorem up_end {H : List Ent} {n j : Nat} (h : HU H n j) (he : j = 0 ∨ leq (gt H (par j)) (gt H j)) : HeapOn H n := by
  intro k k0 kn
  by_cases kj : k = j
  · subst kj
    rcases he with he | he
    · omega
    · exact he
  · exact h.1 k k0 kn kj

/-- what the loop of down keeps. -/
structure Down (H0 : List Ent) (n i0 : Nat) (H : List Ent) (i : Nat) : Prop where
  perm : H.Perm H0
  len : H.length = H0.length
  he : HE H n i
  ge : i0 ≤ i
  moved : i ≠ i0 → leq (gt H (par i)) (gt H i)
  same : i = i0 → H = H0
  rest : ∀ k, n ≤ k → gt H k = gt H0 k
theorem down_start {H : List Ent} {n i : Nat} (h : HE H n i) : Down H n i H i := ⟨List.Perm.refl _, rfl, h, Nat.le_refl _, fun h => absurd rfl h, fun _ => rfl, fun _ _ => rfl⟩
theorem par_of {i j : Nat} (h : j = 2 * i + 1 ∨ j = 2 * i + 2) : par j = i ∧ i < j ∧ 0 < j := by unfold par; omega
theorem kids {i k : Nat} (h : par k = i) (h0 : 0 < k) : k = 2 * i + 1 ∨ k = 2 * i + 2 := by unfold par at h; omega
theorem down_step {H0 H : List Ent} {n i0 i j : Nat} (hn : n ≤ H.length) (h : Down H0 n i0 H i) (hj : j = 2 * i + 1 ∨ j = 2 * i + 2) (jn : j < n)
    (hmin : ∀ k, 0 < k → k < n → par k = i → leq (gt H j) (gt H k)) (hlt : ltB (gt H j) (gt H i) = true) : Down H0 n i0 (swp H i j) j := by
  obtain ⟨hperm, hlen, ⟨ha, hb⟩, hge, hmoved, hsame, hrest⟩ := h
  obtain ⟨pj, ij, j0⟩ := par_of hj
  have g := gt_swp (H := H) (i := i) (k := j) (by omega) (by omega)
  have hle := leq_of_lt hlt
  refine ⟨(swp_perm (by omega) (by omega)).trans hperm, by rw [swp_len]; exact hlen, ⟨?_, ?_⟩, by omega, ?_, by omega, ?_⟩
  · intro k k0 kn kj pkj
    have hpk : par k < k := by unfold par; omega
    by_cases ki : k = i
    · subst ki
      rw [g k, if_neg (by omega), if_pos rfl, g (par k), if_neg (by omega), if_neg (by omega)]
      exact hb k0 j j0 jn pj
    · rw [g k, if_neg kj, if_neg ki, g (par k), if_neg pkj]
      by_cases pi : par k = i
      · rw [if_pos pi]; exact hmin k k0 kn pi
      · rw [if_neg pi]; exact ha k k0 kn ki pi
  · intro _ k k0 kn pk
    have hpk : par k < k := by unfold par; omega
    rw [pj, g i, if_neg (by omega), if_pos rfl, g k, if_neg (by omega), if_neg (by omega)]
    have := ha k k0 kn (by omega) (by omega)
    rw [pk] at this
    exact this
  · intro _
    rw [pj, g i, if_neg (by omega), if_pos rfl, g j, if_pos rfl]; exact hle
  · intro k kn
    rw [g k, if_neg (by omega), if_neg (by omega)]; exact hrest k kn
/-- what down leaves: a heap, if it moved; else the list as it was, in which only the step from above may be wrong. -/
theorem down_end {H0 H : List Ent} {n i0 i : Nat} (h : Down H0 n i0 H i) (he : ∀ k, 0 < k → k < n → par k = i → leq (gt H i) (gt H k)) : (i0 < i → HeapOn H n) ∧ (¬ i0 < i → H = H0 ∧ HU H0 n i0) := by
  obtain ⟨hperm, hlen, ⟨ha, hb⟩, hge, hmoved, hsame, hrest⟩ := h
  have hall : ∀ k, 0 < k → k < n → k ≠ i → leq (gt H (par k)) (gt H k) := fun k k0 kn ki => by
    by_cases pi : par k = i
    · rw [pi]; exact he k k0 kn pi
    · exact ha k k0 kn ki pi
  constructor
  · intro hm k k0 kn
    by_cases ki : k = i
    · subst ki; exact hmoved (by omega)
    · exact hall k k0 kn ki
  · intro hm
    have e : i = i0 := by omega
    subst e
    have e2 := hsame rfl
    subst e2
    exact ⟨rfl, hall, hb⟩
theorem he_of {H H' : List Ent} {m n i : Nat} (h : HeapOn H m) (hnm : n ≤ m) (hi : i < m) (hs : ∀ k, k < n → k ≠ i → gt H' k = gt H k) : HE H' n i := by
  constructor
  · intro j j0 jn ji pi
    have hpj : par j < j := by unfold par; omega
    rw [hs j jn ji, hs (par j) (by omega) pi]; exact h j j0 (by omega)
  · intro i0 j j0 jn pj
    have hpj : par j < j := by unfold par; omega
    have hpi : par i < i := by unfold par; omega
    rw [hs j jn (by omega), hs (par i) (by omega) (by omega)]
    have h1 := h i i0 (by omega)
    have h2 := h j j0 (by omega)
    rw [pj] at h2
    exact leq_trans h1 h2
theorem hu_app {H : List Ent} (x : Ent) (h : HeapOn H H.length) : HU (H ++ [x]) (H.length + 1) H.length := by
  constructor
  · intro j j0 jn jne
    have hpj : par j < j := by unfold par; omega
    rw [gt_app, if_pos (by omega), gt_app, if_pos (by omega)]
    exact h j j0 (by omega)
  · intro _ j j0 jn pj
    have hpj : par j < j := by unfold par; omega
    omega
theorem heap_min {H : List Ent} {n : Nat} (h : HeapOn H n) : ∀ j, j < n → leq (gt H 0) (gt H j) := by
  intro j
  induction j using Nat.strongRecOn with
  | ind j ih =>
    intro hj
    by_cases h0 : j = 0
    · subst h0; exact leq_refl _
    · have hpj : par j < j := by unfold par; omega
      exact leq_trans (ih _ hpj (by omega)) (h j (by omega) hj)
theorem heap_mono {H : List Ent} {n m : Nat} (h : HeapOn H n) (hm : m ≤ n) : HeapOn H m := fun j h0 hj => h j h0 (by omega)
theorem heap_same {H H' : List Ent} {n : Nat} (h : HeapOn H n) (hs : ∀ k, k < n → gt H' k = gt H k) : HeapOn H' n := fun j h0 hj => by
  have hpj : par j < j := by unfold par; omega
  rw [hs j hj, hs (par j) (by omega)]; exact h j h0 hj
theorem gt_mem {H : List Ent} {i : Nat} (h : i < H.length) : gt H i ∈ H := by rw [gt_lt h]; exact List.getElem_mem _
theorem mem_gt {H : List Ent} {x : Ent} (h : x ∈ H) : ∃ i, i < H.length ∧ gt H i = x := by
  obtain ⟨i, hi, e⟩ := List.getElem_of_mem h
  exact ⟨i, hi, by rw [gt_lt hi]; exact e⟩
/-- a list less its last one, that one ahead. -/
theorem perm_last {H : List Ent} (h : 0 < H.length) : (gt H (H.length - 1) :: H.dropLast).Perm H := by
  have hne : H ≠ [] := by intro e; subst e; simp at h
  have e := List.dropLast_concat_getLast hne
  have e2 : gt H (H.length - 1) = H.getLast hne := by rw [gt_lt (by omega), List.getLast_eq_getElem]
  rw [e2]
  conv => rhs; rw [← e]
  exact (List.perm_append_singleton _ _).symm
end Go.Proofs.Ytjdeejbpkdgohaa
