/- Rows that a law makes and writes beside an Alarms value. -/
import Derived.Test.YtjdeejbpkdgohaaL
namespace Go.Proofs.Ytjdeejbpkdgohaa
open Go.RowKit Go.Maps
set_option maxHeartbeats 1000000
set_option maxRecDepth 100000
set_option linter.unusedVariables false

abbrev Rws := List (Value × List Nat)
theorem St.facts' {W0 W : World} {ba : Nat} {S : List Al} {most : Int} {Rs : Rws} (h : St W0 W ba S most Rs) : Sorted S ∧ Ids S ∧ Fits S := by
  obtain ⟨F, ⟨s, c, mb, H, a⟩, _⟩ := h
  exact ⟨a.sorted, a.ids, a.fits⟩
/-- a new row. -/
theorem St.fresh {W0 W : World} {ba : Nat} {S : List Al} {most : Int} {Rs : Rws} (h : St W0 W ba S most Rs) (L : List Nat) (hl : L.length ≤ maxLen) :
    St W0 (W.alloc (.cells (u64s L).toArray 29)) ba S most ((.slice (some ⟨W.heap.size, 0, none⟩) L.length L.length, L) :: Rs) := by
  obtain ⟨F, h1, h2, h3, h4⟩ := h
  have hb : Below W.heap.size W (W.alloc (.cells (u64s L).toArray 29)) := (Below.refl _ _).alloc (Nat.le_refl _) _
  have hF : ∀ b, F b → b < W.heap.size := by obtain ⟨s, c, mb, H, a⟩ := h1; exact a.lt
  refine ⟨F, h1.below hb, h2, below_from h3 h3.size hb, fun r hr => ?_⟩
  rcases List.mem_cons.1 hr with rfl | hr
  · refine ⟨⟨by simp [u64s], .inr ⟨W.heap.size, L.length, (u64s L).toArray, rfl, Nat.zero_le _, heap_alloc_new W _, Nat.le_refl _, hl, by simp [u64s], (by rw [Nat.mul_one]; exact List.take_of_length_le (by simp [u64s]))⟩⟩, fun b hb hF2 => ?_⟩
    simp [Value.ownBlock] at hb
    have := hF b hF2
    omega
  · exact ⟨owns_below (h4 r hr).1 hb, (h4 r hr).2⟩
/-- a row turns, in its own block or in a new one. -/
theorem St.turn {W0 W W' : World} {ba : Nat} {S : List Al} {most : Int} {Rs : Rws} {v v' : Value} {A A' : List Nat} (h : St W0 W ba S most ((v, A) :: Rs)) (hne : ∀ r ∈ Rs, ∀ b, v.ownBlock = some b → r.1.ownBlock ≠ some b)
    (hT : Touch (fun b => v.ownBlock = some b) W W') (hown : W'.ownsRow 0 29 1 v' A'.length (u64s A')) (hat : ∀ b, v'.ownBlock = some b → v.ownBlock = some b ∨ W.heap.size ≤ b) (hvB : ∀ b, v.ownBlock = some b → W0.heap.size ≤ b) : St W0 W' ba S most ((v', A') :: Rs) := by
  obtain ⟨F, h1, h2, h3, h4⟩ := h
  have hF : ∀ b, F b → b < W.heap.size := by obtain ⟨s, c, mb, H, a⟩ := h1; exact a.lt
  have hv := h4 (v, A) (List.mem_cons_self ..)
  refine ⟨F, h1.touch hT (fun b hb h => hv.2 b h hb), h2, h3.trans (hT.below (B := W0.heap.size) hvB h3.size), fun r hr => ?_⟩
  rcases List.mem_cons.1 hr with rfl | hr
  · refine ⟨hown, fun b hb hFb => ?_⟩
    rcases hat b hb with h | h
    · exact hv.2 b h hFb
    · have := hF b hFb; omega
  · have hr2 := h4 r (List.mem_cons_of_mem _ hr)
    exact ⟨owns_touch hr2.1 hT (fun b hb h => hne r hr b h hb), hr2.2⟩
/-- append to a row. -/
theorem St.append {W0 W w5 : World} {ba n c ge cq x : Nat} {s : Option Addr} {S : List Al} {most : Int} {Rs : Rws} {A : List Nat} {o : Obj} (h : St W0 W ba S most ((.slice s n c, A) :: Rs)) (hn : n = A.length)
    (hne : ∀ r ∈ Rs, ∀ b, (Value.slice s n c).ownBlock = some b → r.1.ownBlock ≠ some b) (hvB : ∀ b, (Value.slice s n c).ownBlock = some b → W0.heap.size ≤ b)
    (hown : w5.ownsRow 0 29 1 (.slice (some ⟨ge, 0, none⟩) (n + 1) cq) (n + 1) (u64s A ++ [.int .u64 (x : Int)])) (hgrow : (W.alloc o).grownBy w5 (Value.slice s n c).ownBlock) (hat : (Value.slice s n c).ownBlock = some ge ∨ ge = W.heap.size + 1) :
    St W0 w5 ba S most ((.slice (some ⟨ge, 0, none⟩) (n + 1) cq, A ++ [x]) :: Rs) := by
  refine h.turn hne (((Touch.refl _ W).alloc o).grown hgrow (fun j hj => .inl hj)) ?_ (fun b hb => ?_) hvB
  · rw [u64s_app, List.length_append, ← hn]; exact hown
  · simp [Value.ownBlock] at hb
    subst hb
    rcases hat with h | h
    · exact .inl h
    · exact .inr (by omega)
/-- a store into a row. -/
theorem St.store {W0 W : World} {ba n c g x i : Nat} {S : List Al} {most : Int} {Rs : Rws} {A : List Nat} (h : St W0 W ba S most ((.slice (some ⟨g, 0, none⟩) n c, A) :: Rs)) (hn : n = A.length)
    (hne : ∀ r ∈ Rs, r.1.ownBlock ≠ some g) (hvB : W0.heap.size ≤ g) :
    St W0 (W.setCell ⟨g, i, none⟩ (.int .u64 (x : Int))) ba S most ((.slice (some ⟨g, 0, none⟩) n c, A.set i x) :: Rs) := by
  have hrow : W.ownsRow 0 29 1 (.slice (some ⟨g, 0, none⟩) n c) n (u64s A) := by
    obtain ⟨F, h1, h2, h3, h4⟩ := h
    have := (h4 _ (List.mem_cons_self ..)).1
    rw [← hn] at this; exact this
  have hs := (hrow.stored i (.int .u64 (x : Int))).1
  refine h.turn (fun r hr b hb => ?_) ((Touch.refl _ W).set _ (.inl rfl)) ?_ (fun b hb => .inl hb) (fun b hb => ?_)
  · simp [Value.ownBlock] at hb; subst hb; exact hne r hr
  · have e : u64s (A.set i x) = (u64s A).set i (.int .u64 (x : Int)) := by unfold u64s; rw [List.map_set]
    rw [e, List.length_set, ← hn]; exact hs
  · simp [Value.ownBlock] at hb; subst hb; exact hvB
theorem St.row {W0 W : World} {ba : Nat} {S : List Al} {most : Int} {Rs : Rws} {r : Value × List Nat} (h : St W0 W ba S most Rs) (hr : r ∈ Rs) : W.ownsRow 0 29 1 r.1 r.2.length (u64s r.2) := by
  obtain ⟨F, h1, h2, h3, h4⟩ := h
  exact (h4 r hr).1
/-- Due, with a word on where its row lies. -/
def DueFar (W0 : World) (ba : Nat) (S : List Al) (most : Int) (Rs : Rws) (n : Nat) (L : List Nat) (e : Ending) (w' : World) : Prop :=
  ∃ a c, e = .returned (.slice a n c) ∧ St W0 w' ba S most ((.slice a n c, L) :: Rs) ∧ ∀ r ∈ Rs, ∀ b, r.1.ownBlock = some b → (Value.slice a n c).ownBlock ≠ some b
theorem far_due {W0 W : World} {ba : Nat} {S S' : List Al} {most : Int} {Rs : Rws} (h : St W0 W ba S most Rs) (now : Nat) (L : List Nat) (n : Nat) (hn : now < 18446744073709551616) (hl : S.length < 100000) (hL : idsOf (dueL S now) = L) (hn2 : L.length = n) (hS : restL S now = S') :
    Calls Try.prog 15 #[apt ba, .int .u64 now] W (DueFar W0 ba S' most Rs n L) := by
  subst hL hS hn2
  obtain ⟨F, h1, h2, h3, h4⟩ := h
  have hF : ∀ b, F b → b < W.heap.size := by obtain ⟨s, c, mb, H, a⟩ := h1; exact a.lt
  refine (due_al h1 hn hl hF).mono fun e w' ⟨v, he, hown, hA, hT⟩ => ?_
  obtain ⟨a, c, rfl, hf⟩ := row_form hown
  refine ⟨a, c, he, ⟨F, hA, h2, h3.trans (hT.below (B := W0.heap.size) h2 h3.size), fun r hr => ?_⟩, fun r hr b hb h5 => ?_⟩
  · rcases List.mem_cons.1 hr with rfl | hr
    · refine ⟨⟨hown.1, ?_⟩, fun b hb hFb => by have := hF b hFb; have := (hown.lt b hb).1; omega⟩
      rcases hown.2 with h | ⟨g, cap, cur, h, hb, hr⟩
      · exact .inl h
      · exact .inr ⟨g, cap, cur, h, Nat.zero_le _, hr⟩
    · exact ⟨owns_touch (h4 r hr).1 hT (h4 r hr).2, (h4 r hr).2⟩
  · have := ((h4 r hr).1.lt b hb).2
    have := (hown.lt b h5).1
    omega
theorem rest_all {S : List Al} {n : Nat} (h : Sorted S) : ∀ y ∈ restL S n, n < y.2 := by
  induction S with
  | nil => intro y hy; cases hy
  | cons x S ih =>
    unfold Sorted at h
    rw [List.pairwise_cons] at h
    by_cases hx : x.2 ≤ n
    · rw [(due_cons hx).2]; exact ih h.2
    · rw [(due_stop hx).2]
      intro y hy
      rcases List.mem_cons.1 hy with rfl | hy
      · omega
      · have := h.1 y hy
        rw [ltA_iff] at this; omega
theorem due_all {S : List Al} {n : Nat} : ∀ y ∈ dueL S n, y.2 ≤ n := by
  induction S with
  | nil => intro y hy; cases hy
  | cons x S ih =>
    by_cases hx : x.2 ≤ n
    · rw [(due_cons hx).1]
      intro y hy
      rcases List.mem_cons.1 hy with rfl | hy
      · exact hx
      · exact ih y hy
    · rw [(due_stop hx).1]
      intro y hy; cases hy
end Go.Proofs.Ytjdeejbpkdgohaa
