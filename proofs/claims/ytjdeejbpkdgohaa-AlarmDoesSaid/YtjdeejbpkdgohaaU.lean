/- Two Alarms values, and rows beside them. -/
import Derived.Test.YtjdeejbpkdgohaaR
namespace Go.Proofs.Ytjdeejbpkdgohaa
open Go.RowKit Go.Maps
set_option maxHeartbeats 1000000
set_option maxRecDepth 100000
set_option linter.unusedVariables false

/-- two Alarms values, at ba and bb, and rows that were told or made; all of it since W0. -/
def St2 (W0 W : World) (ba : Nat) (S : List Al) (bb : Nat) (T : List Al) (most : Int) (Rs : Rws) : Prop :=
  ∃ F G, AlarmAt W ba F S most ∧ AlarmAt W bb G T most ∧ (∀ b, F b → ¬ G b) ∧ (∀ b, F b → W0.heap.size ≤ b) ∧ (∀ b, G b → W0.heap.size ≤ b) ∧ Below W0.heap.size W0 W ∧ ∀ r ∈ Rs, W.ownsRow 0 29 1 r.1 r.2.length (u64s r.2) ∧ ∀ b, r.1.ownBlock = some b → ¬ F b ∧ ¬ G b
theorem St2.symm {W0 W : World} {ba bb : Nat} {S T : List Al} {most : Int} {Rs : Rws} (h : St2 W0 W ba S bb T most Rs) : St2 W0 W bb T ba S most Rs := by
  obtain ⟨F, G, h1, h2, h3, h4, h5, h6, h7⟩ := h
  exact ⟨G, F, h2, h1, fun b hg hf => h3 b hf hg, h5, h4, h6, fun r hr => ⟨(h7 r hr).1, fun b hb => ⟨((h7 r hr).2 b hb).2, ((h7 r hr).2 b hb).1⟩⟩⟩
theorem St2.below {W0 W : World} {ba bb : Nat} {S T : List Al} {most : Int} {Rs : Rws} (h : St2 W0 W ba S bb T most Rs) : Below W0.heap.size W0 W := by obtain ⟨F, G, _, _, _, _, _, h, _⟩ := h; exact h
theorem St2.step {W0 W W' : World} {ba bb : Nat} {S T : List Al} {most : Int} {Rs : Rws} (h : St2 W0 W ba S bb T most Rs) (hb : Below W.heap.size W W') : St2 W0 W' ba S bb T most Rs := by
  obtain ⟨F, G, h1, h2, h3, h4, h5, h6, h7⟩ := h
  exact ⟨F, G, h1.below hb, h2.below hb, h3, h4, h5, below_from h6 h6.size hb, fun r hr => ⟨owns_below (h7 r hr).1 hb, (h7 r hr).2⟩⟩
theorem St2.fewer {W0 W : World} {ba bb : Nat} {S T : List Al} {most : Int} {Rs Qs : Rws} (h : St2 W0 W ba S bb T most Rs) (hs : ∀ r ∈ Qs, r ∈ Rs) : St2 W0 W ba S bb T most Qs := by
  obtain ⟨F, G, h1, h2, h3, h4, h5, h6, h7⟩ := h
  exact ⟨F, G, h1, h2, h3, h4, h5, h6, fun r hr => h7 r (hs r hr)⟩
theorem St2.row {W0 W : World} {ba bb : Nat} {S T : List Al} {most : Int} {Rs : Rws} {r : Value × List Nat} (h : St2 W0 W ba S bb T most Rs) (hr : r ∈ Rs) : W.ownsRow 0 29 1 r.1 r.2.length (u64s r.2) := by
  obtain ⟨F, G, _, _, _, _, _, _, h7⟩ := h
  exact (h7 r hr).1
theorem alarm_lt {W : World} {ba : Nat} {F : Nat → Prop} {S : List Al} {most : Int} (h : AlarmAt W ba F S most) : ∀ b, F b → b < W.heap.size := by obtain ⟨s, c, mb, H, a⟩ := h; exact a.lt
theorem alarm_facts {W : World} {ba : Nat} {F : Nat → Prop} {S : List Al} {most : Int} (h : AlarmAt W ba F S most) : Sorted S ∧ Ids S ∧ Fits S := by obtain ⟨s, c, mb, H, a⟩ := h; exact ⟨a.sorted, a.ids, a.fits⟩
theorem St2.facts {W0 W : World} {ba bb : Nat} {S T : List Al} {most : Int} {Rs : Rws} (h : St2 W0 W ba S bb T most Rs) : (Sorted S ∧ Ids S ∧ Fits S) ∧ (Sorted T ∧ Ids T ∧ Fits T) := by
  obtain ⟨F, G, h1, h2, _⟩ := h
  exact ⟨alarm_facts h1, alarm_facts h2⟩
/-- one more Alarms value. -/
def NewSt2 (W0 : World) (ba : Nat) (S : List Al) (most : Int) (Rs : Rws) (e : Ending) (w' : World) : Prop := ∃ bb, e = .returned (apt bb) ∧ St2 W0 w' ba S bb [] most Rs
theorem st2_new {W0 W : World} {ba : Nat} {S : List Al} {most : Int} {Rs : Rws} (h : St W0 W ba S most Rs) : Calls Try.prog 9 #[.int .i64 most] W (NewSt2 W0 ba S most Rs) := by
  obtain ⟨F, h1, h2, h3, h4⟩ := h
  have hF := alarm_lt h1
  refine (new_al most W).mono fun e w' ⟨bb, G, he, hA, hT, hG⟩ => ⟨bb, he, F, G, h1.touch hT (fun _ _ h => h), hA, fun b hf hg => ?_, h2, fun b hb => Nat.le_trans h3.size (hG b hb), ?_, fun r hr => ⟨owns_touch (h4 r hr).1 hT (fun _ _ h => h), fun b hb => ⟨(h4 r hr).2 b hb, fun hg => ?_⟩⟩⟩
  · have := hF b hf; have := hG b hg; omega
  · exact below_from h3 h3.size (hT.below (B := W.heap.size) (fun j h => h.elim) (Nat.le_refl _))
  · have := ((h4 r hr).1.lt b hb).2; have := hG b hg; omega
theorem st2_turns {W0 W w' : World} {ba bb : Nat} {S' T : List Al} {most : Int} {Rs : Rws} {F G : Nat → Prop} {v : Value} {e : Ending} (hG : AlarmAt W bb G T most) (hd : ∀ b, F b → ¬ G b) (h2 : ∀ b, F b → W0.heap.size ≤ b) (h2' : ∀ b, G b → W0.heap.size ≤ b) (h3 : Below W0.heap.size W0 W)
    (h4 : ∀ r ∈ Rs, W.ownsRow 0 29 1 r.1 r.2.length (u64s r.2) ∧ ∀ b, r.1.ownBlock = some b → ¬ F b ∧ ¬ G b) (ht : Turns W ba F S' most v e w') : e = .returned v ∧ St2 W0 w' ba S' bb T most Rs := by
  obtain ⟨he, F', hA, hT, hF⟩ := ht
  have hGl := alarm_lt hG
  refine ⟨he, F', G, hA, hG.touch hT (fun b hg hf => hd b hf hg), fun b hf hg => (hF b hf).elim (fun h => hd b h hg) (fun h => by have := hGl b hg; omega), fun b hb => (hF b hb).elim (h2 b) (fun h => Nat.le_trans h3.size h), h2', h3.trans (hT.below (B := W0.heap.size) h2 h3.size), fun r hr => ?_⟩
  obtain ⟨k1, k2⟩ := h4 r hr
  exact ⟨owns_touch k1 hT (fun b hb => (k2 b hb).1), fun b hb => ⟨fun h => (hF b h).elim (k2 b hb).1 (fun hge => by have := (k1.lt b hb).2; omega), (k2 b hb).2⟩⟩
theorem st2_put {W0 W : World} {ba bb : Nat} {S S' T : List Al} {most e : Int} {Rs : Rws} (h : St2 W0 W ba S bb T most Rs) (id t : Nat) (hid : id < 18446744073709551616) (ht : t < 18446744073709551616) (hl : S.length < 100000) (hE : putE S most id = e) (hS : putS S most id t = S') :
    Calls Try.prog 10 #[apt ba, .int .u64 id, .int .u64 t] W fun e' w' => e' = .returned (.int .i64 e) ∧ St2 W0 w' ba S' bb T most Rs := by
  subst hE hS
  obtain ⟨F, G, h1, h2, h3, h4, h5, h6, h7⟩ := h
  exact (put_al h1 hid ht hl).mono fun e w' ht => st2_turns h2 h3 h4 h5 h6 h7 ht
theorem st2_drop {W0 W : World} {ba bb : Nat} {S S' T : List Al} {most : Int} {z : Bool} {Rs : Rws} (h : St2 W0 W ba S bb T most Rs) (id : Nat) (hid : id < 18446744073709551616) (hl : S.length < 100000) (hE : hasS S id = z) (hS : dropS S id = S') :
    Calls Try.prog 12 #[apt ba, .int .u64 id] W fun e' w' => e' = .returned (.bool z) ∧ St2 W0 w' ba S' bb T most Rs := by
  subst hE hS
  obtain ⟨F, G, h1, h2, h3, h4, h5, h6, h7⟩ := h
  exact (drop_al h1 hid hl).mono fun e w' ht => st2_turns h2 h3 h4 h5 h6 h7 ht
def DueSt2 (W0 : World) (ba : Nat) (S : List Al) (bb : Nat) (T : List Al) (most : Int) (Rs : Rws) (n : Nat) (L : List Nat) (e : Ending) (w' : World) : Prop :=
  ∃ a c, e = .returned (.slice a n c) ∧ St2 W0 w' ba S bb T most ((.slice a n c, L) :: Rs)
theorem st2_due {W0 W : World} {ba bb : Nat} {S S' T : List Al} {most : Int} {Rs : Rws} (h : St2 W0 W ba S bb T most Rs) (now : Nat) (L : List Nat) (n : Nat) (hn : now < 18446744073709551616) (hl : S.length < 100000) (hL : idsOf (dueL S now) = L) (hn2 : L.length = n) (hS : restL S now = S') :
    Calls Try.prog 15 #[apt ba, .int .u64 now] W (DueSt2 W0 ba S' bb T most Rs n L) := by
  subst hL hS hn2
  obtain ⟨F, G, h1, h2, h3, h4, h5, h6, h7⟩ := h
  have hF := alarm_lt h1
  have hGl := alarm_lt h2
  refine (due_al h1 hn hl hF).mono fun e w' ⟨v, he, hown, hA, hT⟩ => ?_
  obtain ⟨a, c, rfl, hf⟩ := row_form hown
  refine ⟨a, c, he, F, G, hA, h2.touch hT (fun b hg hf => h3 b hf hg), h3, h4, h5, h6.trans (hT.below (B := W0.heap.size) h4 h6.size), fun r hr => ?_⟩
  rcases List.mem_cons.1 hr with rfl | hr
  · refine ⟨⟨hown.1, ?_⟩, fun b hb => ⟨fun hFb => by have := hF b hFb; have := (hown.lt b hb).1; omega, fun hGb => by have := hGl b hGb; have := (hown.lt b hb).1; omega⟩⟩
    rcases hown.2 with h | ⟨g, cap, cur, h, hb, hr⟩
    · exact .inl h
    · exact .inr ⟨g, cap, cur, h, Nat.zero_le _, hr⟩
  · exact ⟨owns_touch (h7 r hr).1 hT (fun b hb => ((h7 r hr).2 b hb).1), (h7 r hr).2⟩
theorem st2_len {W0 W : World} {ba bb : Nat} {S T : List Al} {most : Int} {Rs : Rws} (h : St2 W0 W ba S bb T most Rs) (n : Int) (hn : (S.length : Int) = n) : Calls Try.prog 19 #[apt ba] W fun e w' => e = .returned (.int .i64 n) ∧ W = w' := by
  subst hn
  obtain ⟨F, G, h1, _⟩ := h
  exact len_al h1
/-- the rows, seen beside one of the two. -/
theorem St2.one {W0 W : World} {ba bb : Nat} {S T : List Al} {most : Int} {Rs : Rws} (h : St2 W0 W ba S bb T most Rs) : St W0 W ba S most Rs := by
  obtain ⟨F, G, h1, h2, h3, h4, h5, h6, h7⟩ := h
  exact ⟨F, h1, h4, h6, fun r hr => ⟨(h7 r hr).1, fun b hb => ((h7 r hr).2 b hb).1⟩⟩
theorem St2.turn {W0 W W' : World} {ba bb : Nat} {S T : List Al} {most : Int} {Rs : Rws} {v v' : Value} {A A' : List Nat} (h : St2 W0 W ba S bb T most ((v, A) :: Rs)) (hne : ∀ r ∈ Rs, ∀ b, v.ownBlock = some b → r.1.ownBlock ≠ some b)
    (hT : Touch (fun b => v.ownBlock = some b) W W') (hown : W'.ownsRow 0 29 1 v' A'.length (u64s A')) (hat : ∀ b, v'.ownBlock = some b → v.ownBlock = some b ∨ W.heap.size ≤ b) (hvB : ∀ b, v.ownBlock = some b → W0.heap.size ≤ b) : St2 W0 W' ba S bb T most ((v', A') :: Rs) := by
  obtain ⟨F, G, h1, h2, h3, h4, h5, h6, h7⟩ := h
  have hF := alarm_lt h1
  have hG := alarm_lt h2
  have hv := h7 (v, A) (List.mem_cons_self ..)
  refine ⟨F, G, h1.touch hT (fun b hb h => (hv.2 b h).1 hb), h2.touch hT (fun b hb h => (hv.2 b h).2 hb), h3, h4, h5, h6.trans (hT.below (B := W0.heap.size) hvB h6.size), fun r hr => ?_⟩
  rcases List.mem_cons.1 hr with rfl | hr
  · refine ⟨hown, fun b hb => ?_⟩
    rcases hat b hb with h | h
    · exact hv.2 b h
    · exact ⟨fun hFb => by have := hF b hFb; omega, fun hGb => by have := hG b hGb; omega⟩
  · have hr2 := h7 r (List.mem_cons_of_mem _ hr)
    exact ⟨owns_touch hr2.1 hT (fun b hb h => hne r hr b h hb), hr2.2⟩
theorem St2.append {W0 W w5 : World} {ba bb n c ge cq x : Nat} {s : Option Addr} {S T : List Al} {most : Int} {A : List Nat} {o : Obj} (h : St2 W0 W ba S bb T most [(.slice s n c, A)]) (hn : n = A.length)
    (hvB : ∀ b, (Value.slice s n c).ownBlock = some b → W0.heap.size ≤ b)
    (hown : w5.ownsRow 0 29 1 (.slice (some ⟨ge, 0, none⟩) (n + 1) cq) (n + 1) (u64s A ++ [.int .u64 (x : Int)])) (hgrow : (W.alloc o).grownBy w5 (Value.slice s n c).ownBlock) (hat : (Value.slice s n c).ownBlock = some ge ∨ ge = W.heap.size + 1) :
    St2 W0 w5 ba S bb T most [(.slice (some ⟨ge, 0, none⟩) (n + 1) cq, A ++ [x])] := by
  refine h.turn (fun r hr => by cases hr) (((Touch.refl _ W).alloc o).grown hgrow (fun j hj => .inl hj)) ?_ (fun b hb => ?_) hvB
  · rw [u64s_app, List.length_append, ← hn]; exact hown
  · simp [Value.ownBlock] at hb
    subst hb
    rcases hat with h | h
    · exact .inl h
    · exact .inr (by omega)
theorem St2.store {W0 W : World} {ba bb n c g x i : Nat} {S T : List Al} {most : Int} {A : List Nat} (h : St2 W0 W ba S bb T most [(.slice (some ⟨g, 0, none⟩) n c, A)]) (hn : n = A.length) (hvB : W0.heap.size ≤ g) :
    St2 W0 (W.setCell ⟨g, i, none⟩ (.int .u64 (x : Int))) ba S bb T most [(.slice (some ⟨g, 0, none⟩) n c, A.set i x)] := by
  have hrow : W.ownsRow 0 29 1 (.slice (some ⟨g, 0, none⟩) n c) n (u64s A) := by
    have := h.row (List.mem_cons_self ..)
    rw [← hn] at this; exact this
  have hs := (hrow.stored i (.int .u64 (x : Int))).1
  refine h.turn (fun r hr => by cases hr) ((Touch.refl _ W).set _ (.inl rfl)) ?_ (fun b hb => .inl hb) (fun b hb => ?_)
  · have e : u64s (A.set i x) = (u64s A).set i (.int .u64 (x : Int)) := by unfold u64s; rw [List.map_set]
    rw [e, List.length_set, ← hn]; exact hs
  · simp [Value.ownBlock] at hb; subst hb; exact hvB
theorem St2.fresh {W0 W : World} {ba bb : Nat} {S T : List Al} {most : Int} (h : St2 W0 W ba S bb T most []) :
    St2 W0 (W.alloc (.cells #[] 29)) ba S bb T most [(.slice (some ⟨W.heap.size, 0, none⟩) 0 0, [])] := by
  obtain ⟨F, G, h1, h2, h3, h4, h5, h6, h7⟩ := h
  have hb : Below W.heap.size W (W.alloc (.cells #[] 29)) := (Below.refl _ _).alloc (Nat.le_refl _) _
  have hF := alarm_lt h1
  have hG := alarm_lt h2
  refine ⟨F, G, h1.below hb, h2.below hb, h3, h4, h5, below_from h6 h6.size hb, fun r hr => ?_⟩
  simp at hr
  subst hr
  refine ⟨⟨rfl, .inr ⟨W.heap.size, 0, #[], rfl, Nat.zero_le _, heap_alloc_new W _, Nat.le_refl _, by decide, rfl, rfl⟩⟩, fun b hb => ?_⟩
  simp [Value.ownBlock] at hb
  exact ⟨fun h => by have := hF b h; omega, fun h => by have := hG b h; omega⟩
end Go.Proofs.Ytjdeejbpkdgohaa
