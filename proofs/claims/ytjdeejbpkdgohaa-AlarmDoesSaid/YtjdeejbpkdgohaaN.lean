/- An Alarms value, and the document's alarms beside it. -/
import Derived.Test.YtjdeejbpkdgohaaZ
namespace Go.Proofs.Ytjdeejbpkdgohaa
open Go.RowKit Go.Maps
set_option maxHeartbeats 1000000
set_option maxRecDepth 100000
set_option linter.unusedVariables false

abbrev Kbs := List (Nat × TypeId × Array Value)
/-- an Alarms value at ba with the alarms S, the document's at br with T; blocks that are known whole; rows that were told. -/
structure DX (W0 W : World) (ba : Nat) (S : List Al) (br : Nat) (T : List Al) (most : Int) (Ks : Kbs) (Rs : Rws) (F G : Nat → Prop) : Prop where
  a : AlarmAt W ba F S most
  r : RefAt W br G T most
  sep : ∀ b, F b → ¬ G b
  newF : ∀ b, F b → W0.heap.size ≤ b
  newG : ∀ b, G b → W0.heap.size ≤ b
  bel : Below W0.heap.size W0 W
  ks : ∀ x ∈ Ks, At W x.1 x.2.1 x.2.2 ∧ ¬ F x.1 ∧ ¬ G x.1
  rs : ∀ x ∈ Rs, W.ownsRow 0 29 1 x.1 x.2.length (u64s x.2) ∧ ∀ b, x.1.ownBlock = some b → ¬ F b ∧ ¬ G b
def StD (W0 W : World) (ba : Nat) (S : List Al) (br : Nat) (T : List Al) (most : Int) (Ks : Kbs) (Rs : Rws) : Prop := ∃ F G, DX W0 W ba S br T most Ks Rs F G
variable {W0 W W' : World} {ba br : Nat} {S S' T T' : List Al} {most : Int} {Ks Ls : Kbs} {Rs Qs : Rws}
theorem StD.below (h : StD W0 W ba S br T most Ks Rs) : Below W0.heap.size W0 W := by obtain ⟨F, G, h⟩ := h; exact h.bel
theorem StD.step (h : StD W0 W ba S br T most Ks Rs) (hb : Below W.heap.size W W') : StD W0 W' ba S br T most Ks Rs := by
  obtain ⟨F, G, h⟩ := h
  exact ⟨F, G, h.a.below hb, h.r.below hb, h.sep, h.newF, h.newG, below_from h.bel h.bel.size hb, fun x hx => ⟨(h.ks x hx).1.keep hb, (h.ks x hx).2⟩, fun x hx => ⟨owns_below (h.rs x hx).1 hb, (h.rs x hx).2⟩⟩
theorem StD.drew (h : StD W0 W ba S br T most Ks Rs) : StD W0 W.drew ba S br T most Ks Rs := h.step ((Below.refl _ _).drew)
theorem StD.fewer (h : StD W0 W ba S br T most Ks Rs) (hk : ∀ x ∈ Ls, x ∈ Ks) (hr : ∀ x ∈ Qs, x ∈ Rs) : StD W0 W ba S br T most Ls Qs := by
  obtain ⟨F, G, h⟩ := h
  exact ⟨F, G, h.a, h.r, h.sep, h.newF, h.newG, h.bel, fun x hx => h.ks x (hk x hx), fun x hx => h.rs x (hr x hx)⟩
/-- one block more that is known whole. -/
theorem StD.block (h : StD W0 W ba S br T most Ks Rs) (t : TypeId) (C : Array Value) : StD W0 (W.alloc (.cells C t)) ba S br T most ((W.heap.size, t, C) :: Ks) Rs := by
  have hb : Below W.heap.size W (W.alloc (.cells C t)) := (Below.refl _ _).alloc (Nat.le_refl _) _
  obtain ⟨F, G, h⟩ := h
  refine ⟨F, G, h.a.below hb, h.r.below hb, h.sep, h.newF, h.newG, below_from h.bel h.bel.size hb, fun x hx => ?_, fun x hx => ⟨owns_below (h.rs x hx).1 hb, (h.rs x hx).2⟩⟩
  rcases List.mem_cons.1 hx with rfl | hx
  · exact ⟨At.new W t C, fun hF => by have := alarm_lt h.a _ hF; exact Nat.lt_irrefl _ this, fun hG => by have := h.r.lt _ hG; exact Nat.lt_irrefl _ this⟩
  · exact ⟨(h.ks x hx).1.keep hb, (h.ks x hx).2⟩
theorem StD.hd {t : TypeId} {b : Nat} {C : Array Value} (h : StD W0 W ba S br T most ((b, t, C) :: Ks) Rs) : At W b t C := by obtain ⟨F, G, h⟩ := h; exact (h.ks (b, t, C) (List.mem_cons_self ..)).1
theorem StD.row {x : Value × List Nat} (h : StD W0 W ba S br T most Ks Rs) (hx : x ∈ Rs) : W.ownsRow 0 29 1 x.1 x.2.length (u64s x.2) := by obtain ⟨F, G, h⟩ := h; exact (h.rs x hx).1
theorem StD.facts (h : StD W0 W ba S br T most Ks Rs) : Sorted S ∧ Ids S ∧ Fits S := by obtain ⟨F, G, h⟩ := h; exact alarm_facts h.a
theorem StD.rcell (h : StD W0 W ba S br T most Ks Rs) : ∃ a c, W.cell? ⟨br, 0, none⟩ = some (.slice a T.length c) := by
  obtain ⟨F, G, h⟩ := h
  obtain ⟨a, c, h1, _⟩ := h.r
  exact ⟨a, c, by rw [h1.rd]; rfl⟩
theorem std_a {v : Value} {e : Ending} {F G : Nat → Prop} (h : DX W0 W ba S br T most Ks Rs F G) (ht : Turns W ba F S' most v e W') : e = .returned v ∧ StD W0 W' ba S' br T most Ks Rs := by
  obtain ⟨he, F', hA, hT, hF⟩ := ht
  have hGl := h.r.lt
  refine ⟨he, F', G, hA, h.r.touch hT (fun b hg hf => h.sep b hf hg), fun b hb hg => (hF b hb).elim (fun hf => h.sep b hf hg) (fun hge => by have := hGl b hg; omega), fun b hb => (hF b hb).elim (h.newF b) (fun hge => Nat.le_trans h.bel.size hge), h.newG, h.bel.trans (hT.below (B := W0.heap.size) h.newF h.bel.size), fun x hx => ?_, fun x hx => ?_⟩
  · obtain ⟨k1, k2, k3⟩ := h.ks x hx
    exact ⟨k1.touch hT k2, fun hf => (hF _ hf).elim k2 (fun hge => by have := k1.lt; omega), k3⟩
  · obtain ⟨k1, k2⟩ := h.rs x hx
    exact ⟨owns_touch k1 hT (fun b hb => (k2 b hb).1), fun b hb => ⟨fun hf => (hF b hf).elim (k2 b hb).1 (fun hge => by have := (k1.lt b hb).2; omega), (k2 b hb).2⟩⟩
theorem std_r {v : Value} {e : Ending} {F G : Nat → Prop} (h : DX W0 W ba S br T most Ks Rs F G) (hbr : G br) (ht : RTurns W br G T' most v e W') : e = .returned v ∧ StD W0 W' ba S br T' most Ks Rs := by
  obtain ⟨he, G', hR, hT, hG⟩ := ht
  have hFl := alarm_lt h.a
  refine ⟨he, F, G', h.a.touch hT (fun b hb e => h.sep b hb (e ▸ hbr)), hR, fun b hf hg => (hG b hg).elim (h.sep b hf) (fun hge => by have := hFl b hf; omega), h.newF, fun b hb => (hG b hb).elim (h.newG b) (fun hge => Nat.le_trans h.bel.size hge), h.bel.trans (hT.below (B := W0.heap.size) (fun j e => by rw [e]; exact h.newG _ hbr) h.bel.size), fun x hx => ?_, fun x hx => ?_⟩
  · obtain ⟨k1, k2, k3⟩ := h.ks x hx
    exact ⟨k1.touch hT (fun e => k3 (by rw [e]; exact hbr)), k2, fun hg => (hG _ hg).elim k3 (fun hge => by have := k1.lt; omega)⟩
  · obtain ⟨k1, k2⟩ := h.rs x hx
    exact ⟨owns_touch k1 hT (fun b hb e => (k2 b hb).2 (e ▸ hbr)), fun b hb => ⟨(k2 b hb).1, fun hg => (hG b hg).elim (k2 b hb).2 (fun hge => by have := (k1.lt b hb).2; omega)⟩⟩
theorem RefAt.own {G : Nat → Prop} (h : RefAt W br G S most) : G br := by obtain ⟨a, c, _, _, _, h, _⟩ := h; exact h
theorem std_aput {e : Int} (h : StD W0 W ba S br T most Ks Rs) {id t : Nat} (hid : id < 18446744073709551616) (ht : t < 18446744073709551616) (hl : S.length < 100000) (hE : putE S most id = e) (hS : putS S most id t = S') :
    Calls Try.prog 10 #[apt ba, .int .u64 id, .int .u64 t] W fun e' w' => e' = .returned (.int .i64 e) ∧ StD W0 w' ba S' br T most Ks Rs := by
  subst hE hS
  obtain ⟨F, G, h⟩ := h
  exact (put_al h.a hid ht hl).mono fun e w' ht => std_a h ht
theorem std_rput {e : Int} (h : StD W0 W ba S br T most Ks Rs) {id t : Nat} (hid : id < 18446744073709551616) (ht : t < 18446744073709551616) (hl : T.length < 100000) (hi : Ids T) (hE : putE T most id = e) (hS : putS T most id t = T') :
    Calls Try.prog 11 #[apt br, .int .u64 id, .int .u64 t] W fun e' w' => e' = .returned (.int .i64 e) ∧ StD W0 w' ba S br T' most Ks Rs := by
  subst hE hS
  obtain ⟨F, G, h⟩ := h
  exact (rput_any h.r (by omega) hi hid ht).mono fun e w' ht => std_r h h.r.own ht
theorem std_adrop {z : Bool} (h : StD W0 W ba S br T most Ks Rs) {id : Nat} (hid : id < 18446744073709551616) (hl : S.length < 100000) (hE : hasS S id = z) (hS : dropS S id = S') :
    Calls Try.prog 12 #[apt ba, .int .u64 id] W fun e' w' => e' = .returned (.bool z) ∧ StD W0 w' ba S' br T most Ks Rs := by
  subst hE hS
  obtain ⟨F, G, h⟩ := h
  exact (drop_al h.a hid hl).mono fun e w' ht => std_a h ht
theorem std_rdrop {z : Bool} (h : StD W0 W ba S br T most Ks Rs) {id : Nat} (hl : T.length < 100000) (hi : Ids T) (hE : hasS T id = z) (hS : dropS T id = T') :
    Calls Try.prog 13 #[apt br, .int .u64 id] W fun e' w' => e' = .returned (.bool z) ∧ StD W0 w' ba S br T' most Ks Rs := by
  subst hE hS
  obtain ⟨F, G, h⟩ := h
  exact (rdrop_any h.r (by omega) hi).mono fun e w' ht => std_r h h.r.own ht
/-- Due, and what it told. -/
def DueD (W0 : World) (ba : Nat) (S : List Al) (br : Nat) (T : List Al) (most : Int) (Ks : Kbs) (Rs : Rws) (n : Nat) (L : List Nat) (e : Ending) (w' : World) : Prop :=
  ∃ a c, e = .returned (.slice a n c) ∧ StD W0 w' ba S br T most Ks ((.slice a n c, L) :: Rs)
theorem owns_base {base n : Nat} {v : Value} {xs : List Value} (h : W.ownsRow base 29 1 v n xs) : W.ownsRow 0 29 1 v n xs := by
  refine ⟨h.1, ?_⟩
  rcases h.2 with h | ⟨g, cap, cur, h, hb, hr⟩
  · exact .inl h
  · exact .inr ⟨g, cap, cur, h, Nat.zero_le _, hr⟩
theorem std_adue {now n : Nat} {L : List Nat} (h : StD W0 W ba S br T most Ks Rs) (hn : now < 18446744073709551616) (hl : S.length < 100000) (hL : idsOf (dueL S now) = L) (hn2 : L.length = n) (hS : restL S now = S') :
    Calls Try.prog 15 #[apt ba, .int .u64 now] W (DueD W0 ba S' br T most Ks Rs n L) := by
  subst hL hS hn2
  obtain ⟨F, G, h⟩ := h
  have hFl := alarm_lt h.a
  have hGl := h.r.lt
  refine (due_al h.a hn hl hFl).mono fun e w' ⟨v, he, hown, hA, hT⟩ => ?_
  obtain ⟨a, c, rfl, hf⟩ := row_form hown
  refine ⟨a, c, he, F, G, hA, h.r.touch hT (fun b hg hf => h.sep b hf hg), h.sep, h.newF, h.newG, h.bel.trans (hT.below (B := W0.heap.size) h.newF h.bel.size), fun x hx => ⟨(h.ks x hx).1.touch hT (h.ks x hx).2.1, (h.ks x hx).2⟩, fun x hx => ?_⟩
  rcases List.mem_cons.1 hx with rfl | hx
  · exact ⟨owns_base hown, fun b hb => ⟨fun hF => by have := hFl b hF; have := (hown.lt b hb).1; omega, fun hG => by have := hGl b hG; have := (hown.lt b hb).1; omega⟩⟩
  · exact ⟨owns_touch (h.rs x hx).1 hT (fun b hb => ((h.rs x hx).2 b hb).1), (h.rs x hx).2⟩
theorem std_rdue {now n : Nat} {L : List Nat} (h : StD W0 W ba S br T most Ks Rs) (hl : T.length < 100000) (hL : idsOf (dueL T now) = L) (hn2 : L.length = n) (hS : restL T now = T') :
    Calls Try.prog 16 #[apt br, .int .u64 now] W (DueD W0 ba S br T' most Ks Rs n L) := by
  subst hL hS hn2
  obtain ⟨F, G, h⟩ := h
  have hFl := alarm_lt h.a
  have hGl := h.r.lt
  have hbr := h.r.own
  refine (rdue_any h.r (by omega)).mono fun e w' ⟨v, he, hown, hR, hT⟩ => ?_
  obtain ⟨a, c, rfl, hf⟩ := row_form hown
  refine ⟨a, c, he, F, G, h.a.touch hT (fun b hb e => h.sep b hb (e ▸ hbr)), hR, h.sep, h.newF, h.newG, h.bel.trans (hT.below (B := W0.heap.size) (fun j e => by rw [e]; exact h.newG _ hbr) h.bel.size), fun x hx => ⟨(h.ks x hx).1.touch hT (fun e => (h.ks x hx).2.2 (by rw [e]; exact hbr)), (h.ks x hx).2⟩, fun x hx => ?_⟩
  rcases List.mem_cons.1 hx with rfl | hx
  · exact ⟨owns_base hown, fun b hb => ⟨fun hF => by have := hFl b hF; have := (hown.lt b hb).1; omega, fun hG => by have := hGl b hG; have := (hown.lt b hb).1; omega⟩⟩
  · exact ⟨owns_touch (h.rs x hx).1 hT (fun b hb e => ((h.rs x hx).2 b hb).2 (e ▸ hbr)), (h.rs x hx).2⟩
theorem std_afirst {t : Int} {z : Bool} (h : StD W0 W ba S br T most Ks Rs) (hl : S.length ≤ 100000) (h1 : (firstT S : Int) = t) (h2 : someS S = z) : Calls Try.prog 17 #[apt ba] W fun e w' => e = .returned (.tuple #[.int .u64 t, .bool z]) ∧ W = w' := by
  subst h1 h2
  obtain ⟨F, G, h⟩ := h
  exact first_al h.a hl
theorem std_rfirst {t : Int} {z : Bool} (h : StD W0 W ba S br T most Ks Rs) (h1 : (firstT T : Int) = t) (h2 : someS T = z) : Calls Try.prog 18 #[apt br] W fun e w' => e = .returned (.tuple #[.int .u64 t, .bool z]) ∧ W = w' := by
  subst h1 h2
  obtain ⟨F, G, h⟩ := h
  exact rfirst_any h.r
theorem std_len {n : Int} (h : StD W0 W ba S br T most Ks Rs) (hn : (S.length : Int) = n) : Calls Try.prog 19 #[apt ba] W fun e w' => e = .returned (.int .i64 n) ∧ W = w' := by
  subst hn
  obtain ⟨F, G, h⟩ := h
  exact len_al h.a
/-- both, new. -/
theorem std_new {F : Nat → Prop} (hA : AlarmAt W ba F [] most) (hF : ∀ b, F b → W0.heap.size ≤ b) (hB : Below W0.heap.size W0 W) :
    StD W0 (W.alloc (.cells #[.slice none 0 0, .int .i64 most] 28)) ba [] W.heap.size [] most [] [] := by
  have hb : Below W.heap.size W (W.alloc (.cells #[.slice none 0 0, .int .i64 most] 28)) := (Below.refl _ _).alloc (Nat.le_refl _) _
  have hFl := alarm_lt hA
  refine ⟨F, fun b => b = W.heap.size, hA.below hb, ⟨none, 0, At.new W 28 _, fun k hk => absurd hk (by simp), Nat.le_refl _, rfl, fun x hx => (by cases hx), fun b hb => (by rw [hb]; simp)⟩, fun b hf e => (by have := hFl b hf; omega), hF, fun b e => (by rw [e]; exact hB.size), below_from hB hB.size hb, fun x hx => (by cases hx), fun x hx => (by cases hx)⟩
end Go.Proofs.Ytjdeejbpkdgohaa
