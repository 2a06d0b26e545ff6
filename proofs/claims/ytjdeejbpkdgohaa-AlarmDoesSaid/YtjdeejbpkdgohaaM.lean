/- Blocks that are known whole: what is so of them behind a call, a new block, a store. -/
import Derived.Test.YtjdeejbpkdgohaaH
import Derived.Deep.AppendLies
import Derived.Laws.OwnMore
import Derived.LoopTactic
import Derived.OwnWalk
import Derived.BigQuiet
namespace Go.Proofs.Ytjdeejbpkdgohaa
open Go.RowKit

/-- block b is a row of these cells, free to be written. -/
def At (W : World) (b : Nat) (t : TypeId) (C : Array Value) : Prop := W.heap[b]? = some (.cells C t (0, 0))
theorem At.rd {W : World} {b : Nat} {t : TypeId} {C : Array Value} (h : At W b t C) : ∀ o, W.cell? ⟨b, o, none⟩ = C[o]? := fun o => cell_of_row W b o C t (0, 0) h
theorem At.fr {W : World} {b : Nat} {t : TypeId} {C : Array Value} (h : At W b t C) : ∀ o, W.frozen? ⟨b, o, none⟩ = false := by
  intro o
  unfold At at h
  simp [World.frozen?, h]
theorem At.lt {W : World} {b : Nat} {t : TypeId} {C : Array Value} (h : At W b t C) : b < W.heap.size := by
  rcases Nat.lt_or_ge b W.heap.size with hlt | hge
  · exact hlt
  · unfold At at h; rw [Array.getElem?_eq_none hge] at h; cases h
theorem At.keep {W W' : World} {b : Nat} {t : TypeId} {C : Array Value} (h : At W b t C) (hb : Below W.heap.size W W') : At W' b t C := (hb.block b h.lt).trans h
theorem At.grown {W W' : World} {b : Nat} {t : TypeId} {C : Array Value} {row : Option Nat} (h : At W b t C) (hg : W.grownBy W' row) (hn : some b ≠ row) : At W' b t C := (hg.block b h.lt hn).trans h
theorem At.alloc {W : World} {b : Nat} {t : TypeId} {C : Array Value} (h : At W b t C) (o : Obj) : At (W.alloc o) b t C := h.keep ((Below.refl _ _).alloc (Nat.le_refl _) o)
theorem At.new (W : World) (t : TypeId) (C : Array Value) : At (W.alloc (.cells C t)) W.heap.size t C := heap_alloc_new W _
theorem At.other {W : World} {b b2 o : Nat} {t : TypeId} {C : Array Value} {v : Value} (h : At W b t C) (hn : b ≠ b2) : At (W.setCell ⟨b2, o, none⟩ v) b t C := (Below.heap_setCell W ⟨b2, o, none⟩ v b hn).trans h
theorem At.set {W : World} {b o : Nat} {t : TypeId} {C : Array Value} {v : Value} (h : At W b t C) : At (W.setCell ⟨b, o, none⟩ v) b t (C.setIfInBounds o v) := by
  unfold At at h ⊢
  simp only [World.setCell, Array.getElem?_modify, if_pos, h, Option.map_some]
  rfl
theorem below_grown {w w' : World} (hb : Below w.heap.size w w') : w.grownBy w' none := ⟨hb.os, hb.tape, hb.output, hb.size, fun k hk _ => hb.block k hk⟩
theorem gset (w : World) (b o : Nat) (v : Value) : w.grownBy (w.setCell ⟨b, o, none⟩ v) (some b) := ⟨rfl, rfl, rfl, by simp [World.setCell], fun k hk hne => Below.heap_setCell w ⟨b, o, none⟩ v k (by rintro rfl; exact hne rfl)⟩
theorem keepFA {w : World} (x : Obj) {b o : Nat} {v : Value} {z : Bool} (f : w.cell? ⟨b, o, none⟩ = some v) (g : w.frozen? ⟨b, o, none⟩ = z) : (w.alloc x).frozen? ⟨b, o, none⟩ = z := keepF ((Below.refl _ _).alloc (Nat.le_refl _) x) f g
theorem news1 {W : World} {o : Obj} {B : Nat} (hB : W.heap.size = B) : (W.alloc o).heap[B]? = some o := by subst hB; exact heap_alloc_new W o
theorem row_keep {w w' : World} {base : Nat} {e : TypeId} {size : Nat} {v : Value} {n : Nat} {xs : List Value} (h : w.ownsRow base e size v n xs) (hb : Below w.heap.size w w') : w'.ownsRow base e size v n xs :=
  h.kept (below_grown hb) (by cases v.ownBlock <;> simp)
/-- what a value that owns a row looks like. -/
theorem row_form {w : World} {base : Nat} {e : TypeId} {size : Nat} {v : Value} {n : Nat} {xs : List Value} (h : w.ownsRow base e size v n xs) :
    ∃ a cap, v = .slice a n cap ∧ (0 < n → ∃ g, a = some ⟨g, 0, none⟩ ∧ base ≤ g ∧ g < w.heap.size) := by
  rcases h.2 with ⟨rfl, h0⟩ | ⟨g, cap, cur, hv, hb, hg, _⟩
  · exact ⟨none, 0, by rw [h0], fun h => by omega⟩
  · refine ⟨_, _, hv, fun _ => ⟨g, rfl, hb, ?_⟩⟩
    rcases Nat.lt_or_ge g w.heap.size with hlt | hge
    · exact hlt
    · rw [Array.getElem?_eq_none hge] at hg; cases hg
theorem bdrewN {B : Nat} {a w : World} (h : Below B a w) (n : Nat) : Below B a (w.drewN n) := ⟨h.os, h.tape, h.output, h.size, h.block⟩
/-- a few blocks that are known whole, and that all below B stands: what a region's operations keep. -/
structure Mem (B : Nat) (a W : World) (L : List (Nat × TypeId × Array Value)) : Prop where
  all : ∀ x ∈ L, At W x.1 x.2.1 x.2.2
  below : Below B a W
  size : B ≤ W.heap.size
theorem Mem.keep {B : Nat} {a W W' : World} {L : List (Nat × TypeId × Array Value)} (m : Mem B a W L) (hb : Below W.heap.size W W') : Mem B a W' L :=
  ⟨fun x hx => (m.all x hx).keep hb, m.below.trans (hb.mono m.size), Nat.le_trans m.size hb.size⟩
theorem Mem.drew {B : Nat} {a W : World} {L : List (Nat × TypeId × Array Value)} (m : Mem B a W L) : Mem B a W.drew L := m.keep ((Below.refl _ _).drew)
theorem Mem.alloc {B : Nat} {a W : World} {L : List (Nat × TypeId × Array Value)} (m : Mem B a W L) (o : Obj) : Mem B a (W.alloc o) L := m.keep ((Below.refl _ _).alloc (Nat.le_refl _) o)
theorem Mem.nil {a W : World} (h : Below a.heap.size a W) : Mem a.heap.size a W [] := ⟨fun x hx => (List.not_mem_nil hx).elim, h, h.size⟩
theorem Mem.cons {B : Nat} {a W : World} {L : List (Nat × TypeId × Array Value)} {b : Nat} {t : TypeId} {C : Array Value} (h : At W b t C) (m : Mem B a W L) : Mem B a W ((b, t, C) :: L) :=
  ⟨fun x hx => (List.mem_cons.1 hx).elim (fun e => e ▸ h) (m.all x), m.below, m.size⟩
theorem Mem.hd {B : Nat} {a W : World} {L : List (Nat × TypeId × Array Value)} {b : Nat} {t : TypeId} {C : Array Value} (m : Mem B a W ((b, t, C) :: L)) : At W b t C := m.all (b, t, C) (List.mem_cons_self ..)
theorem Mem.tl {B : Nat} {a W : World} {L : List (Nat × TypeId × Array Value)} {x : Nat × TypeId × Array Value} (m : Mem B a W (x :: L)) : Mem B a W L := ⟨fun y hy => m.all y (List.mem_cons_of_mem _ hy), m.below, m.size⟩
theorem Mem.far {B : Nat} {a W : World} {L : List (Nat × TypeId × Array Value)} {b o : Nat} {v : Value} (m : Mem B a W L) (hb : B ≤ b) (hn : ∀ x ∈ L, x.1 ≠ b) : Mem B a (W.setCell ⟨b, o, none⟩ v) L :=
  ⟨fun x hx => (m.all x hx).other (hn x hx), Below.setCell m.below hb v, by simpa [World.setCell] using m.size⟩
end Go.Proofs.Ytjdeejbpkdgohaa
