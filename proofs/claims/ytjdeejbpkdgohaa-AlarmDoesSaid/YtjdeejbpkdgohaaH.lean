/- Small lemmas on worlds, for all texts of this seat. -/
import Derived.WalkKit
import Derived.ProofKit
import Derived.OpenShut
import Derived.Below
import Derived.Lib.Hide
import Derived.Outline
import Derived.Handy
import Derived.Deep.RegionHeld3
import Derived.Deep.RegionLaw
namespace Go.Proofs.Ytjdeejbpkdgohaa
open Go.RowKit

theorem ret_int {k : IntKind} {a b : Int} (h : a = b) : Ending.returned (.int k a) = Ending.returned (.int k b) := by rw [h]
theorem ret_u64 {a b : Nat} (h : a = b) : Ending.returned (.int .u64 (a : Int)) = Ending.returned (.int .u64 (b : Int)) := by rw [h]
theorem ret_bool {a b : Bool} (h : a = b) : Ending.returned (.bool a) = Ending.returned (.bool b) := by rw [h]

theorem bcell {W w1 : World} (hb : Below W.heap.size W w1) : (∀ b o, b < W.heap.size → w1.cell? ⟨b, o, none⟩ = W.cell? ⟨b, o, none⟩) ∧ (∀ b o, b < W.heap.size → w1.frozen? ⟨b, o, none⟩ = W.frozen? ⟨b, o, none⟩) :=
  ⟨fun b o h => hb.cell (p := ⟨b, o, none⟩) h, fun b o h => hb.frozen (p := ⟨b, o, none⟩) h⟩

/-- what a cell holds it still holds where all that there was stands. -/
theorem keep {w w' : World} (hb : Below w.heap.size w w') {b o : Nat} {v : Value} (f : w.cell? ⟨b, o, none⟩ = some v) : w'.cell? ⟨b, o, none⟩ = some v :=
  (hb.cell (p := ⟨b, o, none⟩) (World.block_lt_of_cell? w _ f)).trans f
theorem keepF {w w' : World} (hb : Below w.heap.size w w') {b o : Nat} {v : Value} {z : Bool} (f : w.cell? ⟨b, o, none⟩ = some v) (g : w.frozen? ⟨b, o, none⟩ = z) : w'.frozen? ⟨b, o, none⟩ = z :=
  (hb.frozen (p := ⟨b, o, none⟩) (World.block_lt_of_cell? w _ f)).trans g
theorem keepA {w : World} (x : Obj) {b o : Nat} {v : Value} (f : w.cell? ⟨b, o, none⟩ = some v) : (w.alloc x).cell? ⟨b, o, none⟩ = some v :=
  keep ((Below.refl _ _).alloc (Nat.le_refl _) x) f
theorem keepS {w : World} {b o b2 o2 : Nat} {v u : Value} (f : w.cell? ⟨b, o, none⟩ = some v) (h : b ≠ b2) : (w.setCell ⟨b2, o2, none⟩ u).cell? ⟨b, o, none⟩ = some v :=
  (World.cell?_of_block (w := w) (Below.heap_setCell w ⟨b2, o2, none⟩ u b (by simpa using h))).trans f
theorem lt_of {w : World} {b o : Nat} {v : Value} (f : w.cell? ⟨b, o, none⟩ = some v) : b < w.heap.size := World.block_lt_of_cell? w _ f

theorem below_of {w w' : World} {o : Obj} (hb : Below (w.alloc o).heap.size (w.alloc o) w') : Below w.heap.size w w' :=
  ((Below.refl _ _).alloc (Nat.le_refl _) o).trans (hb.mono (by simp))
theorem below_of2 {w w' : World} {o o2 : Obj} (hb : Below ((w.alloc o).alloc o2).heap.size ((w.alloc o).alloc o2) w') : Below w.heap.size w w' :=
  below_of ((below_of hb).mono (Nat.le_refl _))
theorem below_from {B : Nat} {a X w' : World} (h : Below B a X) (hz : B ≤ X.heap.size) (hb : Below X.heap.size X w') : Below B a w' := h.trans (hb.mono hz)
/-- a call's world, and what was known of the world ahead of it. -/
theorem hstep2 {B : Nat} {a X w' : World} {p q : Prop} (h : p ∧ q ∧ Below B a X ∧ B < X.heap.size) (hb : Below X.heap.size X w') : Below B a w' ∧ B < w'.heap.size :=
  ⟨h.2.2.1.trans (hb.mono (Nat.le_of_lt h.2.2.2)), Nat.lt_of_lt_of_le h.2.2.2 hb.size⟩

/-! What is known of a world while a region's operations come up in some order: n cells, and that all that stood below B stands. It holds behind a call (hold), a draw (holdD), a new block (holdA), a store into a block from B on (holdS). -/
theorem hold1 {a X w' : World} {b0 o0 B : Nat} {v0 : Value} (h : X.cell? ⟨b0, o0, none⟩ = some v0 ∧ Below B a X ∧ B ≤ X.heap.size) (hb : Below X.heap.size X w') : w'.cell? ⟨b0, o0, none⟩ = some v0 ∧ Below B a w' ∧ B ≤ w'.heap.size :=
  ⟨keep hb h.1, below_from h.2.1 h.2.2 hb, Nat.le_trans h.2.2 hb.size⟩
theorem hold1D {a X : World} {b0 o0 B : Nat} {v0 : Value} (h : X.cell? ⟨b0, o0, none⟩ = some v0 ∧ Below B a X ∧ B ≤ X.heap.size) : X.drew.cell? ⟨b0, o0, none⟩ = some v0 ∧ Below B a X.drew ∧ B ≤ X.drew.heap.size := hold1 h ((Below.refl _ _).drew)
theorem hold1A {a X : World} {b0 o0 B : Nat} {v0 : Value} (h : X.cell? ⟨b0, o0, none⟩ = some v0 ∧ Below B a X ∧ B ≤ X.heap.size) (o : Obj) : (X.alloc o).cell? ⟨b0, o0, none⟩ = some v0 ∧ Below B a (X.alloc o) ∧ B ≤ (X.alloc o).heap.size := hold1 h ((Below.refl _ _).alloc (Nat.le_refl _) o)
theorem hold1S {a X : World} {b0 o0 B : Nat} {v0 : Value} (h : X.cell? ⟨b0, o0, none⟩ = some v0 ∧ Below B a X ∧ B ≤ X.heap.size) {nb k : Nat} {u : Value} (hB : B ≤ nb) (n0 : b0 ≠ nb) : (X.setCell ⟨nb, k, none⟩ u).cell? ⟨b0, o0, none⟩ = some v0 ∧ Below B a (X.setCell ⟨nb, k, none⟩ u) ∧ B ≤ (X.setCell ⟨nb, k, none⟩ u).heap.size :=
  ⟨keepS h.1 n0, Below.setCell h.2.1 hB u, by simpa [World.setCell] using h.2.2⟩
theorem hold2 {a X w' : World} {b0 o0 b1 o1 B : Nat} {v0 v1 : Value} (h : X.cell? ⟨b0, o0, none⟩ = some v0 ∧ X.cell? ⟨b1, o1, none⟩ = some v1 ∧ Below B a X ∧ B ≤ X.heap.size) (hb : Below X.heap.size X w') : w'.cell? ⟨b0, o0, none⟩ = some v0 ∧ w'.cell? ⟨b1, o1, none⟩ = some v1 ∧ Below B a w' ∧ B ≤ w'.heap.size :=
  ⟨keep hb h.1, keep hb h.2.1, below_from h.2.2.1 h.2.2.2 hb, Nat.le_trans h.2.2.2 hb.size⟩
theorem hold2D {a X : World} {b0 o0 b1 o1 B : Nat} {v0 v1 : Value} (h : X.cell? ⟨b0, o0, none⟩ = some v0 ∧ X.cell? ⟨b1, o1, none⟩ = some v1 ∧ Below B a X ∧ B ≤ X.heap.size) : X.drew.cell? ⟨b0, o0, none⟩ = some v0 ∧ X.drew.cell? ⟨b1, o1, none⟩ = some v1 ∧ Below B a X.drew ∧ B ≤ X.drew.heap.size := hold2 h ((Below.refl _ _).drew)
theorem hold2A {a X : World} {b0 o0 b1 o1 B : Nat} {v0 v1 : Value} (h : X.cell? ⟨b0, o0, none⟩ = some v0 ∧ X.cell? ⟨b1, o1, none⟩ = some v1 ∧ Below B a X ∧ B ≤ X.heap.size) (o : Obj) : (X.alloc o).cell? ⟨b0, o0, none⟩ = some v0 ∧ (X.alloc o).cell? ⟨b1, o1, none⟩ = some v1 ∧ Below B a (X.alloc o) ∧ B ≤ (X.alloc o).heap.size := hold2 h ((Below.refl _ _).alloc (Nat.le_refl _) o)
theorem hold2S {a X : World} {b0 o0 b1 o1 B : Nat} {v0 v1 : Value} (h : X.cell? ⟨b0, o0, none⟩ = some v0 ∧ X.cell? ⟨b1, o1, none⟩ = some v1 ∧ Below B a X ∧ B ≤ X.heap.size) {nb k : Nat} {u : Value} (hB : B ≤ nb) (n0 : b0 ≠ nb) (n1 : b1 ≠ nb) : (X.setCell ⟨nb, k, none⟩ u).cell? ⟨b0, o0, none⟩ = some v0 ∧ (X.setCell ⟨nb, k, none⟩ u).cell? ⟨b1, o1, none⟩ = some v1 ∧ Below B a (X.setCell ⟨nb, k, none⟩ u) ∧ B ≤ (X.setCell ⟨nb, k, none⟩ u).heap.size :=
  ⟨keepS h.1 n0, keepS h.2.1 n1, Below.setCell h.2.2.1 hB u, by simpa [World.setCell] using h.2.2.2⟩
theorem hold3 {a X w' : World} {b0 o0 b1 o1 b2 o2 B : Nat} {v0 v1 v2 : Value} (h : X.cell? ⟨b0, o0, none⟩ = some v0 ∧ X.cell? ⟨b1, o1, none⟩ = some v1 ∧ X.cell? ⟨b2, o2, none⟩ = some v2 ∧ Below B a X ∧ B ≤ X.heap.size) (hb : Below X.heap.size X w') : w'.cell? ⟨b0, o0, none⟩ = some v0 ∧ w'.cell? ⟨b1, o1, none⟩ = some v1 ∧ w'.cell? ⟨b2, o2, none⟩ = some v2 ∧ Below B a w' ∧ B ≤ w'.heap.size :=
  ⟨keep hb h.1, keep hb h.2.1, keep hb h.2.2.1, below_from h.2.2.2.1 h.2.2.2.2 hb, Nat.le_trans h.2.2.2.2 hb.size⟩
theorem hold3D {a X : World} {b0 o0 b1 o1 b2 o2 B : Nat} {v0 v1 v2 : Value} (h : X.cell? ⟨b0, o0, none⟩ = some v0 ∧ X.cell? ⟨b1, o1, none⟩ = some v1 ∧ X.cell? ⟨b2, o2, none⟩ = some v2 ∧ Below B a X ∧ B ≤ X.heap.size) : X.drew.cell? ⟨b0, o0, none⟩ = some v0 ∧ X.drew.cell? ⟨b1, o1, none⟩ = some v1 ∧ X.drew.cell? ⟨b2, o2, none⟩ = some v2 ∧ Below B a X.drew ∧ B ≤ X.drew.heap.size := hold3 h ((Below.refl _ _).drew)
theorem hold3A {a X : World} {b0 o0 b1 o1 b2 o2 B : Nat} {v0 v1 v2 : Value} (h : X.cell? ⟨b0, o0, none⟩ = some v0 ∧ X.cell? ⟨b1, o1, none⟩ = some v1 ∧ X.cell? ⟨b2, o2, none⟩ = some v2 ∧ Below B a X ∧ B ≤ X.heap.size) (o : Obj) : (X.alloc o).cell? ⟨b0, o0, none⟩ = some v0 ∧ (X.alloc o).cell? ⟨b1, o1, none⟩ = some v1 ∧ (X.alloc o).cell? ⟨b2, o2, none⟩ = some v2 ∧ Below B a (X.alloc o) ∧ B ≤ (X.alloc o).heap.size := hold3 h ((Below.refl _ _).alloc (Nat.le_refl _) o)
theorem hold3S {a X : World} {b0 o0 b1 o1 b2 o2 B : Nat} {v0 v1 v2 : Value} (h : X.cell? ⟨b0, o0, none⟩ = some v0 ∧ X.cell? ⟨b1, o1, none⟩ = some v1 ∧ X.cell? ⟨b2, o2, none⟩ = some v2 ∧ Below B a X ∧ B ≤ X.heap.size) {nb k : Nat} {u : Value} (hB : B ≤ nb) (n0 : b0 ≠ nb) (n1 : b1 ≠ nb) (n2 : b2 ≠ nb) : (X.setCell ⟨nb, k, none⟩ u).cell? ⟨b0, o0, none⟩ = some v0 ∧ (X.setCell ⟨nb, k, none⟩ u).cell? ⟨b1, o1, none⟩ = some v1 ∧ (X.setCell ⟨nb, k, none⟩ u).cell? ⟨b2, o2, none⟩ = some v2 ∧ Below B a (X.setCell ⟨nb, k, none⟩ u) ∧ B ≤ (X.setCell ⟨nb, k, none⟩ u).heap.size :=
  ⟨keepS h.1 n0, keepS h.2.1 n1, keepS h.2.2.1 n2, Below.setCell h.2.2.2.1 hB u, by simpa [World.setCell] using h.2.2.2.2⟩
theorem hold4 {a X w' : World} {b0 o0 b1 o1 b2 o2 b3 o3 B : Nat} {v0 v1 v2 v3 : Value} (h : X.cell? ⟨b0, o0, none⟩ = some v0 ∧ X.cell? ⟨b1, o1, none⟩ = some v1 ∧ X.cell? ⟨b2, o2, none⟩ = some v2 ∧ X.cell? ⟨b3, o3, none⟩ = some v3 ∧ Below B a X ∧ B ≤ X.heap.size) (hb : Below X.heap.size X w') : w'.cell? ⟨b0, o0, none⟩ = some v0 ∧ w'.cell? ⟨b1, o1, none⟩ = some v1 ∧ w'.cell? ⟨b2, o2, none⟩ = some v2 ∧ w'.cell? ⟨b3, o3, none⟩ = some v3 ∧ Below B a w' ∧ B ≤ w'.heap.size :=
  ⟨keep hb h.1, keep hb h.2.1, keep hb h.2.2.1, keep hb h.2.2.2.1, below_from h.2.2.2.2.1 h.2.2.2.2.2 hb, Nat.le_trans h.2.2.2.2.2 hb.size⟩
theorem hold4D {a X : World} {b0 o0 b1 o1 b2 o2 b3 o3 B : Nat} {v0 v1 v2 v3 : Value} (h : X.cell? ⟨b0, o0, none⟩ = some v0 ∧ X.cell? ⟨b1, o1, none⟩ = some v1 ∧ X.cell? ⟨b2, o2, none⟩ = some v2 ∧ X.cell? ⟨b3, o3, none⟩ = some v3 ∧ Below B a X ∧ B ≤ X.heap.size) : X.drew.cell? ⟨b0, o0, none⟩ = some v0 ∧ X.drew.cell? ⟨b1, o1, none⟩ = some v1 ∧ X.drew.cell? ⟨b2, o2, none⟩ = some v2 ∧ X.drew.cell? ⟨b3, o3, none⟩ = some v3 ∧ Below B a X.drew ∧ B ≤ X.drew.heap.size := hold4 h ((Below.refl _ _).drew)
theorem hold4A {a X : World} {b0 o0 b1 o1 b2 o2 b3 o3 B : Nat} {v0 v1 v2 v3 : Value} (h : X.cell? ⟨b0, o0, none⟩ = some v0 ∧ X.cell? ⟨b1, o1, none⟩ = some v1 ∧ X.cell? ⟨b2, o2, none⟩ = some v2 ∧ X.cell? ⟨b3, o3, none⟩ = some v3 ∧ Below B a X ∧ B ≤ X.heap.size) (o : Obj) : (X.alloc o).cell? ⟨b0, o0, none⟩ = some v0 ∧ (X.alloc o).cell? ⟨b1, o1, none⟩ = some v1 ∧ (X.alloc o).cell? ⟨b2, o2, none⟩ = some v2 ∧ (X.alloc o).cell? ⟨b3, o3, none⟩ = some v3 ∧ Below B a (X.alloc o) ∧ B ≤ (X.alloc o).heap.size := hold4 h ((Below.refl _ _).alloc (Nat.le_refl _) o)
theorem hold4S {a X : World} {b0 o0 b1 o1 b2 o2 b3 o3 B : Nat} {v0 v1 v2 v3 : Value} (h : X.cell? ⟨b0, o0, none⟩ = some v0 ∧ X.cell? ⟨b1, o1, none⟩ = some v1 ∧ X.cell? ⟨b2, o2, none⟩ = some v2 ∧ X.cell? ⟨b3, o3, none⟩ = some v3 ∧ Below B a X ∧ B ≤ X.heap.size) {nb k : Nat} {u : Value} (hB : B ≤ nb) (n0 : b0 ≠ nb) (n1 : b1 ≠ nb) (n2 : b2 ≠ nb) (n3 : b3 ≠ nb) : (X.setCell ⟨nb, k, none⟩ u).cell? ⟨b0, o0, none⟩ = some v0 ∧ (X.setCell ⟨nb, k, none⟩ u).cell? ⟨b1, o1, none⟩ = some v1 ∧ (X.setCell ⟨nb, k, none⟩ u).cell? ⟨b2, o2, none⟩ = some v2 ∧ (X.setCell ⟨nb, k, none⟩ u).cell? ⟨b3, o3, none⟩ = some v3 ∧ Below B a (X.setCell ⟨nb, k, none⟩ u) ∧ B ≤ (X.setCell ⟨nb, k, none⟩ u).heap.size :=
  ⟨keepS h.1 n0, keepS h.2.1 n1, keepS h.2.2.1 n2, keepS h.2.2.2.1 n3, Below.setCell h.2.2.2.2.1 hB u, by simpa [World.setCell] using h.2.2.2.2.2⟩
theorem hold5 {a X w' : World} {b0 o0 b1 o1 b2 o2 b3 o3 b4 o4 B : Nat} {v0 v1 v2 v3 v4 : Value} (h : X.cell? ⟨b0, o0, none⟩ = some v0 ∧ X.cell? ⟨b1, o1, none⟩ = some v1 ∧ X.cell? ⟨b2, o2, none⟩ = some v2 ∧ X.cell? ⟨b3, o3, none⟩ = some v3 ∧ X.cell? ⟨b4, o4, none⟩ = some v4 ∧ Below B a X ∧ B ≤ X.heap.size) (hb : Below X.heap.size X w') : w'.cell? ⟨b0, o0, none⟩ = some v0 ∧ w'.cell? ⟨b1, o1, none⟩ = some v1 ∧ w'.cell? ⟨b2, o2, none⟩ = some v2 ∧ w'.cell? ⟨b3, o3, none⟩ = some v3 ∧ w'.cell? ⟨b4, o4, none⟩ = some v4 ∧ Below B a w' ∧ B ≤ w'.heap.size :=
  ⟨keep hb h.1, keep hb h.2.1, keep hb h.2.2.1, keep hb h.2.2.2.1, keep hb h.2.2.2.2.1, below_from h.2.2.2.2.2.1 h.2.2.2.2.2.2 hb, Nat.le_trans h.2.2.2.2.2.2 hb.size⟩
theorem hold5D {a X : World} {b0 o0 b1 o1 b2 o2 b3 o3 b4 o4 B : Nat} {v0 v1 v2 v3 v4 : Value} (h : X.cell? ⟨b0, o0, none⟩ = some v0 ∧ X.cell? ⟨b1, o1, none⟩ = some v1 ∧ X.cell? ⟨b2, o2, none⟩ = some v2 ∧ X.cell? ⟨b3, o3, none⟩ = some v3 ∧ X.cell? ⟨b4, o4, none⟩ = some v4 ∧ Below B a X ∧ B ≤ X.heap.size) : X.drew.cell? ⟨b0, o0, none⟩ = some v0 ∧ X.drew.cell? ⟨b1, o1, none⟩ = some v1 ∧ X.drew.cell? ⟨b2, o2, none⟩ = some v2 ∧ X.drew.cell? ⟨b3, o3, none⟩ = some v3 ∧ X.drew.cell? ⟨b4, o4, none⟩ = some v4 ∧ Below B a X.drew ∧ B ≤ X.drew.heap.size := hold5 h ((Below.refl _ _).drew)
theorem hold5A {a X : World} {b0 o0 b1 o1 b2 o2 b3 o3 b4 o4 B : Nat} {v0 v1 v2 v3 v4 : Value} (h : X.cell? ⟨b0, o0, none⟩ = some v0 ∧ X.cell? ⟨b1, o1, none⟩ = some v1 ∧ X.cell? ⟨b2, o2, none⟩ = some v2 ∧ X.cell? ⟨b3, o3, none⟩ = some v3 ∧ X.cell? ⟨b4, o4, none⟩ = some v4 ∧ Below B a X ∧ B ≤ X.heap.size) (o : Obj) : (X.alloc o).cell? ⟨b0, o0, none⟩ = some v0 ∧ (X.alloc o).cell? ⟨b1, o1, none⟩ = some v1 ∧ (X.alloc o).cell? ⟨b2, o2, none⟩ = some v2 ∧ (X.alloc o).cell? ⟨b3, o3, none⟩ = some v3 ∧ (X.alloc o).cell? ⟨b4, o4, none⟩ = some v4 ∧ Below B a (X.alloc o) ∧ B ≤ (X.alloc o).heap.size := hold5 h ((Below.refl _ _).alloc (Nat.le_refl _) o)
theorem hold5S {a X : World} {b0 o0 b1 o1 b2 o2 b3 o3 b4 o4 B : Nat} {v0 v1 v2 v3 v4 : Value} (h : X.cell? ⟨b0, o0, none⟩ = some v0 ∧ X.cell? ⟨b1, o1, none⟩ = some v1 ∧ X.cell? ⟨b2, o2, none⟩ = some v2 ∧ X.cell? ⟨b3, o3, none⟩ = some v3 ∧ X.cell? ⟨b4, o4, none⟩ = some v4 ∧ Below B a X ∧ B ≤ X.heap.size) {nb k : Nat} {u : Value} (hB : B ≤ nb) (n0 : b0 ≠ nb) (n1 : b1 ≠ nb) (n2 : b2 ≠ nb) (n3 : b3 ≠ nb) (n4 : b4 ≠ nb) : (X.setCell ⟨nb, k, none⟩ u).cell? ⟨b0, o0, none⟩ = some v0 ∧ (X.setCell ⟨nb, k, none⟩ u).cell? ⟨b1, o1, none⟩ = some v1 ∧ (X.setCell ⟨nb, k, none⟩ u).cell? ⟨b2, o2, none⟩ = some v2 ∧ (X.setCell ⟨nb, k, none⟩ u).cell? ⟨b3, o3, none⟩ = some v3 ∧ (X.setCell ⟨nb, k, none⟩ u).cell? ⟨b4, o4, none⟩ = some v4 ∧ Below B a (X.setCell ⟨nb, k, none⟩ u) ∧ B ≤ (X.setCell ⟨nb, k, none⟩ u).heap.size :=
  ⟨keepS h.1 n0, keepS h.2.1 n1, keepS h.2.2.1 n2, keepS h.2.2.2.1 n3, keepS h.2.2.2.2.1 n4, Below.setCell h.2.2.2.2.2.1 hB u, by simpa [World.setCell] using h.2.2.2.2.2.2⟩
theorem hold6 {a X w' : World} {b0 o0 b1 o1 b2 o2 b3 o3 b4 o4 b5 o5 B : Nat} {v0 v1 v2 v3 v4 v5 : Value} (h : X.cell? ⟨b0, o0, none⟩ = some v0 ∧ X.cell? ⟨b1, o1, none⟩ = some v1 ∧ X.cell? ⟨b2, o2, none⟩ = some v2 ∧ X.cell? ⟨b3, o3, none⟩ = some v3 ∧ X.cell? ⟨b4, o4, none⟩ = some v4 ∧ X.cell? ⟨b5, o5, none⟩ = some v5 ∧ Below B a X ∧ B ≤ X.heap.size) (hb : Below X.heap.size X w') : w'.cell? ⟨b0, o0, none⟩ = some v0 ∧ w'.cell? ⟨b1, o1, none⟩ = some v1 ∧ w'.cell? ⟨b2, o2, none⟩ = some v2 ∧ w'.cell? ⟨b3, o3, none⟩ = some v3 ∧ w'.cell? ⟨b4, o4, none⟩ = some v4 ∧ w'.cell? ⟨b5, o5, none⟩ = some v5 ∧ Below B a w' ∧ B ≤ w'.heap.size :=
  ⟨keep hb h.1, keep hb h.2.1, keep hb h.2.2.1, keep hb h.2.2.2.1, keep hb h.2.2.2.2.1, keep hb h.2.2.2.2.2.1, below_from h.2.2.2.2.2.2.1 h.2.2.2.2.2.2.2 hb, Nat.le_trans h.2.2.2.2.2.2.2 hb.size⟩
theorem hold6D {a X : World} {b0 o0 b1 o1 b2 o2 b3 o3 b4 o4 b5 o5 B : Nat} {v0 v1 v2 v3 v4 v5 : Value} (h : X.cell? ⟨b0, o0, none⟩ = some v0 ∧ X.cell? ⟨b1, o1, none⟩ = some v1 ∧ X.cell? ⟨b2, o2, none⟩ = some v2 ∧ X.cell? ⟨b3, o3, none⟩ = some v3 ∧ X.cell? ⟨b4, o4, none⟩ = some v4 ∧ X.cell? ⟨b5, o5, none⟩ = some v5 ∧ Below B a X ∧ B ≤ X.heap.size) : X.drew.cell? ⟨b0, o0, none⟩ = some v0 ∧ X.drew.cell? ⟨b1, o1, none⟩ = some v1 ∧ X.drew.cell? ⟨b2, o2, none⟩ = some v2 ∧ X.drew.cell? ⟨b3, o3, none⟩ = some v3 ∧ X.drew.cell? ⟨b4, o4, none⟩ = some v4 ∧ X.drew.cell? ⟨b5, o5, none⟩ = some v5 ∧ Below B a X.drew ∧ B ≤ X.drew.heap.size := hold6 h ((Below.refl _ _).drew)
theorem hold6A {a X : World} {b0 o0 b1 o1 b2 o2 b3 o3 b4 o4 b5 o5 B : Nat} {v0 v1 v2 v3 v4 v5 : Value} (h : X.cell? ⟨b0, o0, none⟩ = some v0 ∧ X.cell? ⟨b1, o1, none⟩ = some v1 ∧ X.cell? ⟨b2, o2, none⟩ = some v2 ∧ X.cell? ⟨b3, o3, none⟩ = some v3 ∧ X.cell? ⟨b4, o4, none⟩ = some v4 ∧ X.cell? ⟨b5, o5, none⟩ = some v5 ∧ Below B a X ∧ B ≤ X.heap.size) (o : Obj) : (X.alloc o).cell? ⟨b0, o0, none⟩ = some v0 ∧ (X.alloc o).cell? ⟨b1, o1, none⟩ = some v1 ∧ (X.alloc o).cell? ⟨b2, o2, none⟩ = some v2 ∧ (X.alloc o).cell? ⟨b3, o3, none⟩ = some v3 ∧ (X.alloc o).cell? ⟨b4, o4, none⟩ = some v4 ∧ (X.alloc o).cell? ⟨b5, o5, none⟩ = some v5 ∧ Below B a (X.alloc o) ∧ B ≤ (X.alloc o).heap.size := hold6 h ((Below.refl _ _).alloc (Nat.le_refl _) o)
theorem hold6S {a X : World} {b0 o0 b1 o1 b2 o2 b3 o3 b4 o4 b5 o5 B : Nat} {v0 v1 v2 v3 v4 v5 : Value} (h : X.cell? ⟨b0, o0, none⟩ = some v0 ∧ X.cell? ⟨b1, o1, none⟩ = some v1 ∧ X.cell? ⟨b2, o2, none⟩ = some v2 ∧ X.cell? ⟨b3, o3, none⟩ = some v3 ∧ X.cell? ⟨b4, o4, none⟩ = some v4 ∧ X.cell? ⟨b5, o5, none⟩ = some v5 ∧ Below B a X ∧ B ≤ X.heap.size) {nb k : Nat} {u : Value} (hB : B ≤ nb) (n0 : b0 ≠ nb) (n1 : b1 ≠ nb) (n2 : b2 ≠ nb) (n3 : b3 ≠ nb) (n4 : b4 ≠ nb) (n5 : b5 ≠ nb) : (X.setCell ⟨nb, k, none⟩ u).cell? ⟨b0, o0, none⟩ = some v0 ∧ (X.setCell ⟨nb, k, none⟩ u).cell? ⟨b1, o1, none⟩ = some v1 ∧ (X.setCell ⟨nb, k, none⟩ u).cell? ⟨b2, o2, none⟩ = some v2 ∧ (X.setCell ⟨nb, k, none⟩ u).cell? ⟨b3, o3, none⟩ = some v3 ∧ (X.setCell ⟨nb, k, none⟩ u).cell? ⟨b4, o4, none⟩ = some v4 ∧ (X.setCell ⟨nb, k, none⟩ u).cell? ⟨b5, o5, none⟩ = some v5 ∧ Below B a (X.setCell ⟨nb, k, none⟩ u) ∧ B ≤ (X.setCell ⟨nb, k, none⟩ u).heap.size :=
  ⟨keepS h.1 n0, keepS h.2.1 n1, keepS h.2.2.1 n2, keepS h.2.2.2.1 n3, keepS h.2.2.2.2.1 n4, keepS h.2.2.2.2.2.1 n5, Below.setCell h.2.2.2.2.2.2.1 hB u, by simpa [World.setCell] using h.2.2.2.2.2.2.2⟩

/-- WHAT A WALK IS TOLD OF A SLICE OF INTEGERS THAT CAME IN: it is nil; or it leads to a row of 'cap' cells, the numbers 'zs' (the first 'len' are its elements). -/
def IsRow (k : IntKind) (w : World) (a : Option Addr) (len cap : Nat) (zs : List Int) : Prop :=
  (a = none ∧ len = 0 ∧ cap = 0 ∧ zs = []) ∨
  ∃ x, a = some x ∧ len ≤ cap ∧ cap ≤ maxLen ∧ zs.length = cap ∧ (∀ i, i < zs.length → w.cell? (x.add i) = some (.int k (zs.getD i 0))) ∧ ∀ n ∈ zs, (Lit.int k n).wf = true

/-- the elements of a row, as natural numbers. -/
def nats (zs : List Int) (i : Nat) : Nat := (zs.getD i 0).toNat
/-- what a walk reads of a slice of unsigned numbers: where it lies, and what each cell below its length holds. -/
structure URow (k : IntKind) (top : Nat) (w : World) (a : Option Addr) (len : Nat) (g : Nat → Nat) : Prop where
  bound : len ≤ 9223372036854775807
  cell : ∀ i, i < len → ∃ blk off, a = some ⟨blk, off, none⟩ ∧ w.cell? ⟨blk, off + i, none⟩ = some (.int k (g i : Nat))
  lt : ∀ i, i < len → g i < top
theorem IsRow.at' {k : IntKind} {w : World} {a : Option Addr} {len cap : Nat} {zs : List Int} (h : IsRow k w a len cap zs) : len ≤ maxLen ∧ ∀ i, i < len → ∃ blk off, a = some ⟨blk, off, none⟩ ∧ w.cell? ⟨blk, off + i, none⟩ = some (.int k (zs.getD i 0)) ∧ (Lit.int k (zs.getD i 0)).wf = true := by
  rcases h with ⟨rfl, rfl, rfl, rfl⟩ | ⟨x, rfl, hl, hm, hz, hcell, hwz⟩
  · exact ⟨Nat.zero_le _, fun i hi => by omega⟩
  · refine ⟨by omega, fun i hi => ?_⟩
    have hc := hcell i (by omega)
    obtain ⟨b, off, spot⟩ := x
    have hspot : spot = none := by simpa [Addr.add] using World.cell?_spot (hcell 0 (by omega))
    subst hspot
    have ea : (Addr.add ⟨b, off, none⟩ i) = ⟨b, off + i, none⟩ := by
      unfold Addr.add; split
      · next h => subst h; rfl
      · rfl
    rw [ea] at hc
    refine ⟨b, off, rfl, hc, hwz _ ?_⟩
    rw [List.getD_eq_getElem?_getD, List.getElem?_eq_getElem (by omega)]
    exact List.getElem_mem _
theorem IsRow.u8 {w : World} {a : Option Addr} {len cap : Nat} {zs : List Int} (h : IsRow .u8 w a len cap zs) : URow .u8 256 w a len (nats zs) := by
  obtain ⟨h1, h2⟩ := h.at'
  refine ⟨by unfold maxLen at h1; exact h1, fun i hi => ?_, fun i hi => ?_⟩
  · obtain ⟨b, off, ha, hc, hw⟩ := h2 i hi
    have hr := bounds_u8 hw
    refine ⟨b, off, ha, ?_⟩
    rw [hc]; unfold nats
    rw [Int.toNat_of_nonneg hr.1]
  · obtain ⟨b, off, ha, hc, hw⟩ := h2 i hi
    have hr := bounds_u8 hw
    unfold nats; omega
theorem IsRow.u64 {w : World} {a : Option Addr} {len cap : Nat} {zs : List Int} (h : IsRow .u64 w a len cap zs) : URow .u64 18446744073709551616 w a len (nats zs) := by
  obtain ⟨h1, h2⟩ := h.at'
  refine ⟨by unfold maxLen at h1; exact h1, fun i hi => ?_, fun i hi => ?_⟩
  · obtain ⟨b, off, ha, hc, hw⟩ := h2 i hi
    have hr := bounds_u64 hw
    refine ⟨b, off, ha, ?_⟩
    rw [hc]; unfold nats
    rw [Int.toNat_of_nonneg hr.1]
  · obtain ⟨b, off, ha, hc, hw⟩ := h2 i hi
    have hr := bounds_u64 hw
    unfold nats; omega
/-- an unsigned number that came in, as a natural number. -/
theorem nat_u8 {a : Int} (h : (Lit.int .u8 a).wf = true) : ∃ n : Nat, a = n ∧ n < 256 := ⟨a.toNat, by have := bounds_u8 h; omega, by have := bounds_u8 h; omega⟩
theorem nat_u32 {a : Int} (h : (Lit.int .u32 a).wf = true) : ∃ n : Nat, a = n ∧ n < 4294967296 := ⟨a.toNat, by have := bounds_u32 h; omega, by have := bounds_u32 h; omega⟩
theorem nat_u64 {a : Int} (h : (Lit.int .u64 a).wf = true) : ∃ n : Nat, a = n ∧ n < 18446744073709551616 := ⟨a.toNat, by have := bounds_u64 h; omega, by have := bounds_u64 h; omega⟩
end Go.Proofs.Ytjdeejbpkdgohaa
