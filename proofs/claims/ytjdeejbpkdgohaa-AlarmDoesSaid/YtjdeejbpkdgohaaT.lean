/- An argument that is a slice of arrays of integers, opened. -/
import Derived.Test.YtjdeejbpkdgohaaRows
import Derived.Test.YtjdeejbpkdgohaaM
import Derived.Deep.Slices
import Derived.Deep.Fields
import Derived.OpenShut
namespace Go.Proofs.Ytjdeejbpkdgohaa
open Go.RowKit Go.ChangeShapes Go.WideShapes Go.Deep
set_option linter.unusedVariables false

/-- what a walk reads of a slice of arrays of N integers of a kind: 'g i j' is number j of array i. -/
structure Tup (k : IntKind) (N : Nat) (W : World) (a : Option Addr) (len : Nat) (g : Nat → Nat → Int) : Prop where
  bound : len ≤ 9223372036854775807
  cell : ∀ i, i < len → ∃ blk off, a = some ⟨blk, off, none⟩ ∧ ∀ j, j < N → W.cell? ⟨blk, off + (i * N + j), none⟩ = some (.int k (g i j)) ∧ (Lit.int k (g i j)).wf = true
theorem add_flat {a : Addr} (h : a.spot = none) (i : Nat) : a.add i = ⟨a.block, a.off + i, none⟩ := by
  obtain ⟨b, o, s⟩ := a
  simp at h; subst h
  unfold Addr.add
  split
  · rename_i h; subst h; rfl
  · rfl
section
variable {H : Type} {enc : TypeId × Value → H} {P : Program} {w : World} {base : Nat} {spare : Nat → Bool} {held : Bool}
theorem open_tup {t e q : TypeId} {k : IntKind} {N : Nat} {fuel : Nat} {a : Option Addr} {len cap : Nat} {x : DataW H × List MemPlace} (ht : P.underlying t = some (.slice e)) (he : P.underlying e = some (.array N q)) (hq : P.underlying q = some (.int k))
    (hC : P.cellsOf e = N) (hq1 : P.cellsOf q = 1) (hN : 0 < N) (h : DataW.trod enc P w base spare held fuel t [.slice a len cap] = some x) : ∃ g, Tup k N w a len g := by
  rcases open_slice ht h with ⟨hcs, _⟩ | ⟨x, l, c, m, n, D, Pl, hcs, _, hl, hm, hmm, _, hi⟩
  · simp at hcs
    obtain ⟨rfl, rfl, rfl⟩ := hcs
    exact ⟨fun _ _ => 0, ⟨by omega, fun i hi => by omega⟩⟩
  · simp at hcs
    obtain ⟨rfl, rfl, rfl⟩ := hcs
    have hlm : len ≤ m := by rw [hmm]; split <;> omega
    have key : ∀ i, i < len → ∃ f : Nat → Int, ∀ j, j < N → w.cell? (x.add (i * N + j)) = some (.int k (f j)) ∧ (Lit.int k (f j)).wf = true := fun i hil => by
      obtain ⟨cs', hc, htr⟩ := hi i (by omega)
      rw [hC] at hc
      obtain ⟨xs, m', _, _, hlen, hxl, hel⟩ := DataW.trod_array he htr
      rw [hC] at hlen
      obtain ⟨_, hcl, hat⟩ := World.cells?_some hc
      have key2 : ∀ j, j < N → ∃ v : Int, w.cell? (x.add (i * N + j)) = some (.int k v) ∧ (Lit.int k v).wf = true := fun j hj => by
        have h1 := hel j hj
        rw [hq1, Nat.mul_one] at h1
        have hone : (cs'.drop j).take 1 = [cs'[j]'(by omega)] := by
          rw [List.drop_eq_getElem_cons (by omega)]; rfl
        rw [hone, List.getElem?_eq_getElem (by omega)] at h1
        obtain ⟨v, hv, _, hwf⟩ := DataW.trod_int hq h1
        refine ⟨v, ?_, hwf⟩
        have h2 := hat j hj
        rw [List.getElem?_eq_getElem (by omega)] at h2
        rw [← Go.Deep.add_add, h2]
        injection hv with hv
        rw [hv]
      refine ⟨fun j => if h : j < N then (key2 j h).choose else 0, fun j hj => ?_⟩
      simp only [hj, dif_pos]
      exact (key2 j hj).choose_spec
    refine ⟨fun i j => if h : i < len then (key i h).choose j else 0, ⟨by unfold maxLen at hm; omega, fun i hil => ?_⟩⟩
    have h0 := (key i hil).choose_spec
    have hspot : x.spot = none := by
      have := World.cell?_spot ((key 0 (by omega)).choose_spec 0 hN).1
      simpa [Addr.add] using this
    refine ⟨x.block, x.off, by obtain ⟨b, o, s⟩ := x; simp at hspot; subst hspot; rfl, fun j hj => ?_⟩
    simp only [hil, dif_pos]
    have h1 := h0 j hj
    rw [add_flat hspot] at h1
    exact h1
end
theorem Tup.keep {k : IntKind} {N : Nat} {W W' : World} {a : Option Addr} {len : Nat} {g : Nat → Nat → Int} (h : Tup k N W a len g) (hb : Below W.heap.size W W') : Tup k N W' a len g :=
  ⟨h.bound, fun i hi => by
    obtain ⟨blk, off, ha, hc⟩ := h.cell i hi
    exact ⟨blk, off, ha, fun j hj => ⟨Ytjdeejbpkdgohaa.keep hb (hc j hj).1, (hc j hj).2⟩⟩⟩
end Go.Proofs.Ytjdeejbpkdgohaa
