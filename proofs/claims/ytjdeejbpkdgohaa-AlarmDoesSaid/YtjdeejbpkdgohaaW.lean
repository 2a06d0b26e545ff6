/- The document's Drop. -/
import Derived.Test.YtjdeejbpkdgohaaV
import Derived.Test.YtjdeejbpkdgohaaT
import Derived.Maps.AppendAt
namespace Go.Proofs.Ytjdeejbpkdgohaa
open Go.RowKit Go.Maps
set_option maxHeartbeats 2000000
set_option maxRecDepth 100000
set_option linter.unusedVariables false

/-- the cells of a row of alarms. -/
def els (S : List Al) : List Value := S.flatMap fun x => [.int .u64 (x.1 : Int), .int .u64 (x.2 : Int)]
theorem els_len (S : List Al) : (els S).length = S.length * 2 := by
  unfold els
  induction S with
  | nil => rfl
  | cons x S ih => simp only [List.flatMap_cons, List.length_append, ih, List.length_cons, List.length_nil]; omega
theorem els_app (S T : List Al) : els (S ++ T) = els S ++ els T := by unfold els; rw [List.flatMap_append]
theorem els_one (S : List Al) : ∀ u ∈ els S, u.oneCell' = true := by
  unfold els
  intro u hu
  obtain ⟨x, hx, h⟩ := List.mem_flatMap.1 hu
  simp at h
  rcases h with rfl | rfl <;> rfl
theorem els_at {S : List Al} {k : Nat} (h : k < S.length) : (els S)[k * 2]? = some (.int .u64 (S[k].1 : Int)) ∧ (els S)[k * 2 + 1]? = some (.int .u64 (S[k].2 : Int)) := by
  induction S generalizing k with
  | nil => simp at h
  | cons x S ih =>
    have e : els (x :: S) = [.int .u64 (x.1 : Int), .int .u64 (x.2 : Int)] ++ els S := rfl
    rw [e]
    cases k with
    | zero => exact ⟨rfl, rfl⟩
    | succ k =>
      have := ih (k := k) (by simpa using h)
      have e1 : (k + 1) * 2 = k * 2 + 2 := by omega
      rw [e1, List.getElem?_append_right (by simp), List.getElem?_append_right (by simp)]
      simp only [List.length_cons, List.length_nil]
      exact ⟨by rw [show k * 2 + 2 - (0 + 1 + 1) = k * 2 by omega]; exact this.1, by rw [show k * 2 + 2 + 1 - (0 + 1 + 1) = k * 2 + 1 by omega]; exact this.2⟩
/-- a row that is owned is one that is read. -/
theorem row2_of {w : World} {base cap : Nat} {a : Option Addr} {S : List Al} {n : Nat} (h : w.ownsRow base 66 2 (.slice a n cap) n (els S)) (hn : S.length = n) : Row2 w a S := by
  subst hn
  intro k hk
  obtain ⟨a', cap', e, hf⟩ := row_form h
  injection e with e1 e2 e3
  subst e1
  obtain ⟨g, rfl, _, hl⟩ := hf (by omega)
  have hat := els_at hk
  refine ⟨g, 0, rfl, hl, ?_, ?_⟩
  · have := h.cells (g := g) rfl (k * 2) _ hat.1
    rw [add_flat rfl] at this
    exact this
  · have := h.cells (g := g) rfl (k * 2 + 1) _ hat.2
    rw [add_flat rfl] at this
    exact this
theorem Row2.cells {W : World} {g off : Nat} {S : List Al} (h : Row2 W (some ⟨g, off, none⟩) S) : ∀ j u, (els S)[j]? = some u → W.cell? ((⟨g, off, none⟩ : Addr).add j) = some u := by
  intro j u hu
  rw [add_flat rfl]
  have hj : j < S.length * 2 := by rw [← els_len]; exact (List.getElem?_eq_some_iff.1 hu).1
  have hq : j / 2 < S.length := by omega
  obtain ⟨g', off', e, hl, c0, c1⟩ := h (j / 2) hq
  injection e with e
  injection e with e1 e2
  subst e1 e2
  have hat := els_at hq
  rcases Nat.mod_two_eq_zero_or_one j with hm | hm
  · have ej : j = j / 2 * 2 := by omega
    rw [ej] at hu ⊢
    rw [hat.1] at hu
    injection hu with hu
    rw [← hu]; simpa using c0
  · have ej : j = j / 2 * 2 + 1 := by omega
    rw [ej] at hu ⊢
    rw [hat.2] at hu
    injection hu with hu
    rw [← hu]
    have e2 : (j / 2 * 2 + 1) / 2 = j / 2 := by omega
    simp only [e2] at *
    exact c1
theorem Row2.take {W : World} {a : Option Addr} {S : List Al} (h : Row2 W a S) (k : Nat) : Row2 W a (S.take k) := fun i hi => by
  have hi2 : i < S.length := by rw [List.length_take] at hi; omega
  obtain ⟨g, off, ha, hl, c0, c1⟩ := h i hi2
  exact ⟨g, off, ha, hl, by rw [List.getElem_take]; exact c0, by rw [List.getElem_take]; exact c1⟩
theorem Row2.drop {W : World} {g off : Nat} {S : List Al} (h : Row2 W (some ⟨g, off, none⟩) S) (k : Nat) : Row2 W (some ⟨g, off + k * 2, none⟩) (S.drop k) := fun i hi => by
  have hi2 : k + i < S.length := by rw [List.length_drop] at hi; omega
  obtain ⟨g', off', e, hl, c0, c1⟩ := h (k + i) hi2
  injection e with e
  injection e with e1 e2
  subst e1 e2
  refine ⟨_, _, rfl, hl, ?_, ?_⟩
  · rw [List.getElem_drop, ← c0, show off + k * 2 + i * 2 = off + (k + i) * 2 by omega]
  · rw [List.getElem_drop, ← c1, show off + k * 2 + i * 2 + 1 = off + (k + i) * 2 + 1 by omega]
theorem infoO : (Try.prog.info? 66).map (fun i => (i.zero, i.size, i.bytes)) = some (some (.agg #[.int .u64 0, .int .u64 0]), 2, 16) := by kernel_rfl
/-- what a call leaves of the document's alarms. -/
def RTurns (W : World) (br : Nat) (G : Nat → Prop) (S : List Al) (most : Int) (v : Value) (e : Ending) (w' : World) : Prop :=
  e = .returned v ∧ ∃ G', RefAt w' br G' S most ∧ Touch (fun b => b = br) W w' ∧ ∀ b, G' b → G b ∨ W.heap.size ≤ b
theorem drop_at {S : List Al} {k : Nat} (hk : k < S.length) (hi : Ids S) : dropS S S[k].1 = S.take k ++ S.drop (k + 1) := by
  have e : S = S.take k ++ S[k] :: S.drop (k + 1) := by
    rw [← List.drop_eq_getElem_cons hk, List.take_append_drop]
  generalize hx : S[k] = x at e
  have hi2 : Ids (S.take k ++ x :: S.drop (k + 1)) := by rw [← e]; exact hi
  unfold Ids at hi2
  rw [List.map_append, List.map_cons, List.nodup_append] at hi2
  obtain ⟨h1, h2, h3⟩ := hi2
  rw [List.nodup_cons] at h2
  conv => lhs; rw [e]
  unfold dropS
  rw [List.filter_append, List.filter_cons]
  have f1 : (S.take k).filter (fun y => y.1 != x.1) = S.take k := by
    rw [List.filter_eq_self]
    intro y hy
    have := h3 y.1 (List.mem_map.2 ⟨y, hy, rfl⟩) x.1 (List.mem_cons_self ..)
    simpa using this
  have f2 : (S.drop (k + 1)).filter (fun y => y.1 != x.1) = S.drop (k + 1) := by
    rw [List.filter_eq_self]
    intro y hy
    have : y.1 ≠ x.1 := fun e => h2.1 (List.mem_map.2 ⟨y, hy, e⟩)
    simpa using this
  rw [f1, f2]
  simp
/-- the new list is stored: what the document's alarms are then. -/
theorem ref_close {W w2 : World} {br n : Nat} {G : Nat → Prop} {S : List Al} {most : Int} {v u : Value} (h1 : At w2 br 28 #[u, .int .i64 most]) (hbr : br < W.heap.size) (hG : G br) (hT : Touch (fun b => b = br) W w2)
    (hown : w2.ownsRow W.heap.size 66 2 v n (els S)) (hn : S.length = n) :
    ∃ G', RefAt (w2.setCell ⟨br, 0, none⟩ v) br G' S most ∧ Touch (fun b => b = br) W (w2.setCell ⟨br, 0, none⟩ v) ∧ ∀ b, G' b → G b ∨ W.heap.size ≤ b := by
  subst hn
  have hlt := hown.lt
  obtain ⟨a, c, rfl, hf⟩ := row_form hown
  have hcap : S.length ≤ c := by
    rcases hown.2 with ⟨h, h0⟩ | ⟨g, cap, cur, h, _, _, hnc, _⟩
    · omega
    · injection h with _ _ h3; omega
  have hown0 : w2.ownsRow 0 66 2 (.slice a S.length c) S.length (els S) := by
    refine ⟨hown.1, ?_⟩
    rcases hown.2 with h | ⟨g, cap, cur, h, hb, hr⟩
    · exact .inl h
    · exact .inr ⟨g, cap, cur, h, Nat.zero_le _, hr⟩
  refine ⟨fun b => b = br ∨ (Value.slice a S.length c).ownBlock = some b, ⟨a, c, ?_, ?_, hcap, .inl rfl, fun x hx => ?_, fun b hb => ?_⟩, hT.set _ (.inl rfl), fun b hb => ?_⟩
  · have := h1.set (o := 0) (v := .slice a S.length c)
    exact this
  · exact (row2_of hown rfl).touch ((Touch.refl (fun b => b = br) w2).set _ (.inl rfl)) (fun x hx e => by
      subst hx
      have := (hlt x.block rfl).1
      omega)
  · subst hx
    have := (hlt x.block rfl).1
    exact ⟨.inr rfl, by omega⟩
  · have hs : (w2.setCell ⟨br, 0, none⟩ (.slice a S.length c)).heap.size = w2.heap.size := by simp [World.setCell]
    rw [hs]
    rcases hb with rfl | hb
    · exact h1.lt
    · exact (hlt b hb).2
  · rcases hb with rfl | hb
    · exact .inl hG
    · exact .inr (hlt b hb).1
end Go.Proofs.Ytjdeejbpkdgohaa
