/- The map of alarms; what an Alarms value is. -/
import Derived.Test.YtjdeejbpkdgohaaE
import Derived.Test.YtjdeejbpkdgohaaS
import Derived.Maps.OwnSet
import Derived.Maps.OwnOps
namespace Go.Proofs.Ytjdeejbpkdgohaa
open Go.RowKit Go.Maps
set_option maxHeartbeats 1000000
set_option maxRecDepth 100000
set_option linter.unusedVariables false

abbrev DU := DataW Unit
def nilD : DU := .lit (.bool false)
def dat (b : Nat) : DU := .lit (.int .i64 (b : Int))
/-- how an element of the map reads: by the block that it leads to. -/
def ptrElem : Value → Option (DU × List MemPlace)
  | .pointer none => some (nilD, [])
  | .pointer (some a) => if a.off = 0 ∧ a.spot = none then some (dat a.block, []) else none
  | _ => none
theorem ptrElem_ptr (b : Nat) : ptrElem (ptr b) = some (dat b, []) := rfl
theorem ptrElem_nil : ptrElem (.pointer none) = some (nilD, []) := rfl
theorem ptrElem_inv {v : Value} {z : DU × List MemPlace} {b : Nat} (h : ptrElem v = some z) (hz : z.1 = dat b) : v = ptr b := by
  unfold ptrElem at h
  split at h
  · cases h; cases hz
  · rename_i a
    split at h
    · rename_i hc
      cases h
      simp [dat] at hz
      obtain ⟨blk, off, spot⟩ := a
      simp at hc hz
      obtain ⟨rfl, rfl⟩ := hc
      have hz2 : blk = b := by omega
      unfold ptr; rw [hz2]
    · cases h
  · cases h
theorem ptrElem_inv_nil {v : Value} {z : DU × List MemPlace} (h : ptrElem v = some z) (hz : z.1 = nilD) : v = .pointer none := by
  unfold ptrElem at h
  split at h
  · rfl
  · split at h
    · cases h; cases hz
    · cases h
  · cases h
theorem law29 : Keyed Try.prog 29 := int_keyed Try.underlying29
theorem zero57 (w : World) : (zeroValue 57).run Try.prog w = .ok (.pointer none) w := by kernel_rfl
def kl (id : Nat) : Lit := .int .u64 (id : Int)
theorem wf64 {id : Nat} (h : id < 18446744073709551616) : (kl id).wf = true := by
  unfold kl
  exact WalkArith.wf_u64 (by omega)
theorem key64 {id : Nat} (h : id < 18446744073709551616) : keyOf Try.prog 29 (.int .u64 (id : Int)) = some (kl id) := keyOf_int_mk Try.underlying29 (wf64 h)
theorem kl_ne {a b : Nat} (h : a ≠ b) : kl a ≠ kl b := by unfold kl; intro e; injection e with _ e; omega

/-- block mb is the map of the alarms H. -/
def MapAt (W : World) (mb : Nat) (H : List Ent) : Prop := ∃ D : DU, W.ownsMap Try.prog 29 ptrElem mb H.length D ∧ Maps.size D = H.length ∧
  (∀ id, id < 18446744073709551616 → Maps.has D (kl id) = H.any (fun x => x.id == id)) ∧ ∀ x ∈ H, D.atKey (kl x.id) nilD = dat x.b
theorem MapAt.lt {W : World} {mb : Nat} {H : List Ent} (h : MapAt W mb H) : mb < W.heap.size := by obtain ⟨D, h1, _⟩ := h; exact h1.lt
theorem ownsMap_block {W W' : World} {mb n : Nat} {D : DU} (h : W.ownsMap Try.prog 29 ptrElem mb n D) (hb : W'.heap[mb]? = W.heap[mb]?) : W'.ownsMap Try.prog 29 ptrElem mb n D := by
  obtain ⟨es, clock, h1, F, h2, h3⟩ := h
  exact ⟨es, clock, hb.trans h1, F, h2, h3⟩
theorem MapAt.touch {T : Nat → Prop} {W W' : World} {mb : Nat} {H : List Ent} (h : MapAt W mb H) (k : Touch T W W') (hn : ¬ T mb) : MapAt W' mb H := by
  obtain ⟨D, h1, h2⟩ := h
  exact ⟨D, ownsMap_block h1 (k.block mb h1.lt hn), h2⟩
theorem MapAt.perm {W : World} {mb : Nat} {H K : List Ent} (h : MapAt W mb H) (hp : K.Perm H) : MapAt W mb K := by
  obtain ⟨D, h1, h2, h3, h4⟩ := h
  refine ⟨D, by rw [hp.length_eq]; exact h1, by rw [hp.length_eq]; exact h2, fun id hid => ?_, fun x hx => h4 x (hp.mem_iff.1 hx)⟩
  rw [h3 id hid, Bool.eq_iff_iff, List.any_eq_true, List.any_eq_true]
  exact ⟨fun ⟨x, hx, e⟩ => ⟨x, hp.mem_iff.2 hx, e⟩, fun ⟨x, hx, e⟩ => ⟨x, hp.mem_iff.1 hx, e⟩⟩
theorem MapAt.made (W : World) : MapAt (W.alloc (.map #[] 0)) W.heap.size [] := ⟨.map [], World.ownsMap_made _ _ _ _, rfl, fun id _ => rfl, fun x hx => by cases hx⟩
theorem resize {W : World} {mb n : Nat} {D : DU} (h : W.ownsMap Try.prog 29 ptrElem mb n D) : W.ownsMap Try.prog 29 ptrElem mb (Maps.size D) D := by
  obtain ⟨es, clock, h1, F, h2, h3⟩ := h
  exact ⟨es, clock, h1, F, by rw [h3]; simp [Maps.size, length_sorted], h3⟩
theorem mapTurned_touch {W W' : World} {mb : Nat} (h : W.mapTurned W' mb) : Touch (fun b => b = mb) W W' := by
  have g := h.grown
  exact ⟨g.os, g.tape, g.output, g.size, fun k hk hn => g.block k hk (fun e => hn (by injection e))⟩
theorem lk {id : Nat} (h : id < 18446744073709551616) : WideAt.IsKeyLit (kl id) := trivial

/-- a look-up: of one that is there, of one that is not. -/
theorem MapAt.look {W : World} {mb : Nat} {H : List Ent} (h : MapAt W mb H) {x : Ent} (hx : x ∈ H) (hid : x.id < 18446744073709551616) : (Instr.lookup 52 (.map (some mb)) (.int .u64 (x.id : Int)) true).run Try.prog W = .ok (.tuple #[ptr x.b, .bool true]) W := by
  obtain ⟨D, h1, h2, h3, h4⟩ := h
  obtain ⟨v, ps, hrun, hv⟩ := h1.look_ok law29 Try.underlying52 (zero57 W) ptrElem_nil (key64 hid)
  rw [h4 x hx] at hv
  have e := ptrElem_inv hv rfl
  have e2 : Maps.has D (kl x.id) = true := by rw [h3 _ hid, List.any_eq_true]; exact ⟨x, hx, by simp⟩
  rw [hrun, e, e2]
theorem MapAt.look_no {W : World} {mb : Nat} {H : List Ent} (h : MapAt W mb H) {id : Nat} (hx : H.any (fun x => x.id == id) = false) (hid : id < 18446744073709551616) : (Instr.lookup 52 (.map (some mb)) (.int .u64 (id : Int)) true).run Try.prog W = .ok (.tuple #[.pointer none, .bool false]) W := by
  obtain ⟨D, h1, h2, h3, h4⟩ := h
  obtain ⟨v, ps, hrun, hv⟩ := h1.look_ok law29 Try.underlying52 (zero57 W) ptrElem_nil (key64 hid)
  have e2 : Maps.has D (kl id) = false := by rw [h3 _ hid]; exact hx
  rw [atKey_of_not_has e2] at hv
  have e := ptrElem_inv_nil hv rfl
  rw [hrun, e, e2]
theorem MapAt.put {W : World} {mb : Nat} {H : List Ent} (h : MapAt W mb H) {x : Ent} (hx : H.any (fun y => y.id == x.id) = false) (hid : x.id < 18446744073709551616) (hf : ∀ y ∈ H, y.id < 18446744073709551616) (hl : H.length ≤ 100000) :
    ∃ w', (Instr.mapUpdate 52 (.map (some mb)) (.int .u64 (x.id : Int)) (ptr x.b)).run Try.prog W = .ok () w' ∧ MapAt w' mb (H ++ [x]) ∧ Touch (fun b => b = mb) W w' := by
  obtain ⟨D, h1, h2, h3, h4⟩ := h
  obtain ⟨w', hrun, ho, ht⟩ := h1.store law29 Try.underlying52 (by unfold maxLen; omega) (key64 hid) (ptrElem_ptr x.b)
  have e2 : Maps.has D (kl x.id) = false := by rw [h3 _ hid]; exact hx
  have hs : Maps.size (D.put (kl x.id) (dat x.b)) = H.length + 1 := by
    rw [size_put (h1.tidy law29), e2, h2]; simp
  refine ⟨w', hrun, ⟨D.put (kl x.id) (dat x.b), ?_, ?_, ?_, ?_⟩, mapTurned_touch ht⟩
  · have := resize ho
    rw [hs] at this
    simpa using this
  · rw [hs]; simp
  · intro id hid2
    rw [List.any_append]
    by_cases e : x.id = id
    · subst e
      rw [has_put_same h1.isMap (lk hid)]; simp
    · rw [has_put_other (kl_ne (Ne.symm e)), h3 id hid2]; simp [e]
  · intro y hy
    rcases List.mem_append.1 hy with hy | hy
    · have hne : y.id ≠ x.id := fun e => by
        rw [List.any_eq_false] at hx
        exact hx y hy (by simp [e])
      rw [atKey_put_other (kl_ne hne)]; exact h4 y hy
    · simp at hy; subst hy
      exact atKey_put_same h1.isMap (lk hid) _ _
theorem MapAt.del {W : World} {mb : Nat} {K : List Ent} {x : Ent} (h : MapAt W mb (x :: K)) (hx : K.any (fun y => y.id == x.id) = false) (hid : x.id < 18446744073709551616) (ty : TypeId) :
    ∃ w', (Builtin.delete_ #[52, 29] ty #[.map (some mb), .int .u64 (x.id : Int)]).run Try.prog W = .ok (.tuple #[]) w' ∧ MapAt w' mb K ∧ Touch (fun b => b = mb) W w' := by
  obtain ⟨D, h1, h2, h3, h4⟩ := h
  obtain ⟨w', hrun, ho, ht⟩ := h1.drop law29 Try.underlying52 (key64 hid) ty
  have e2 : Maps.has D (kl x.id) = true := by rw [h3 _ hid, List.any_cons]; simp
  have hs : Maps.size (D.del (kl x.id)) = K.length := by
    have := size_del (k := kl x.id) (h1.tidy law29)
    rw [e2, h2] at this
    simp at this; omega
  refine ⟨w', hrun, ⟨D.del (kl x.id), ?_, hs, ?_, ?_⟩, mapTurned_touch ht⟩
  · have := resize ho
    rw [hs] at this
    exact this
  · intro id hid2
    by_cases e : x.id = id
    · subst e
      rw [has_del_same, hx]
    · rw [has_del_other (kl_ne (Ne.symm e)), h3 id hid2, List.any_cons]
      simp [e]
  · intro y hy
    have hne : y.id ≠ x.id := fun e => by
      rw [List.any_eq_false] at hx
      exact hx y hy (by simp [e])
    rw [atKey_del_other (kl_ne hne)]
    exact h4 y (List.mem_cons_of_mem _ hy)
end Go.Proofs.Ytjdeejbpkdgohaa
