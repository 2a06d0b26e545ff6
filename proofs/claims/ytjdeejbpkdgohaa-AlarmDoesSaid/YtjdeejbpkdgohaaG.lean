/- What an Alarms value is; New, Len, First, Put. -/
import Derived.Test.YtjdeejbpkdgohaaF
import Derived.StillTailTactics
namespace Go.Proofs.Ytjdeejbpkdgohaa
open Go.RowKit Go.Maps
set_option maxHeartbeats 1000000
set_option maxRecDepth 100000
set_option linter.unusedVariables false

/-- the alarms S, in order, at block ba: F has all blocks that they take. -/
structure Alm (W : World) (ba : Nat) (F : Nat → Prop) (S : List Al) (most : Int) (s : Option Addr) (c mb : Nat) (H : List Ent) : Prop where
  q : Q W ba (.slice s H.length c) (.map (some mb)) (.int .i64 most) H
  heap : HeapOn H H.length
  perm : S.Perm (H.map Ent.key)
  map : MapAt W mb H
  inF : F ba ∧ F mb ∧ ∀ b, foot (.slice s H.length c) H b → F b
  lt : ∀ b, F b → b < W.heap.size
  sorted : Sorted S
  ids : Ids S
  fits : Fits S
def AlarmAt (W : World) (ba : Nat) (F : Nat → Prop) (S : List Al) (most : Int) : Prop := ∃ s c mb H, Alm W ba F S most s c mb H
theorem Alm.len {W : World} {ba : Nat} {F : Nat → Prop} {S : List Al} {most : Int} {s : Option Addr} {c mb : Nat} {H : List Ent} (h : Alm W ba F S most s c mb H) : S.length = H.length := by rw [h.perm.length_eq]; simp
theorem Alm.has {W : World} {ba : Nat} {F : Nat → Prop} {S : List Al} {most : Int} {s : Option Addr} {c mb : Nat} {H : List Ent} (h : Alm W ba F S most s c mb H) (id : Nat) : H.any (fun x => x.id == id) = hasS S id := by
  rw [has_perm h.perm]
  unfold hasS
  rw [List.any_map]; rfl
theorem Alm.fit {W : World} {ba : Nat} {F : Nat → Prop} {S : List Al} {most : Int} {s : Option Addr} {c mb : Nat} {H : List Ent} (h : Alm W ba F S most s c mb H) : ∀ x ∈ H, x.id < 18446744073709551616 ∧ x.time < 18446744073709551616 := fun x hx =>
  h.fits (x.key) (h.perm.mem_iff.2 (List.mem_map.2 ⟨x, hx, rfl⟩))
theorem Q.touch {W W' : World} {ba : Nat} {v m most : Value} {H : List Ent} (q : Q W ba v m most H) {T : Nat → Prop} (k : Touch T W W') (h1 : ¬ T ba) (h2 : ∀ b, foot v H b → ¬ T b) : Q W' ba v m most H := by
  refine ⟨q.hd.touch k h1, ?_, fun i hi => (q.ones i hi).touch k (h2 _ (foot_gt hi)), q.nd, q.sep, q.sep2⟩
  rcases q.row.2 with ⟨h, h0⟩ | ⟨g, cap, cur, h, hb, hg, hr⟩
  · exact ⟨q.row.1, .inl ⟨h, h0⟩⟩
  · refine ⟨q.row.1, .inr ⟨g, cap, cur, h, hb, ?_, hr⟩⟩
    have hlt := own_lt q.row (j := g) (by rw [h]; rfl)
    exact (k.block g hlt (h2 g (.inl (by rw [h]; rfl)))).trans hg
/-- what others do does not change alarms. -/
theorem AlarmAt.touch {W W' : World} {ba : Nat} {F : Nat → Prop} {S : List Al} {most : Int} (h : AlarmAt W ba F S most) {T : Nat → Prop} (k : Touch T W W') (hT : ∀ b, F b → ¬ T b) : AlarmAt W' ba F S most := by
  obtain ⟨s, c, mb, H, a⟩ := h
  exact ⟨s, c, mb, H, a.q.touch k (hT _ a.inF.1) (fun b hb => hT b (a.inF.2.2 b hb)), a.heap, a.perm, a.map.touch k (hT _ a.inF.2.1), a.inF, fun b hb => Nat.lt_of_lt_of_le (a.lt b hb) k.size, a.sorted, a.ids, a.fits⟩
theorem AlarmAt.below {W W' : World} {ba : Nat} {F : Nat → Prop} {S : List Al} {most : Int} (h : AlarmAt W ba F S most) (hb : Below W.heap.size W W') : AlarmAt W' ba F S most :=
  h.touch (T := fun _ => False) ⟨hb.os, hb.tape, hb.output, hb.size, fun k hk _ => hb.block k hk⟩ (fun _ _ h => h)

def apt (ba : Nat) : Value := .pointer (some ⟨ba, 0, none⟩)
/-- what New leaves. -/
def NewOk (W : World) (most : Int) (e : Ending) (w' : World) : Prop := ∃ ba F, e = .returned (apt ba) ∧ AlarmAt w' ba F [] most ∧ Touch (fun _ => False) W w' ∧ ∀ b, F b → W.heap.size ≤ b
theorem new_al (most : Int) (W : World) : Calls Try.prog 9 #[.int .i64 most] W (NewOk W most) := by
  have hmm := @run_makeMap Try.prog
  go_enter Try.func9, Try.ntmps9
  go_wp2_with fail
  go_ret
  refine ⟨W.heap.size + 1, fun b => b = W.heap.size ∨ b = W.heap.size + 1, rfl, ⟨none, 0, W.heap.size, [], ?_⟩, ((Touch.refl _ _).alloc _).alloc _, fun b hb => by omega⟩
  have hd := At.new (W.alloc (.map #[] 0)) 56 #[.slice none 0 0, .map (some W.heap.size), .int .i64 most]
  rw [World.size_alloc] at hd
  refine ⟨⟨hd, World.ownsRow_nil _ _ _ _, fun i hi => by simp at hi, fun i k hi => by simp at hi, fun i hi => by simp at hi, by simp [Value.ownBlock]⟩, fun j _ hj => by simp at hj, List.Perm.refl _, ?_, ⟨.inr rfl, .inl rfl, fun b hb => ?_⟩, fun b hb => by simp; omega, List.Pairwise.nil, List.Pairwise.nil, fun x hx => by cases hx⟩
  · exact (MapAt.made W).touch ((Touch.refl (fun _ => False) _).alloc _) (fun h => h)
  · rcases hb with hb | ⟨x, hx, _⟩
    · simp [Value.ownBlock] at hb
    · cases hx

theorem len_al {W : World} {ba : Nat} {F : Nat → Prop} {S : List Al} {most : Int} (h : AlarmAt W ba F S most) : Calls Try.prog 19 #[apt ba] W fun e w' => e = .returned (.int .i64 (S.length : Nat)) ∧ W = w' := by
  obtain ⟨s, c, mb, H, a⟩ := h
  have c0 : W.cell? ⟨ba, 0, none⟩ = some (.slice s H.length c) := by rw [a.q.hd.rd]; rfl
  have HL := Lib.hid a.len
  clear a
  unfold apt
  go_enter Try.func19, Try.ntmps19
  go_wp2_with fail
  go_ret
  exact ⟨by rw [HL.out]; rfl, rfl⟩
/-- the least time, or 0. -/
def firstT : List Al → Nat
  | [] => 0
  | x :: _ => x.2
def someS : List Al → Bool
  | [] => false
  | _ :: _ => true
theorem first_al {W : World} {ba : Nat} {F : Nat → Prop} {S : List Al} {most : Int} (h : AlarmAt W ba F S most) (hl : S.length ≤ 100000) : Calls Try.prog 17 #[apt ba] W fun e w' => e = .returned (.tuple #[.int .u64 (firstT S : Nat), .bool (someS S)]) ∧ W = w' := by
  obtain ⟨s, c, mb, H, a⟩ := h
  have c0 : W.cell? ⟨ba, 0, none⟩ = some (.slice s H.length c) := by rw [a.q.hd.rd]; rfl
  have hlen := a.len
  cases S with
  | nil =>
    have h0 : ((H.length : Int) == 0) = true := by rw [← hlen]; rfl
    clear a hlen hl
    unfold apt
    go_enter Try.func17, Try.ntmps17
    go_wp2_with fail
    go_ret2
    exact ⟨rfl, rfl⟩
  | cons x S =>
    have h0 : ((H.length : Int) == 0) = false := by rw [← hlen, beq_eq_false_iff_ne]; simp; omega
    have hpos : 0 < H.length := by rw [← hlen]; simp
    have hpos' : (0 : Int) < (H.length : Int) := by omega
    obtain ⟨s', c', e, hf⟩ := a.q.form
    injection e with e1 e2 e3
    subst e1
    obtain ⟨g, rfl, hg⟩ := hf hpos
    have cg : W.cell? ⟨g, 0, none⟩ = some (.pointer (some ⟨(gt H 0).b, 0, none⟩)) := by rw [a.q.row.cellAt 0 (by omega), ptrs_get hpos]; rfl
    have c1 : W.cell? ⟨(gt H 0).b, 1, none⟩ = some (.int .u64 ((gt H 0).time : Int)) := by rw [(a.q.ones 0 hpos).rd]; rfl
    have hk := first_key rfl a.sorted a.perm a.heap
    have ht : (gt H 0).time = x.2 := by rw [← hk]; rfl
    rw [ht] at c1
    clear a hlen hl ht hk hf e2 e3
    generalize (gt H 0).b = b0 at cg c1
    unfold apt
    go_enter Try.func17, Try.ntmps17
    go_wp2_with fail
    go_ret2
    exact ⟨rfl, rfl⟩
end Go.Proofs.Ytjdeejbpkdgohaa
