/- Put. -/
import Derived.Test.YtjdeejbpkdgohaaG
namespace Go.Proofs.Ytjdeejbpkdgohaa
open Go.RowKit Go.Maps
set_option maxHeartbeats 1000000
set_option maxRecDepth 100000
set_option linter.unusedVariables false

/-- what a call leaves that changes alarms to S'. -/
def Turns (W : World) (ba : Nat) (F : Nat → Prop) (S' : List Al) (most : Int) (v : Value) (e : Ending) (w' : World) : Prop :=
  e = .returned v ∧ ∃ F', AlarmAt w' ba F' S' most ∧ Touch F W w' ∧ ∀ b, F' b → F b ∨ W.heap.size ≤ b

theorem ptrs_set {H : List Ent} {i : Nat} {x : Ent} (h : i < H.length) (hb : x.b = (gt H i).b) : ptrs (H.set i x) = ptrs H := by
  unfold ptrs
  rw [List.map_set, hb, gt_lt h]
  apply List.ext_getElem (by simp)
  intro k h1 h2
  rw [List.getElem_set]
  split
  · rename_i e; subst e; simp
  · rfl
theorem Q.retime {W : World} {ba : Nat} {v m most : Value} {H : List Ent} (q : Q W ba v m most H) {i : Nat} (hi : i < H.length) (t : Nat) :
    Q (W.setCell ⟨(gt H i).b, 1, none⟩ (.int .u64 (t : Int))) ba v m most (H.set i ⟨(gt H i).b, (gt H i).id, t⟩) := by
  obtain ⟨hd, row, ones, nd, sep, sep2⟩ := q
  have hl : (H.set i ⟨(gt H i).b, (gt H i).id, t⟩).length = H.length := by simp
  have g := gt_set (H := H) ⟨(gt H i).b, (gt H i).id, t⟩ hi
  have gb : ∀ j, (gt (H.set i ⟨(gt H i).b, (gt H i).id, t⟩) j).b = (gt H j).b := fun j => by
    rw [g]; split
    · rename_i e; subst e; rfl
    · rfl
  refine ⟨hd.other (Ne.symm (sep i hi).1), ?_, ?_, ?_, ?_, sep2⟩
  · rw [hl, ptrs_set (x := ⟨(gt H i).b, (gt H i).id, t⟩) hi rfl]
    exact row.kept (gset _ (gt H i).b 1 _) (.inr (sep i hi).2)
  · intro j hj
    rw [hl] at hj
    rw [gb, g]
    by_cases e : j = i
    · rw [if_pos e]
      subst e
      exact (ones j hj).set
    · rw [if_neg e]
      exact (ones j hj).other (fun h => e (nd j i hj hi h))
  · intro a b ha hb he
    rw [hl] at ha hb
    rw [gb, gb] at he
    exact nd a b ha hb he
  · intro j hj
    rw [hl] at hj
    rw [gb]
    exact sep j hj
/-- the one of a number. -/
theorem has_gt {H : List Ent} {id : Nat} (h : H.any (fun x => x.id == id) = true) : ∃ i, i < H.length ∧ (gt H i).id = id := by
  rw [List.any_eq_true] at h
  obtain ⟨x, hx, e⟩ := h
  obtain ⟨i, hi, e2⟩ := mem_gt hx
  exact ⟨i, hi, by rw [e2]; simpa using e⟩
theorem split_perm {H : List Ent} {i : Nat} (hi : i < H.length) (x : Ent) : H.Perm (gt H i :: H.eraseIdx i) ∧ (H.set i x).Perm (x :: H.eraseIdx i) := by
  have h1 : ∀ L : List Ent, (h : i < L.length) → L.Perm (L[i] :: L.eraseIdx i) := fun L h => by
    rw [List.eraseIdx_eq_take_drop_succ]
    have e : L = L.take i ++ (L[i] :: L.drop (i + 1)) := by
      rw [← List.drop_eq_getElem_cons h, List.take_append_drop]
    conv => lhs; rw [e]
    exact List.perm_middle
  refine ⟨by rw [gt_lt hi]; exact h1 H hi, ?_⟩
  have h2 := h1 (H.set i x) (by simpa using hi)
  rw [List.getElem_set_self, List.eraseIdx_set_eq] at h2
  exact h2

theorem map_off {W : World} {mb ba : Nat} {H K : List Ent} {v m most : Value} (h : MapAt W mb K) (q : Q W ba v m most H) : mb ≠ ba ∧ ¬ foot v H mb := by
  obtain ⟨D, ⟨es, clock, hb, _⟩, _⟩ := h
  refine ⟨?_, ?_⟩
  · rintro rfl
    have := q.hd; unfold At at this; rw [hb] at this; cases this
  · rintro (h | ⟨x, hx, rfl⟩)
    · rcases q.row.2 with ⟨h1, h0⟩ | ⟨g, cap, cur, h1, _, hg, _⟩
      · rw [h1] at h; cases h
      · rw [h1] at h
        simp [Value.ownBlock] at h
        subst h
        rw [hb] at hg; cases hg
    · obtain ⟨i, hi, e⟩ := mem_gt hx
      have := q.ones i hi
      rw [e] at this
      unfold At at this; rw [hb] at this; cases this
theorem MapAt.retime {W : World} {mb : Nat} {H : List Ent} (h : MapAt W mb H) {i : Nat} (hi : i < H.length) (t : Nat) : MapAt W mb (H.set i ⟨(gt H i).b, (gt H i).id, t⟩) := by
  obtain ⟨D, h1, h2, h3, h4⟩ := h
  have hp := split_perm hi ⟨(gt H i).b, (gt H i).id, t⟩
  refine ⟨D, by simpa using h1, by simpa using h2, fun id hid => ?_, fun x hx => ?_⟩
  · rw [h3 id hid]
    have e : ∀ L : List Ent, ∀ M : List Ent, L.Perm M → L.any (fun x => x.id == id) = M.any (fun x => x.id == id) := fun L M hLM => by
      rw [Bool.eq_iff_iff, List.any_eq_true, List.any_eq_true]
      exact ⟨fun ⟨x, hx, e⟩ => ⟨x, hLM.mem_iff.1 hx, e⟩, fun ⟨x, hx, e⟩ => ⟨x, hLM.mem_iff.2 hx, e⟩⟩
    rw [e _ _ hp.1, e _ _ hp.2, List.any_cons, List.any_cons]
  · rcases List.mem_cons.1 (hp.2.mem_iff.1 hx) with rfl | hx
    · exact h4 (gt H i) (gt_mem hi)
    · exact h4 x (hp.1.mem_iff.2 (List.mem_cons_of_mem _ hx))
theorem foot_set {v : Value} {H : List Ent} {i : Nat} (hi : i < H.length) (t : Nat) (b : Nat) : foot v (H.set i ⟨(gt H i).b, (gt H i).id, t⟩) b ↔ foot v H b := by
  have hp := split_perm hi ⟨(gt H i).b, (gt H i).id, t⟩
  rw [foot_perm hp.1, foot_perm hp.2]
  unfold foot
  simp
theorem put_old_close {W w1 : World} {ba g c mb id t i : Nat} {F : Nat → Prop} {S : List Al} {most : Int} {H K : List Ent} (a : Alm W ba F S most (some ⟨g, 0, none⟩) c mb H) (hid : id < 18446744073709551616) (ht : t < 18446744073709551616) (hi : i < H.length) (hI : (gt H i).id = id)
    (hperm : K.Perm (H.set i ⟨(gt H i).b, (gt H i).id, t⟩)) (hheap : HeapOn K K.length) (hq : Q w1 ba (.slice (some ⟨g, 0, none⟩) H.length c) (.map (some mb)) (.int .i64 most) K)
    (hT : Touch (foot (.slice (some ⟨g, 0, none⟩) H.length c) (H.set i ⟨(gt H i).b, (gt H i).id, t⟩)) (W.setCell ⟨(gt H i).b, 1, none⟩ (.int .u64 (t : Int))).drew w1) :
    Turns W ba F (putL S id t) most (.int .i64 0) (.returned (.int .i64 0)) w1 := by
  have hp := split_perm hi ⟨(gt H i).b, (gt H i).id, t⟩
  have hlen : K.length = H.length := by rw [hperm.length_eq]; simp
  have hs : S.Perm ((gt H i).key :: (H.eraseIdx i).map Ent.key) := a.perm.trans (hp.1.map Ent.key)
  obtain ⟨d1, d2, d3⟩ := drop_cons hs a.ids
  have hmo := map_off a.map a.q
  have hT2 : Touch (foot (.slice (some ⟨g, 0, none⟩) H.length c) H) W w1 := by
    have h1 : Touch (foot (.slice (some ⟨g, 0, none⟩) H.length c) H) W (W.setCell ⟨(gt H i).b, 1, none⟩ (.int .u64 (t : Int))).drew := ((Touch.refl _ _).set _ (.inl (foot_gt hi))).drew
    exact h1.trans hT (fun b hb => .inl ((foot_set hi t b).1 hb))
  have hfoot : ∀ b, foot (.slice (some ⟨g, 0, none⟩) K.length c) K b → foot (.slice (some ⟨g, 0, none⟩) H.length c) H b := fun b hb => by
    have := (foot_set hi t b).1 ((foot_perm hperm b).1 hb)
    rw [hlen] at this; exact this
  refine ⟨rfl, F, ⟨some ⟨g, 0, none⟩, c, mb, K, ⟨by rw [hlen]; exact hq, hheap, ?_, ((a.map.retime hi t).perm hperm).touch hT2 hmo.2, ⟨a.inF.1, a.inF.2.1, fun b hb => a.inF.2.2 b (hfoot b hb)⟩, fun b hb => Nat.lt_of_lt_of_le (a.lt b hb) hT2.size, put_sorted a.sorted, put_ids a.ids, fits_put a.fits hid ht⟩⟩, hT2.mono (fun b hb => a.inF.2.2 b hb), fun b hb => .inl hb⟩
  have e1 : (gt H i).key.1 = id := hI
  rw [e1] at d1
  have h3 := (hperm.trans hp.2).map Ent.key
  rw [List.map_cons] at h3
  have e2 : (Ent.mk (gt H i).b (gt H i).id t).key = (id, t) := by unfold Ent.key; simp [hI]
  rw [e2] at h3
  exact (put_perm S id t).trans ((d1.cons _).trans h3.symm)

theorem put_old {W : World} {ba : Nat} {F : Nat → Prop} {S : List Al} {most : Int} (h : AlarmAt W ba F S most) {id t : Nat} (hid : id < 18446744073709551616) (ht : t < 18446744073709551616) (hl : S.length < 100000) (hs : hasS S id = true) :
    Calls Try.prog 10 #[apt ba, .int .u64 id, .int .u64 t] W (Turns W ba F (putL S id t) most (.int .i64 0)) := by
  obtain ⟨s, c, mb, H, a⟩ := h
  have hany := a.has id
  rw [hs] at hany
  obtain ⟨i, hi, hidi⟩ := has_gt hany
  have hpos : 0 < H.length := by omega
  obtain ⟨s', c', e, hf⟩ := a.q.form
  injection e with e1 e2 e3
  subst e1
  obtain ⟨g, rfl, hg⟩ := hf hpos
  have c1 : W.cell? ⟨ba, 1, none⟩ = some (.map (some mb)) := by rw [a.q.hd.rd]; rfl
  have hlk := a.map.look (gt_mem hi) (by rw [hidi]; exact hid)
  rw [hidi] at hlk
  have ct : W.cell? ⟨(gt H i).b, 1, none⟩ = some (.int .u64 ((gt H i).time : Int)) := by rw [(a.q.ones i hi).rd]; rfl
  have ft := (a.q.ones i hi).fr 1
  have lt := (a.q.ones i hi).lt
  have q1 := a.q.retime hi t
  have o1 : At (W.setCell ⟨(gt H i).b, 1, none⟩ (.int .u64 (t : Int))) (gt H i).b 60 (one ⟨(gt H i).b, (gt H i).id, t⟩ i) := (a.q.ones i hi).set
  have cp : (W.setCell ⟨(gt H i).b, 1, none⟩ (.int .u64 (t : Int))).cell? ⟨(gt H i).b, 2, none⟩ = some (.int .i64 (i : Int)) := by rw [o1.rd]; rfl
  have hlen : (H.set i ⟨(gt H i).b, (gt H i).id, t⟩).length = H.length := by simp
  have hlS := a.len
  have hhe : HE (H.set i ⟨(gt H i).b, (gt H i).id, t⟩) (H.set i ⟨(gt H i).b, (gt H i).id, t⟩).length i := he_of a.heap (by rw [hlen]; exact Nat.le_refl _) hi (fun k hk hne => by rw [gt_set _ hi, if_neg hne])
  have HFX := Lib.hid (fix_any (W := (W.setCell ⟨(gt H i).b, 1, none⟩ (.int .u64 (t : Int))).drew) (q1.drewN 1) (i := i) (by rw [hlen]; exact hi) (by rw [hlen]; omega) hhe)
  have HA := Lib.hid a
  have HI := Lib.hid hidi
  clear a hany hf e2 e3 q1 o1 hlen hhe hlS
  unfold apt
  unfold ptr at hlk
  unfold hp at HFX
  go_enter Try.func10, Try.ntmps10
  go_wp2_with fail
  obtain ⟨W1, hW1⟩ : ∃ W1, W.setCell ⟨(gt H i).b, 1, none⟩ (.int .u64 (t : Int)) = W1 := ⟨_, rfl⟩
  rw [hW1] at cp HFX ⊢
  have HW := Lib.hid hW1
  clear hW1 ct ft lt hlk c1
  go_region_with (go_at_call 21; refine HFX.out.mono ?_; rintro e w1 ⟨rfl, K, hperm, hheap, hq, hT⟩; have HK := Lib.hid (And.intro hperm (And.intro hheap (And.intro hq hT))); clear hperm hheap hq hT)
  go_wp2_with fail
  go_ret
  obtain ⟨hperm, hheap, hq, hT⟩ := HK.out
  exact put_old_close HA.out hid ht hi HI.out hperm hheap hq (by rw [HW.out]; exact hT)

theorem Alm.drewN {W : World} {ba : Nat} {F : Nat → Prop} {S : List Al} {most : Int} {s : Option Addr} {c mb : Nat} {H : List Ent} (h : Alm W ba F S most s c mb H) (d : Nat) : Alm (W.drewN d) ba F S most s c mb H :=
  ⟨h.q.drewN d, h.heap, h.perm, h.map.touch ((Touch.refl (fun _ => False) W).drewN d) (fun h => h), h.inF, h.lt, h.sorted, h.ids, h.fits⟩
theorem put_full {W : World} {ba : Nat} {F : Nat → Prop} {S : List Al} {most : Int} (h : AlarmAt W ba F S most) {id t : Nat} (hid : id < 18446744073709551616) (hl : S.length < 100000) (hs : hasS S id = false) (hm : most ≤ (S.length : Int)) :
    Calls Try.prog 10 #[apt ba, .int .u64 id, .int .u64 t] W (Turns W ba F S most (.int .i64 8)) := by
  obtain ⟨s, c, mb, H, a⟩ := h
  have hany := a.has id
  rw [hs] at hany
  have c0 : W.cell? ⟨ba, 0, none⟩ = some (.slice s H.length c) := by rw [a.q.hd.rd]; rfl
  have c1 : W.cell? ⟨ba, 1, none⟩ = some (.map (some mb)) := by rw [a.q.hd.rd]; rfl
  have c2 : W.cell? ⟨ba, 2, none⟩ = some (.int .i64 most) := by rw [a.q.hd.rd]; rfl
  have hlk := a.map.look_no hany hid
  have hm2 : decide (most ≤ (H.length : Int)) = true := by rw [decide_eq_true_eq, ← a.len]; exact hm
  have HA := Lib.hid a
  clear a hany
  unfold apt
  go_enter Try.func10, Try.ntmps10
  go_wp2_with fail
  go_quiet (fail)
  go_wp2_with fail
  go_ret
  exact ⟨rfl, F, ⟨s, c, mb, H, HA.out.drewN _⟩, (Touch.refl _ _).drewN _, fun b hb => .inl hb⟩
theorem put_new_close {W Wm w1 : World} {ba g c c' mb id t nx : Nat} {s : Option Addr} {F : Nat → Prop} {S : List Al} {most : Int} {H K : List Ent} (a : Alm W ba F S most s c mb H) (hid : id < 18446744073709551616) (ht : t < 18446744073709551616) (hs : hasS S id = false)
    (hnx : nx = W.heap.size) (hmap : MapAt Wm mb (H ++ [⟨nx, id, t⟩])) (hTm : Touch (fun b => b = mb) (W.alloc (.cells (one ⟨nx, id, t⟩ 0) 60)) Wm)
    (hperm : K.Perm (H ++ [⟨nx, id, t⟩])) (hheap : HeapOn K K.length) (hq : Q w1 ba (.slice (some ⟨g, 0, none⟩) K.length c') (.map (some mb)) (.int .i64 most) K)
    (hT : Touch (fun b => b = ba ∨ b = nx ∨ foot (.slice s H.length c) H b) Wm w1) (hg : (Value.slice s H.length c).ownBlock = some g ∨ Wm.heap.size ≤ g) :
    Turns W ba F (putL S id t) most (.int .i64 0) (.returned (.int .i64 0)) w1 := by
  have hmo := map_off a.map a.q
  have hTw : Touch F W Wm := ((Touch.refl F W).alloc _).trans hTm (fun b hb => .inl (by rw [hb]; exact a.inF.2.1))
  have hsz := hTm.size
  rw [World.size_alloc] at hsz
  have hTT : Touch F W w1 := hTw.trans hT (fun b hb => by
    rcases hb with h | h | h
    · exact .inl (by rw [h]; exact a.inF.1)
    · exact .inr (by omega)
    · exact .inl (a.inF.2.2 b h))
  have hmb := a.map.lt
  have hfoot : ∀ b, foot (.slice (some ⟨g, 0, none⟩) K.length c') K b → (F b ∨ (W.heap.size ≤ b ∧ b < w1.heap.size)) := fun b hb => by
    have hlt : b < w1.heap.size := by
      rcases hb with h | ⟨x, hx, h⟩
      · exact own_lt hq.row h
      · obtain ⟨i, hi, e⟩ := mem_gt hx
        have := (hq.ones i hi).lt
        rw [e, h] at this; exact this
    rcases (foot_perm hperm b).1 hb with h | ⟨x, hx, h⟩
    · simp [Value.ownBlock] at h
      subst h
      rcases hg with h2 | h2
      · exact .inl (a.inF.2.2 g (.inl h2))
      · exact .inr (by omega)
    · rcases List.mem_append.1 hx with hx | hx
      · exact .inl (a.inF.2.2 b (.inr ⟨x, hx, h⟩))
      · simp at hx; subst hx
        simp at h
        exact .inr (by omega)
  refine ⟨rfl, fun b => F b ∨ (W.heap.size ≤ b ∧ b < w1.heap.size), ⟨some ⟨g, 0, none⟩, c', mb, K, ⟨hq, hheap, ?_, ?_, ⟨.inl a.inF.1, .inl a.inF.2.1, hfoot⟩, fun b hb => ?_, put_sorted a.sorted, put_ids a.ids, fits_put a.fits hid ht⟩⟩, hTT, fun b hb => ?_⟩
  · have h3 := hperm.map Ent.key
    rw [List.map_append] at h3
    have h4 := put_perm S id t
    rw [drop_none hs] at h4
    refine h4.trans (((a.perm.cons _)).trans (List.Perm.trans ?_ h3.symm))
    exact (List.perm_append_singleton _ _).symm
  · refine (hmap.perm hperm).touch hT (fun h => ?_)
    rcases h with h | h | h
    · exact hmo.1 h
    · omega
    · exact hmo.2 h
  · rcases hb with h | h
    · exact Nat.lt_of_lt_of_le (a.lt b h) hTT.size
    · exact h.2
  · rcases hb with h | h
    · exact .inl h
    · exact .inr h.1

theorem put_new {W : World} {ba : Nat} {F : Nat → Prop} {S : List Al} {most : Int} (h : AlarmAt W ba F S most) {id t : Nat} (hid : id < 18446744073709551616) (ht : t < 18446744073709551616) (hl : S.length < 100000) (hs : hasS S id = false) (hm : ¬ most ≤ (S.length : Int)) :
    Calls Try.prog 10 #[apt ba, .int .u64 id, .int .u64 t] W (Turns W ba F (putL S id t) most (.int .i64 0)) := by
  obtain ⟨s, c, mb, H, a⟩ := h
  have hany := a.has id
  rw [hs] at hany
  have hlS := a.len
  have c0 : W.cell? ⟨ba, 0, none⟩ = some (.slice s H.length c) := by rw [a.q.hd.rd]; rfl
  have c1 : W.cell? ⟨ba, 1, none⟩ = some (.map (some mb)) := by rw [a.q.hd.rd]; rfl
  have c2 : W.cell? ⟨ba, 2, none⟩ = some (.int .i64 most) := by rw [a.q.hd.rd]; rfl
  have hlk := a.map.look_no hany hid
  have hm2 : decide (most ≤ (H.length : Int)) = false := by rw [decide_eq_false_iff_not, ← a.len]; exact hm
  have HA := Lib.hid a
  have HANY := Lib.hid hany
  have HLS := Lib.hid hlS
  clear a hany hlS
  unfold apt
  go_enter Try.func10, Try.ntmps10
  go_wp2_with fail
  go_quiet (fail)
  clear hlk c0 c2
  have a := HA.out.drewN nq
  have lba : ba < W.heap.size := a.lt ba a.inF.1
  have hsz : (W.drewN nq).heap.size = W.heap.size := rfl
  -- the new one
  have hnew : ∀ b, foot (.slice s H.length c) H b → b < W.heap.size := fun b hb => a.lt b (a.inF.2.2 b hb)
  have T0 : Touch (fun _ => False) (W.drewN nq) ((W.drewN nq).alloc (.cells (one ⟨W.heap.size, id, t⟩ 0) 60)) := (Touch.refl _ _).alloc _
  have q0 := a.q.touch T0 (fun h => h) (fun b _ h => h)
  have m0 := a.map.touch T0 (fun h => h)
  obtain ⟨Wm, hrun, hmap, hTm⟩ := m0.put (x := ⟨W.heap.size, id, t⟩) HANY.out hid (fun y hy => (a.fit y hy).1) (by rw [← HLS.out]; omega)
  have hmo := map_off m0 q0
  have qm := q0.touch hTm (fun h => hmo.1 h.symm) (fun b hb h => hmo.2 (h ▸ hb))
  have on : At Wm W.heap.size 60 (one ⟨W.heap.size, id, t⟩ 0) := (At.new (W.drewN nq) 60 (one ⟨W.heap.size, id, t⟩ 0)).touch hTm (fun h => by have := a.map.lt; omega)
  have HPU := Lib.hid (hpush_any qm (x := ⟨W.heap.size, id, t⟩) (by rw [← HLS.out]; omega) on (show W.heap.size ≠ ba by omega) (fun h => Nat.lt_irrefl _ (hnew _ (.inl h))) (fun i hi (h : (gt H i).b = W.heap.size) => by have := hnew _ (foot_gt hi); omega) a.heap)
  have cm : Wm.cell? ⟨ba, 1, none⟩ = some (.map (some mb)) := by rw [qm.hd.rd]; rfl
  have c1m : ((W.drewN nq).alloc (.cells (one ⟨W.heap.size, id, t⟩ 0) 60)).cell? ⟨ba, 1, none⟩ = some (.map (some mb)) := by rw [q0.hd.rd]; rfl
  have HM := Lib.hid (And.intro hmap hTm)
  clear hnew T0 q0 m0 hmap hTm hmo qm on a hsz
  unfold one ptr at hrun
  unfold one at c1m
  have h00 : ((0 : Nat) : Int) = 0 := rfl
  rw [h00] at hrun c1m
  clear h00
  unfold hp ptr at HPU
  go_wp2_with fail
  refine HPU.out.mono ?_
  rintro e w1 ⟨rfl, g, c', K, hperm, hheap, hq, hT, hg⟩
  have HK := Lib.hid (And.intro hperm (And.intro hheap (And.intro hq (And.intro hT hg))))
  clear hperm hheap hq hT hg HPU hrun cm c1m
  go_wp2_with fail
  go_ret
  obtain ⟨hperm, hheap, hq, hT, hg⟩ := HK.out
  obtain ⟨_, F1, ho, hT2, hF⟩ := put_new_close (HA.out.drewN nq) hid ht hs rfl HM.out.1 HM.out.2 hperm hheap hq hT hg
  exact ⟨rfl, F1, ho, ⟨hT2.os, hT2.tape, hT2.output, hT2.size, hT2.block⟩, hF⟩
end Go.Proofs.Ytjdeejbpkdgohaa
