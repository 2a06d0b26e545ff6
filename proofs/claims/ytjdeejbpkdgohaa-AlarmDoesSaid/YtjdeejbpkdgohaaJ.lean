/- Put in one; Drop. -/
import Derived.Test.YtjdeejbpkdgohaaI
namespace Go.Proofs.Ytjdeejbpkdgohaa
open Go.RowKit Go.Maps
set_option maxHeartbeats 1000000
set_option maxRecDepth 100000
set_option linter.unusedVariables false

def putE (S : List Al) (most : Int) (id : Nat) : Int := if hasS S id then 0 else if most ≤ (S.length : Int) then 8 else 0
def putS (S : List Al) (most : Int) (id t : Nat) : List Al := if hasS S id then putL S id t else if most ≤ (S.length : Int) then S else putL S id t
theorem put_al {W : World} {ba : Nat} {F : Nat → Prop} {S : List Al} {most : Int} (h : AlarmAt W ba F S most) {id t : Nat} (hid : id < 18446744073709551616) (ht : t < 18446744073709551616) (hl : S.length < 100000) :
    Calls Try.prog 10 #[apt ba, .int .u64 id, .int .u64 t] W (Turns W ba F (putS S most id t) most (.int .i64 (putE S most id))) := by
  unfold putS putE
  cases hs : hasS S id
  · by_cases hm : most ≤ (S.length : Int)
    · simp only [Bool.false_eq_true, if_false, if_pos hm]
      exact put_full h hid hl hs hm
    · simp only [Bool.false_eq_true, if_false, if_neg hm]
      exact put_new h hid ht hl hs hm
  · simp only [if_true]
    exact put_old h hid ht hl hs

theorem rem_map {W : World} {mb : Nat} {H : List Ent} {i : Nat} (hi : i < H.length) (h : MapAt W mb H) : MapAt W mb (gt H i :: H.eraseIdx i) := h.perm (split_perm hi (gt H i)).1.symm
/-- Pop and Remove, seen from the alarms. -/
theorem rem_al {W Wm w1 : World} {ba g c mb : Nat} {F : Nat → Prop} {S : List Al} {most : Int} {H K : List Ent} {i : Nat} (a : Alm W ba F S most (some ⟨g, 0, none⟩) c mb H) (hi : i < H.length)
    (hperm : (gt H i :: K).Perm H) (hheap : HeapOn K K.length) (hq : Q w1 ba (.slice (some ⟨g, 0, none⟩) K.length c) (.map (some mb)) (.int .i64 most) K) (hmap : MapAt w1 mb K) (hT : Touch F W w1) :
    AlarmAt w1 ba F (dropS S (gt H i).id) most := by
  have hs : S.Perm ((gt H i).key :: K.map Ent.key) := a.perm.trans ((hperm.map Ent.key).symm)
  obtain ⟨d1, d2, d3⟩ := drop_cons hs a.ids
  refine ⟨some ⟨g, 0, none⟩, c, mb, K, hq, hheap, d1, hmap, ⟨a.inF.1, a.inF.2.1, fun b hb => a.inF.2.2 b ?_⟩, fun b hb => Nat.lt_of_lt_of_le (a.lt b hb) hT.size, sorted_filter _ a.sorted, ids_filter _ a.ids, fits_drop a.fits⟩
  rcases hb with h | ⟨x, hx, h⟩
  · exact .inl h
  · exact .inr ⟨x, hperm.mem_iff.1 (List.mem_cons_of_mem _ hx), h⟩
theorem any_not {H K : List Ent} {x : Ent} {S : List Al} (hperm : (x :: K).Perm H) (hp : S.Perm (H.map Ent.key)) (hi : Ids S) : K.any (fun y => y.id == x.id) = false := by
  have hs : S.Perm (x.key :: K.map Ent.key) := hp.trans ((hperm.map Ent.key).symm)
  obtain ⟨d1, d2, d3⟩ := drop_cons hs hi
  unfold hasS at d3
  rw [List.any_map] at d3
  exact d3

theorem drop_no {W : World} {ba : Nat} {F : Nat → Prop} {S : List Al} {most : Int} (h : AlarmAt W ba F S most) {id : Nat} (hid : id < 18446744073709551616) (hs : hasS S id = false) :
    Calls Try.prog 12 #[apt ba, .int .u64 id] W (Turns W ba F S most (.bool false)) := by
  have h0 := h
  obtain ⟨s, c, mb, H, a⟩ := h
  have hany := a.has id
  rw [hs] at hany
  have c1 : W.cell? ⟨ba, 1, none⟩ = some (.map (some mb)) := by rw [a.q.hd.rd]; rfl
  have hlk := a.map.look_no hany hid
  have HA := Lib.hid h0
  clear a hany h0
  unfold apt
  go_enter Try.func12, Try.ntmps12
  go_wp2_with fail
  go_ret
  exact ⟨rfl, F, HA.out, Touch.refl _ _, fun b hb => .inl hb⟩
theorem drop_yes {W : World} {ba : Nat} {F : Nat → Prop} {S : List Al} {most : Int} (h : AlarmAt W ba F S most) {id : Nat} (hid : id < 18446744073709551616) (hl : S.length < 100000) (hs : hasS S id = true) :
    Calls Try.prog 12 #[apt ba, .int .u64 id] W (Turns W ba F (dropS S id) most (.bool true)) := by
  obtain ⟨s, c, mb, H, a⟩ := h
  have hany := a.has id
  rw [hs] at hany
  obtain ⟨i, hi, hidi⟩ := has_gt hany
  have hlS := a.len
  obtain ⟨s', c', e, hf⟩ := a.q.form
  injection e with e1 e2 e3
  subst e1
  obtain ⟨g, rfl, hg⟩ := hf (by omega)
  have c1 : W.cell? ⟨ba, 1, none⟩ = some (.map (some mb)) := by rw [a.q.hd.rd]; rfl
  have hlk := a.map.look (gt_mem hi) (by rw [hidi]; exact hid)
  have hsp := split_perm hi (gt H i)
  have hmo := map_off a.map a.q
  obtain ⟨Wm, hrun, hmap, hTm⟩ := (rem_map hi a.map).del (any_not hsp.1.symm a.perm a.ids) (by rw [hidi]; exact hid) 0
  rw [hidi] at hlk hrun
  have qm := a.q.touch hTm (fun h => hmo.1 h.symm) (fun b hb h => hmo.2 (h ▸ hb))
  have cp : Wm.cell? ⟨(gt H i).b, 2, none⟩ = some (.int .i64 (i : Int)) := by rw [(qm.ones i hi).rd]; rfl
  obtain ⟨n, hn⟩ : ∃ n, H.length = n + 1 := ⟨H.length - 1, by omega⟩
  have hcap : n + 1 ≤ c := by
    rcases qm.row.2 with ⟨h', _⟩ | ⟨g', cap', cur, h', _, _, hnc, _⟩
    · simp at h'
    · injection h' with _ _ h3; omega
  have qd := qm.drewN 1
  rw [hn] at qd
  have HR := Lib.hid (hrem_any (W := Wm.drew) qd hi (by omega) hcap a.heap)
  have HA := Lib.hid a
  have HI := Lib.hid hidi
  have HM := Lib.hid (And.intro hmap hTm)
  have HQ := Lib.hid qm
  clear a hany hlS hf e2 e3 hsp hmo hmap hTm qm qd hn hcap
  unfold apt
  unfold ptr at hlk
  unfold hp at HR
  go_enter Try.func12, Try.ntmps12
  go_wp2_with fail
  clear hrun hlk c1
  go_region_with (go_at_call 24; refine HR.out.mono ?_; rintro e w1 ⟨rfl, K, hperm, hheap, hq, hT, hone⟩; have HK := Lib.hid (And.intro hperm (And.intro hheap (And.intro hq hT))); clear hperm hheap hq hT hone)
  go_wp2_with fail
  go_ret
  obtain ⟨hperm, hheap, hq, hT⟩ := HK.out
  have a := HA.out
  have hmo := map_off a.map a.q
  have hpk : (gt H i :: K).Perm (gt H i :: H.eraseIdx i) := hperm.trans (split_perm hi (gt H i)).1
  have hT2 : Touch F W w1 := (HM.out.2.mono (fun b hb => by rw [hb]; exact a.inF.2.1)).trans (a := W) (b := Wm) ⟨hT.os, hT.tape, hT.output, hT.size, hT.block⟩ (fun b hb => by
    rcases hb with h | h
    · exact .inl (by rw [h]; exact a.inF.1)
    · exact .inl (a.inF.2.2 b h))
  have hm2 : MapAt w1 mb K := (HM.out.1.perm (List.Perm.cons_inv hpk)).touch (W := Wm) ⟨hT.os, hT.tape, hT.output, hT.size, hT.block⟩ (fun h => by
    rcases h with h | h
    · exact hmo.1 h
    · exact hmo.2 h)
  refine ⟨rfl, F, ?_, hT2, fun b hb => .inl hb⟩
  have := rem_al (Wm := Wm) a hi hperm hheap hq hm2 hT2
  rw [HI.out] at this
  exact this
theorem drop_al {W : World} {ba : Nat} {F : Nat → Prop} {S : List Al} {most : Int} (h : AlarmAt W ba F S most) {id : Nat} (hid : id < 18446744073709551616) (hl : S.length < 100000) :
    Calls Try.prog 12 #[apt ba, .int .u64 id] W (Turns W ba F (dropS S id) most (.bool (hasS S id))) := by
  cases hs : hasS S id
  · rw [drop_none hs]; exact drop_no h hid hs
  · exact drop_yes h hid hl hs
end Go.Proofs.Ytjdeejbpkdgohaa
