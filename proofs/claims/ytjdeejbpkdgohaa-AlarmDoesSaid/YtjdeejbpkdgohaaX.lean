/- The document's Drop, walked. -/
import Derived.Test.YtjdeejbpkdgohaaW
namespace Go.Proofs.Ytjdeejbpkdgohaa
open Go.RowKit Go.Maps
set_option maxHeartbeats 2000000
set_option maxRecDepth 100000
set_option linter.unusedVariables false

theorem rdrop_no {W : World} {br : Nat} {G : Nat → Prop} {S : List Al} {most : Int} (h : RefAt W br G S most) {id : Nat} (hl : S.length < 1000000) (hs : hasS S id = false) :
    Calls Try.prog 13 #[apt br, .int .u64 id] W (RTurns W br G S most (.bool false)) := by
  have HR := Lib.hid h
  have HP := Lib.hid (place_any h id hl)
  have HS := Lib.hid hs
  clear h hs
  unfold apt at HP ⊢
  go_enter Try.func13, Try.ntmps13
  go_wp2_with fail
  refine HP.out.mono ?_
  rintro e _ ⟨⟨r, rfl, hr⟩, rfl⟩
  have hr1 : r = -1 := by
    rcases hr with h | ⟨k, hk, rfl, h⟩
    · exact h.2
    · have := has_mem.2 ⟨S[k], List.getElem_mem _, h⟩
      rw [HS.out] at this; cases this
  have hr2 : r < 0 := by omega
  clear hr1 hr
  go_wp2_with fail
  go_ret
  exact ⟨rfl, G, HR.out, Touch.refl _ _, fun b hb => .inl hb⟩
theorem rdrop_yes {W : World} {br : Nat} {G : Nat → Prop} {S : List Al} {most : Int} (h : RefAt W br G S most) {id : Nat} (hl : S.length < 1000000) (hi : Ids S) (hs : hasS S id = true) :
    Calls Try.prog 13 #[apt br, .int .u64 id] W (RTurns W br G (dropS S id) most (.bool true)) := by
  have HR := Lib.hid h
  have HP := Lib.hid (place_any h id hl)
  have HS := Lib.hid hs
  obtain ⟨i0, hi0, hi1, hi2, hi3⟩ := info_parts infoO
  obtain ⟨a, c, h1, h2, h3, h4, h5, h6⟩ := h
  have cr0 : W.cell? ⟨br, 0, none⟩ = some (.slice a S.length c) := by rw [h1.rd]; rfl
  have hbr := h1.lt
  have fr0 := h1.fr 0
  have H1 := Lib.hid h1
  have H2 := Lib.hid h2
  have H5 := Lib.hid (And.intro h5 h6)
  have HGB := Lib.hid h4
  have HI := Lib.hid hi
  clear hs h1 h2 h4 h5 h6 hi
  unfold apt at HP ⊢
  go_enter Try.func13, Try.ntmps13
  go_wp2_with fail
  refine HP.out.mono ?_
  rintro e _ ⟨⟨r, rfl, hr⟩, rfl⟩
  obtain ⟨k, hk, hrk, hkid⟩ : ∃ k : Nat, ∃ h : k < S.length, r = k ∧ S[k].1 = id := by
    rcases hr with h | h
    · rw [HS.out] at h; cases h.1
    · exact h
  obtain ⟨g, off, rfl, hg, x1, x2⟩ := H2.out k hk
  subst hrk
  obtain ⟨hgG, hgb⟩ : G g ∧ g ≠ br := (H5.out.1 _ rfl)
  have hd := drop_at hk HI.out
  rw [hkid] at hd
  have HD := Lib.hid hd
  have HG := Lib.hid (And.intro hgG hgb)
  have hkn : ¬ (k : Int) < 0 := by omega
  have hk0 : (0 : Int) ≤ (k : Int) := by omega
  obtain ⟨n, hn⟩ : ∃ n, S.length = n := ⟨_, rfl⟩
  have hk' : k < n := by omega
  have hn6 : n < 1000000 := by omega
  rw [hn] at cr0 h3
  have hkc : (k : Int) ≤ (c : Int) := by omega
  have hkn1 : (k : Int) + 1 ≤ (n : Int) := by omega
  have hnc : (n : Int) ≤ (c : Int) := by omega
  have hw1 : IntKind.i64.wrap ((k : Int) + 1) = ((k + 1 : Nat) : Int) := IntWalk.i64_in _ (by omega)
  have HN := Lib.hid hn
  clear x1 x2 hr hkid hgG hgb hn hd hk
  have HW1 := Lib.hid (show (W.alloc (.cells #[] 66)).ownsRow W.heap.size 66 2 (.slice (some ⟨W.heap.size, 0, none⟩) 0 0) 0 [] from ⟨rfl, .inr ⟨W.heap.size, 0, #[], rfl, Nat.le_refl _, heap_alloc_new W _, Nat.le_refl _, Nat.zero_le _, rfl, rfl⟩⟩)
  have b1 : Below W.heap.size W (W.alloc (.cells #[] 66)) := (Below.refl _ _).alloc (Nat.le_refl _) _
  have HA1 := Lib.hid ((H2.out.touch (below_touch b1) (fun _ _ h => h)).take k).cells
  have HA0 := Lib.hid (show (els (S.take k)).length = k * 2 by rw [els_len, List.length_take, HN.out, Nat.min_eq_left (Nat.le_of_lt hk')])
  clear b1
  by_cases hcc : c = k + 1
  · subst hcc
    have hd0 : S.drop (k + 1) = [] := List.drop_eq_nil_of_le (by rw [HN.out]; omega)
    have HD0 := Lib.hid hd0
    clear hd0
    go_wp2_with (at_builtin; first | (refine wpList_append_own_at _ rfl _ _ _ rfl W.heap.size 66 i0 (.agg #[.int .u64 0, .int .u64 0]) 2 16 Try.underlying26 hi0 hi1 hi2 hi3 rfl (by decide) (.slice (some ⟨W.heap.size, 0, none⟩) 0 0) 0 [] rfl HW1.out ⟨g, off, none⟩ k _ (els (S.take k)) rfl HA0.out HA1.out (els_one _) (by unfold maxLen; omega) (by omega) (by simp) ?_; intro v1 w1 hown1 hgrow1 hnil1 hat1; have hgr : (W.alloc (.cells #[] 66)).grownBy w1 (some W.heap.size) := hgrow1; have hT1 : Touch (fun _ => False) W w1 := ((Touch.refl (fun _ => False) W).alloc (.cells #[] 66)).grown hgr (fun j hj => .inr (by injection hj with hj; omega)); have cr1 := H1.out.touch hT1 (fun h => h); have cr10 : w1.cell? ⟨br, 0, none⟩ = some (.slice (some ⟨g, off, none⟩) n (k + 1)) := (by rw [cr1.rd, HN.out]; rfl); have hb1 : W.heap.size ≤ w1.heap.size := hT1.size; have HX1 := Lib.hid hown1; have HB1 := Lib.hid ((H2.out.touch hT1 (fun _ _ h => h)).drop (k + 1)).cells; have HCR := Lib.hid cr1; have HT1 := Lib.hid hT1; clear hown1 hgrow1 hnil1 hat1 hT1 cr1 hgr) | (refine wpList_append_own_at _ rfl _ _ _ rfl W.heap.size 66 i0 (.agg #[.int .u64 0, .int .u64 0]) 2 16 Try.underlying26 hi0 hi1 hi2 hi3 rfl (by decide) v1 (0 + k) _ rfl HX1.out ⟨g, off, none⟩ 0 _ (els []) rfl rfl (fun j u hu => by cases hu) (els_one _) (by unfold maxLen; omega) (by omega) hb1 ?_; intro v2 w2 hown2 hgrow2 hnil2 hat2; obtain ⟨a2, c2, hv2, hf2⟩ := row_form hown2; subst hv2; have hT2 : Touch (fun _ => False) W w2 := HT1.out.grown hgrow2 (fun j hj => .inr (HX1.out.lt j hj).1); have cr2 := H1.out.touch hT2 (fun h => h); have cr20 : w2.cell? ⟨br, 0, none⟩ = some (.slice (some ⟨g, off, none⟩) n (k + 1)) := (by rw [cr2.rd, HN.out]; rfl); have fr2 := cr2.fr 0; have lt2 := cr2.lt; have HX2 := Lib.hid hown2; have HT2 := Lib.hid hT2; have HC2 := Lib.hid cr2; clear hf2 hown2 hgrow2 hnil2 hat2 hT2 cr2))
    go_wp2_with fail
    go_ret
    refine ⟨rfl, ref_close (n := 0 + k + 0) HC2.out hbr HGB.out (HT2.out.mono (fun _ h => h.elim)) ?_ ?_⟩
    · have h := HX2.out
      simp only [Nat.zero_add, Nat.add_zero, List.nil_append] at h ⊢
      rw [HD.out, els_app]
      rw [HD0.out]; exact h
    · rw [HD.out, List.length_append, List.length_take, List.length_drop, HN.out]; omega
  · have hcc' : ¬ (c : Int) = (k : Int) + 1 := by omega
    go_wp2_with (at_builtin; first | (refine wpList_append_own_at _ rfl _ _ _ rfl W.heap.size 66 i0 (.agg #[.int .u64 0, .int .u64 0]) 2 16 Try.underlying26 hi0 hi1 hi2 hi3 rfl (by decide) (.slice (some ⟨W.heap.size, 0, none⟩) 0 0) 0 [] rfl HW1.out ⟨g, off, none⟩ k _ (els (S.take k)) rfl HA0.out HA1.out (els_one _) (by unfold maxLen; omega) (by omega) (by simp) ?_; intro v1 w1 hown1 hgrow1 hnil1 hat1; have hgr : (W.alloc (.cells #[] 66)).grownBy w1 (some W.heap.size) := hgrow1; have hT1 : Touch (fun _ => False) W w1 := ((Touch.refl (fun _ => False) W).alloc (.cells #[] 66)).grown hgr (fun j hj => .inr (by injection hj with hj; omega)); have cr1 := H1.out.touch hT1 (fun h => h); have cr10 : w1.cell? ⟨br, 0, none⟩ = some (.slice (some ⟨g, off, none⟩) n (c)) := (by rw [cr1.rd, HN.out]; rfl); have hb1 : W.heap.size ≤ w1.heap.size := hT1.size; have HX1 := Lib.hid hown1; have HB1 := Lib.hid ((H2.out.touch hT1 (fun _ _ h => h)).drop (k + 1)).cells; have HCR := Lib.hid cr1; have HT1 := Lib.hid hT1; clear hown1 hgrow1 hnil1 hat1 hT1 cr1 hgr) | (refine wpList_append_own_at _ rfl _ _ _ rfl W.heap.size 66 i0 (.agg #[.int .u64 0, .int .u64 0]) 2 16 Try.underlying26 hi0 hi1 hi2 hi3 rfl (by decide) v1 (0 + k) _ rfl HX1.out ⟨g, off + (k + 1) * 2, none⟩ (n - (k + 1)) _ (els (S.drop (k + 1))) rfl (by rw [els_len, List.length_drop, HN.out]) HB1.out (els_one _) (by unfold maxLen; omega) (by omega) hb1 ?_; intro v2 w2 hown2 hgrow2 hnil2 hat2; obtain ⟨a2, c2, hv2, hf2⟩ := row_form hown2; subst hv2; have hT2 : Touch (fun _ => False) W w2 := HT1.out.grown hgrow2 (fun j hj => .inr (HX1.out.lt j hj).1); have cr2 := H1.out.touch hT2 (fun h => h); have cr20 : w2.cell? ⟨br, 0, none⟩ = some (.slice (some ⟨g, off, none⟩) n (c)) := (by rw [cr2.rd, HN.out]; rfl); have fr2 := cr2.fr 0; have lt2 := cr2.lt; have HX2 := Lib.hid hown2; have HT2 := Lib.hid hT2; have HC2 := Lib.hid cr2; clear hf2 hown2 hgrow2 hnil2 hat2 hT2 cr2))
    go_wp2_with fail
    go_ret
    refine ⟨rfl, ref_close (n := 0 + k + (n - (k + 1))) HC2.out hbr HGB.out (HT2.out.mono (fun _ h => h.elim)) ?_ ?_⟩
    · have h := HX2.out
      simp only [Nat.zero_add, Nat.add_zero, List.nil_append] at h ⊢
      rw [HD.out, els_app]
      exact h
    · rw [HD.out, List.length_append, List.length_take, List.length_drop, HN.out]; omega
theorem rdrop_any {W : World} {br : Nat} {G : Nat → Prop} {S : List Al} {most : Int} (h : RefAt W br G S most) {id : Nat} (hl : S.length < 1000000) (hi : Ids S) :
    Calls Try.prog 13 #[apt br, .int .u64 id] W (RTurns W br G (dropS S id) most (.bool (hasS S id))) := by
  cases hs : hasS S id
  · rw [drop_none hs]; exact rdrop_no h hl hs
  · exact rdrop_yes h hl hi hs
end Go.Proofs.Ytjdeejbpkdgohaa
