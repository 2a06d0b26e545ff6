/- The document's Due. -/
import Derived.Test.YtjdeejbpkdgohaaY
namespace Go.Proofs.Ytjdeejbpkdgohaa
open Go.RowKit Go.Maps
set_option maxHeartbeats 4000000
set_option maxRecDepth 100000
set_option linter.unusedVariables false

/-- what the document's Due leaves: its numbers in a row of its own. -/
def RDue (W : World) (br : Nat) (G : Nat → Prop) (S : List Al) (most : Int) (now : Nat) (e : Ending) (w' : World) : Prop :=
  ∃ v, e = .returned v ∧ w'.ownsRow W.heap.size 29 1 v (idsOf (dueL S now)).length (u64s (idsOf (dueL S now))) ∧ RefAt w' br G (restL S now) most ∧ Touch (fun b => b = br) W w'
/-- the list less its first one is stored. -/
theorem ref_tail {w5 : World} {br : Nat} {G : Nat → Prop} {x : Al} {R : List Al} {most : Int} {a a2 : Option Addr} {c c2 : Nat} {u : Value} (h1 : At w5 br 28 #[u, .int .i64 most]) (h2 : Row2 w5 a2 R) (h3 : R.length ≤ c2) (h4 : G br) (h5 : ∀ x, a2 = some x → G x.block ∧ x.block ≠ br) (h6 : ∀ b, G b → b < w5.heap.size) :
    RefAt (w5.setCell ⟨br, 0, none⟩ (.slice a2 R.length c2)) br G R most := by
  refine ⟨a2, c2, h1.set (o := 0) (v := .slice a2 R.length c2), h2.touch ((Touch.refl (fun b => b = br) w5).set _ (.inl rfl)) (fun y hy e => (h5 y hy).2 e), h3, h4, h5, fun b hb => ?_⟩
  have hs : (w5.setCell ⟨br, 0, none⟩ (.slice a2 R.length c2)).heap.size = w5.heap.size := by simp [World.setCell]
  rw [hs]; exact h6 b hb
theorem rdue_any {W : World} {br : Nat} {G : Nat → Prop} {S : List Al} {most : Int} (h : RefAt W br G S most) {now : Nat} (hl : S.length < 900000) :
    Calls Try.prog 16 #[apt br, .int .u64 now] W (RDue W br G S most now) := by
  obtain ⟨i0, hi0, hi1, hi2, hi3⟩ := info_parts infoU
  have hGW := h.lt
  have HGW := Lib.hid hGW
  clear hGW
  unfold apt
  go_enter Try.func16, Try.ntmps16
  go_wp2_with fail
  go_loopw [5] (fun v wr => ∃ (T R : List Al) (ga q ca : Nat), v = .slice (some ⟨ga, 0, none⟩) q ca ∧ dueL S now = T ++ dueL R now ∧ restL S now = restL R now ∧ R.length + q = S.length ∧ T.length = q ∧ RefAt wr br G R most ∧ wr.ownsRow W.heap.size 29 1 (.slice (some ⟨ga, 0, none⟩) q ca) q (u64s (idsOf T)) ∧ Touch (fun b => b = br) W wr) (fun v _ => 900000 - slen v)
  case atStart => exact ⟨[], S, W.heap.size, 0, 0, rfl, rfl, rfl, rfl, rfl, h.below ((Below.refl _ _).alloc (Nat.le_refl _) _), ⟨rfl, .inr ⟨W.heap.size, 0, #[], rfl, Nat.le_refl _, heap_alloc_new W _, Nat.le_refl _, Nat.zero_le _, rfl, rfl⟩⟩, (Touch.refl _ W).alloc _⟩
  case round =>
    clear h
    obtain ⟨T, R, ga, q, ca, rfl, e1, e2, e3, e4, hR, hown, hT⟩ := hrel
    have HE := Lib.hid (And.intro e1 (And.intro e2 e4))
    have HO := Lib.hid hown
    have HT := Lib.hid hT
    have HR := Lib.hid hR
    have hszW := hT.size
    obtain ⟨a, c, h1, h2, h3, h4, h5, h6⟩ := hR
    have cw0 : wr.cell? ⟨br, 0, none⟩ = some (.slice a R.length c) := by rw [h1.rd]; rfl
    have H1 := Lib.hid h1
    have H2 := Lib.hid h2
    have H5 := Lib.hid (And.intro h4 (And.intro h5 h6))
    clear e1 e2 e4 hown hT h1 h2 h4 h5 h6
    cases R with
    | nil =>
      go_wp2_with fail
      go_ret
      have hE := HE.out
      refine ⟨_, rfl, ?_, by rw [hE.2.1]; exact HR.out, HT.out⟩
      rw [hE.1, due_nil now |>.1, List.append_nil]
      have : (idsOf T).length = q := by unfold idsOf; rw [List.length_map]; exact hE.2.2
      rw [this]; exact HO.out
    | cons x R =>
      obtain ⟨g, off, rfl, hg, y0, y1⟩ := H2.out 0 (by simp)
      have y0' : wr.cell? ⟨g, off, none⟩ = some (.int .u64 (x.1 : Int)) := y0
      have y1' : wr.cell? ⟨g, off + 1, none⟩ = some (.int .u64 (x.2 : Int)) := y1
      obtain ⟨n, hn⟩ : ∃ n, R.length = n := ⟨_, rfl⟩
      have hn2 : (x :: R).length = n + 1 := by rw [List.length_cons, hn]
      rw [hn2] at cw0 h3 e3
      have HN := Lib.hid hn
      have HG := Lib.hid (H5.out.2.1 _ rfl)
      obtain ⟨xi, xt⟩ := x
      simp only at y0' y1'
      clear y0 y1 hn
      by_cases hxt : xt ≤ now
      · as_aux_lemma =>
        have hdu := due_cons (S := R) (x := (xi, xt)) hxt
        have HE2 := Lib.hid (show dueL S now = (T ++ [(xi, xt)]) ++ dueL R now ∧ restL S now = restL R now from ⟨by rw [HE.out.1, hdu.1, List.append_assoc]; rfl, by rw [HE.out.2.1, hdu.2]⟩)
        have HO2 := Lib.hid (show (wr.alloc (.cells #[.int .u64 (xi : Int)] 29)).ownsRow W.heap.size 29 1 (.slice (some ⟨ga, 0, none⟩) q ca) q (u64s (idsOf T)) from HO.out.alloc _)
        clear hdu hn2
        have hc1 : c = 1 ∨ c ≠ 1 := by omega
        rcases hc1 with hc1 | hc1
        · subst hc1
          obtain rfl : n = 0 := by omega
          go_wp2_with (at_builtin; refine wpList_append_lies _ rfl _ _ _ rfl W.heap.size 29 i0 (.int .u64 0) 1 8 Try.underlying35 hi0 hi1 hi2 hi3 rfl (by decide) (.slice (some ⟨ga, 0, none⟩) q ca) q (u64s (idsOf T)) rfl HO2.out ⟨wr.heap.size, 0, none⟩ 1 1 [.int .u64 (xi : Int)] rfl rfl (World.news_of_block (B := wr.heap.size) (cs := #[.int .u64 (xi : Int)]) (t := 29) (fr := (0, 0)) (news1 rfl)) (by simp [Value.oneCell']) (by omega) (by unfold maxLen; omega) (by omega) (by simp; omega) (wr.heap.size + 1) (by simp) ?_; intro ge cq w5 hown5 hgrow5 hat5 hlt5; have HO5 := Lib.hid hown5; have hT5 : Touch (fun j => W.heap.size ≤ j) wr w5 := ((Touch.refl (fun j => W.heap.size ≤ j) wr).alloc _).grown hgrow5 (fun j hj => .inl (HO2.out.lt j hj).1); have h15 := H1.out.touch hT5 (fun h => by have := HGW.out br H5.out.1; omega); have cz : w5.cell? ⟨br, 0, none⟩ = some (.slice (some ⟨g, off, none⟩) (0 + 1) 1) := (by rw [h15.rd, List.length_cons, HN.out]; rfl); have fz := h15.fr 0; have lz := h15.lt; have HR5 := Lib.hid (H2.out.touch hT5 (fun y hy h => by injection hy with hy; subst hy; have := HGW.out g HG.out.1; exact absurd h (by show ¬ W.heap.size ≤ g; omega))); have H15 := Lib.hid h15; have HT5 := Lib.hid hT5; clear hown5 hgrow5 hat5 hlt5 hT5 h15)
          have h5' := H5.out
          have hRt := ref_tail (x := (xi, xt)) (a := none) (c := 0) H15.out (a2 := some ⟨g, off, none⟩) (R := R) ((fun k hk => absurd hk (by rw [HN.out]; omega))) (by have := HN.out; omega) h5'.1 (fun y hy => by injection hy with hy; subst hy; exact HG.out) (fun b hb => Nat.lt_of_lt_of_le (h5'.2.2 b hb) HT5.out.size) (c2 := 0)
          rw [HN.out] at hRt
          have HRT := Lib.hid hRt
          clear hRt h5'
          go_roundw
          case rel => exact ⟨T ++ [(xi, xt)], R, ge, q + 1, cq, rfl, HE2.out.1, HE2.out.2, by have := HN.out; omega, by rw [List.length_append, HE.out.2.2]; rfl, HRT.out, by
            have e : idsOf (T ++ [(xi, xt)]) = idsOf T ++ [xi] := by unfold idsOf; rw [List.map_append]; rfl
            rw [e, u64s_app]
            have h := HO5.out
            exact owns_touch h ((Touch.refl (fun b => b = br) w5).set _ (.inl rfl)) (fun b hb e => by subst e; have := (h.lt _ hb).1; have := HGW.out _ H5.out.1; omega), (HT.out.trans HT5.out (fun j hj => .inr hj)).set _ (.inl rfl)⟩
          case measure => (rw [slen_mk, slen_mk]; omega)
        · have hc2 : ¬ (c : Int) = 1 := by omega
          go_wp2_with (at_builtin; refine wpList_append_lies _ rfl _ _ _ rfl W.heap.size 29 i0 (.int .u64 0) 1 8 Try.underlying35 hi0 hi1 hi2 hi3 rfl (by decide) (.slice (some ⟨ga, 0, none⟩) q ca) q (u64s (idsOf T)) rfl HO2.out ⟨wr.heap.size, 0, none⟩ 1 1 [.int .u64 (xi : Int)] rfl rfl (World.news_of_block (B := wr.heap.size) (cs := #[.int .u64 (xi : Int)]) (t := 29) (fr := (0, 0)) (news1 rfl)) (by simp [Value.oneCell']) (by omega) (by unfold maxLen; omega) (by omega) (by simp; omega) (wr.heap.size + 1) (by simp) ?_; intro ge cq w5 hown5 hgrow5 hat5 hlt5; have HO5 := Lib.hid hown5; have hT5 : Touch (fun j => W.heap.size ≤ j) wr w5 := ((Touch.refl (fun j => W.heap.size ≤ j) wr).alloc _).grown hgrow5 (fun j hj => .inl (HO2.out.lt j hj).1); have h15 := H1.out.touch hT5 (fun h => by have := HGW.out br H5.out.1; omega); have cz : w5.cell? ⟨br, 0, none⟩ = some (.slice (some ⟨g, off, none⟩) (n + 1) c) := (by rw [h15.rd, List.length_cons, HN.out]; rfl); have fz := h15.fr 0; have lz := h15.lt; have HR5 := Lib.hid (H2.out.touch hT5 (fun y hy h => by injection hy with hy; subst hy; have := HGW.out g HG.out.1; exact absurd h (by show ¬ W.heap.size ≤ g; omega))); have H15 := Lib.hid h15; have HT5 := Lib.hid hT5; clear hown5 hgrow5 hat5 hlt5 hT5 h15)
          have h5' := H5.out
          have hRt := ref_tail (x := (xi, xt)) (a := none) (c := 0) H15.out (a2 := some ⟨g, off + 1 * 2, none⟩) (R := R) ((HR5.out.drop 1)) (by have := HN.out; omega) h5'.1 (fun y hy => by injection hy with hy; subst hy; exact HG.out) (fun b hb => Nat.lt_of_lt_of_le (h5'.2.2 b hb) HT5.out.size) (c2 := c - 1)
          rw [HN.out] at hRt
          have HRT := Lib.hid hRt
          clear hRt h5'
          go_roundw
          case rel => exact ⟨T ++ [(xi, xt)], R, ge, q + 1, cq, rfl, HE2.out.1, HE2.out.2, by have := HN.out; omega, by rw [List.length_append, HE.out.2.2]; rfl, HRT.out, by
            have e : idsOf (T ++ [(xi, xt)]) = idsOf T ++ [xi] := by unfold idsOf; rw [List.map_append]; rfl
            rw [e, u64s_app]
            have h := HO5.out
            exact owns_touch h ((Touch.refl (fun b => b = br) w5).set _ (.inl rfl)) (fun b hb e => by subst e; have := (h.lt _ hb).1; have := HGW.out _ H5.out.1; omega), (HT.out.trans HT5.out (fun j hj => .inr hj)).set _ (.inl rfl)⟩
          case measure => (rw [slen_mk, slen_mk]; omega)
      · as_aux_lemma =>
        go_wp2_with fail
        go_ret
        have hE := HE.out
        have hst := due_stop (S := R) (x := (xi, xt)) hxt
        refine ⟨_, rfl, ?_, by rw [hE.2.1, hst.2]; exact HR.out, HT.out⟩
        rw [hE.1, hst.1, List.append_nil]
        have : (idsOf T).length = q := by unfold idsOf; rw [List.length_map]; exact hE.2.2
        rw [this]; exact HO.out
end Go.Proofs.Ytjdeejbpkdgohaa
