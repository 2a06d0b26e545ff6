/- The walk of AlarmFirst. -/
import Derived.Test.YtjdeejbpkdgohaaL
import Derived.Test.YtjdeejbpkdgohaaT
namespace Go.Proofs.Ytjdeejbpkdgohaa
open Go.RowKit Go.Maps
set_option maxHeartbeats 4000000
set_option maxRecDepth 100000
set_option linter.unusedVariables false

theorem St.facts {W0 W : World} {ba : Nat} {S : List Al} {most : Int} {Rs : List (Value × List Nat)} (h : St W0 W ba S most Rs) : Sorted S ∧ Ids S ∧ Fits S := by
  obtain ⟨F, ⟨s, c, mb, H, a⟩, _⟩ := h
  exact ⟨a.sorted, a.ids, a.fits⟩
theorem putS_len (S : List Al) (most : Int) (id t : Nat) : (putS S most id t).length ≤ S.length + 1 := by
  unfold putS
  split
  · exact put_len
  · split
    · omega
    · exact put_len
theorem putE_ok {S : List Al} {most : Int} {id : Nat} (h : (S.length : Int) < most) : putE S most id = 0 := by
  unfold putE
  split
  · rfl
  · rw [if_neg (by omega)]
theorem rest_head {S R : List Al} {n : Nat} {y : Al} (h : restL S n = y :: R) : n < y.2 := by
  induction S with
  | nil => cases h
  | cons x S ih =>
    by_cases hx : x.2 ≤ n
    · rw [(due_cons hx).2] at h; exact ih h
    · rw [(due_stop hx).2] at h
      injection h with h1 h2
      subst h1; omega

theorem due_head {xi xt : Nat} {T : List Al} : 1 ≤ (idsOf (dueL ((xi, xt) :: T) xt)).length ∧ (restL ((xi, xt) :: T) xt).length + (idsOf (dueL ((xi, xt) :: T) xt)).length = ((xi, xt) :: T).length := by
  have e := due_cons (x := (xi, xt)) (S := T) (now := xt) (Nat.le_refl _)
  have h := congrArg List.length (due_app ((xi, xt) :: T) xt)
  rw [List.length_append] at h
  unfold idsOf
  rw [List.length_map]
  refine ⟨by rw [e.1]; simp, by omega⟩
theorem first_core (a : Option Addr) (len cap : Nat) (g : Nat → Nat → Int) (w : World) (hr : Tup .u64 2 w a len g) :
    Calls Try.prog 7 #[.slice a len cap] w fun e w' => e = .returned (.bool true) ∧ Below w.heap.size w w' := by
  have hlen := hr.bound
  have HR := Lib.hid hr
  clear hr
  go_enter Try.func7, Try.ntmps7
  go_wp2_with fail
  refine (st_new (W0 := w) 100 (Below.refl _ _)).mono ?_
  rintro e x0 ⟨ba, rfl, h⟩
  have H := Lib.hid h
  clear h
  unfold apt
  go_wp2_with fail
  go_loopw [4] (fun i wr => ∃ (k : Nat) (S : List Al), k ≤ len ∧ k ≤ 20 ∧ i = .int .i64 k ∧ S.length ≤ k ∧ St w wr ba S 100 []) (fun i _ => 20 - (intOf i).toNat)
  case atStart => exact ⟨0, [], Nat.zero_le _, Nat.zero_le _, rfl, Nat.zero_le _, H.out⟩
  case round =>
    clear H
    obtain ⟨k, S, hk1, hk2, rfl, hSk, h⟩ := hrel
    have H := Lib.hid h
    clear h
    by_cases hin : k < len ∧ k < 20
    · obtain ⟨hkl, hk20⟩ := hin
      obtain ⟨blk, off, rfl, hc⟩ := (HR.out.keep H.out.below).cell k hkl
      obtain ⟨c0, w0⟩ := hc 0 (by omega)
      obtain ⟨c1, w1⟩ := hc 1 (by omega)
      obtain ⟨id, hid, hid2⟩ := nat_u64 w0
      obtain ⟨t, ht, ht2⟩ := nat_u64 w1
      rw [hid] at c0
      rw [ht] at c1
      have hkl' : (k : Int) < (len : Int) := by omega
      have hk0 : (0 : Int) ≤ (k : Int) := by omega
      have HP := Lib.hid (fx_put (H.out.step ((Below.refl _ wr).drew)) id t hid2 ht2 (by omega) (putE_ok (by omega)) rfl)
      have HSL := Lib.hid (putS_len S 100 id t)
      have c0' : wr.cell? ⟨blk, off + k * 2, none⟩ = some (.int .u64 (id : Int)) := c0
      have c1' : wr.cell? ⟨blk, off + k * 2 + 1, none⟩ = some (.int .u64 (t : Int)) := c1
      unfold apt at HP
      clear hc w0 w1 hid ht hid2 ht2 c0 c1
      go_wp2_with fail
      go_region_with (go_at_call 10; refine HP.out.mono ?_; rintro e w1 ⟨rfl, h⟩; have H := Lib.hid h; clear h)
      all_goals
        clear HP c0' c1'
        go_wp2_with fail
        go_roundw
        case rel => exact ⟨k + 1, putS S 100 id t, by omega, by omega, by go_num, by have := HSL.out; omega, H.out⟩
        case measure => (simp [intOf] <;> omega)
    · have hway : ¬ k < len ∨ (k < len ∧ ¬ k < 20) := by omega
      clear hin
      have hS20 : S.length + 0 ≤ 20 := by omega
      rcases hway with hkl | ⟨hkl, hk20⟩
      all_goals
        go_wp2_with fail
        go_loopw [5] (fun i wx => ∃ (j : Nat) (T : List Al), j ≤ 20 ∧ i = .int .i64 j ∧ T.length + j ≤ 20 ∧ St w wx ba T 100 []) (fun i _ => 21 - (intOf i).toNat)
        case atStart => exact ⟨0, S, Nat.zero_le _, rfl, hS20, H.out⟩
        case round =>
          clear H hS20
          obtain ⟨j, T, hj, rfl, hTj, h⟩ := hrel
          have H := Lib.hid h
          clear h
          have hj21 : (j : Int) < 21 := by omega
          cases T with
          | nil =>
            clear hTj
            go_wp2_with fail
            refine (fx_len H.out 0 rfl).mono ?_
            rintro e _ ⟨rfl, rfl⟩
            go_wp2_with fail
            refine (fx_first H.out (by simp) 0 false rfl rfl).mono ?_
            rintro e _ ⟨rfl, rfl⟩
            go_wp2_with fail
            refine (fx_due H.out 18446744073709551615 [] 0 (by decide) (by simp) rfl rfl (S' := []) rfl).mono ?_
            rintro e x1 ⟨a1, c1, rfl, h⟩
            have H := Lib.hid h
            clear h
            go_wp2_with fail
            refine (fixed_any _).mono ?_
            rintro e x2 ⟨rfl, hb⟩
            have hB := below_from H.out.below H.out.below.size hb
            clear hb
            go_wp2
            go_ret
            exact ⟨rfl, hB⟩
          | cons x T =>
            obtain ⟨xi, xt⟩ := x
            have hxt : xt < 18446744073709551616 := (H.out.facts.2.2 (xi, xt) (List.mem_cons_self ..)).2
            obtain ⟨m, hm⟩ : ∃ m, ((xi, xt) :: T).length = m := ⟨_, rfl⟩
            obtain ⟨L, hL⟩ : ∃ L, idsOf (dueL ((xi, xt) :: T) xt) = L := ⟨_, rfl⟩
            obtain ⟨R, hRR⟩ : ∃ R, restL ((xi, xt) :: T) xt = R := ⟨_, rfl⟩
            obtain ⟨n, hn⟩ : ∃ n, L.length = n := ⟨_, rfl⟩
            have hdh := due_head (xi := xi) (xt := xt) (T := T)
            rw [hL, hRR, hm, hn] at hdh
            rw [hm] at hTj
            have hn1 : 1 ≤ n := hdh.1
            have hm1 : m ≤ 20 := by omega
            have HM := Lib.hid (And.intro hm hm1)
            have HL := Lib.hid hL
            have HRR := Lib.hid hRR
            have HN := Lib.hid hn
            have HLN := Lib.hid hdh.2
            have hn2 : ¬ (n : Int) < 1 := by omega
            clear hm hL hRR hn hdh
            by_cases h0 : xt = 0
            · have h0' : ¬ (0 : Int) < (xt : Int) := by omega
              clear h0
              go_wp2_with fail
              refine (fx_len H.out (m : Int) (by rw [HM.out.1])).mono ?_
              rintro e _ ⟨rfl, rfl⟩
              go_wp2_with fail
              refine (fx_first H.out (by have := HM.out; omega) (xt : Int) true rfl rfl).mono ?_
              rintro e _ ⟨rfl, rfl⟩
              go_wp2_with fail
              refine (fx_len H.out (m : Int) (by rw [HM.out.1])).mono ?_
              rintro e _ ⟨rfl, rfl⟩
              go_wp2_with fail
              refine (fx_due H.out xt L n hxt (by have := HM.out; omega) HL.out HN.out (S' := R) HRR.out).mono ?_
              rintro e x2 ⟨a2, c2, rfl, h⟩
              have H := Lib.hid (h.fewer (Qs := []) (fun r hr => by cases hr))
              clear h
              cases R with
              | nil =>
                have hmn : (m : Int) - (n : Int) = 0 := by have := HLN.out; simp at this; omega
                go_wp2_with fail
                refine (fx_first H.out (by simp) 0 false rfl rfl).mono ?_
                rintro e _ ⟨rfl, rfl⟩
                go_wp2_with fail
                refine (fx_len H.out 0 rfl).mono ?_
                rintro e _ ⟨rfl, rfl⟩
                go_wp2_with fail
                go_roundw
                case rel => exact ⟨j + 1, [], by have := HLN.out; simp at this; omega, by go_num, by have := HLN.out; simp at this ⊢; omega, H.out⟩
                case measure => (simp [intOf] <;> omega)
              | cons y R =>
                obtain ⟨yi, yt⟩ := y
                obtain ⟨m2, hm2⟩ : ∃ m2, ((yi, yt) :: R).length = m2 := ⟨_, rfl⟩
                have hmn : (m : Int) - (n : Int) = (m2 : Int) := by have := HLN.out; rw [hm2] at this; omega
                have hy : ¬ yt ≤ xt := by have h9 := rest_head HRR.out; simp at h9; omega
                have HM2 := Lib.hid hm2
                clear hm2
                go_wp2_with fail
                refine (fx_first H.out (by have := HLN.out; have := HM.out; omega) (yt : Int) true rfl rfl).mono ?_
                rintro e _ ⟨rfl, rfl⟩
                go_wp2_with fail
                refine (fx_len H.out (m2 : Int) (by rw [HM2.out])).mono ?_
                rintro e _ ⟨rfl, rfl⟩
                go_wp2_with fail
                go_roundw
                case rel => exact ⟨j + 1, (yi, yt) :: R, by have h8 := HLN.out; rw [HM2.out] at h8; omega, by go_num, by have h8 := HLN.out; rw [HM2.out] at h8 ⊢; omega, H.out⟩
                case measure => (simp [intOf] <;> omega)
            · have h0' : (0 : Int) < (xt : Int) := by omega
              obtain ⟨t1, ht1⟩ : ∃ t1 : Nat, (xt : Int) - 1 = (t1 : Int) := ⟨xt - 1, by omega⟩
              have HT1 := Lib.hid (show t1 < xt by omega)
              have hx1 : (1 : Int) ≤ (xt : Int) := by omega
              clear h0
              go_wp2_with fail
              refine (fx_len H.out (m : Int) (by rw [HM.out.1])).mono ?_
              rintro e _ ⟨rfl, rfl⟩
              go_wp2_with fail
              refine (fx_first H.out (by have := HM.out; omega) (xt : Int) true rfl rfl).mono ?_
              rintro e _ ⟨rfl, rfl⟩
              go_wp2_with fail
              refine (fx_due H.out t1 [] 0 (by have := HT1.out; omega) (by have := HM.out; omega) (by rw [(due_stop (x := (xi, xt)) (S := T) (now := t1) (by have := HT1.out; simp; omega)).1]; rfl) rfl (S' := (xi, xt) :: T) (due_stop (x := (xi, xt)) (S := T) (now := t1) (by have := HT1.out; simp; omega)).2).mono ?_
              rintro e x1 ⟨a1, c1, rfl, h⟩
              have H := Lib.hid (h.fewer (Qs := []) (fun r hr => by cases hr))
              clear h
              go_wp2_with fail
              refine (fx_len H.out (m : Int) (by rw [HM.out.1])).mono ?_
              rintro e _ ⟨rfl, rfl⟩
              go_wp2_with fail
              refine (fx_due H.out xt L n hxt (by have := HM.out; omega) HL.out HN.out (S' := R) HRR.out).mono ?_
              rintro e x2 ⟨a2, c2, rfl, h⟩
              have H := Lib.hid (h.fewer (Qs := []) (fun r hr => by cases hr))
              clear h
              cases R with
              | nil =>
                have hmn : (m : Int) - (n : Int) = 0 := by have := HLN.out; simp at this; omega
                go_wp2_with fail
                refine (fx_first H.out (by simp) 0 false rfl rfl).mono ?_
                rintro e _ ⟨rfl, rfl⟩
                go_wp2_with fail
                refine (fx_len H.out 0 rfl).mono ?_
                rintro e _ ⟨rfl, rfl⟩
                go_wp2_with fail
                go_roundw
                case rel => exact ⟨j + 1, [], by have := HLN.out; simp at this; omega, by go_num, by have := HLN.out; simp at this ⊢; omega, H.out⟩
                case measure => (simp [intOf] <;> omega)
              | cons y R =>
                obtain ⟨yi, yt⟩ := y
                obtain ⟨m2, hm2⟩ : ∃ m2, ((yi, yt) :: R).length = m2 := ⟨_, rfl⟩
                have hmn : (m : Int) - (n : Int) = (m2 : Int) := by have := HLN.out; rw [hm2] at this; omega
                have hy : ¬ yt ≤ xt := by have h9 := rest_head HRR.out; simp at h9; omega
                have HM2 := Lib.hid hm2
                clear hm2
                go_wp2_with fail
                refine (fx_first H.out (by have := HLN.out; have := HM.out; omega) (yt : Int) true rfl rfl).mono ?_
                rintro e _ ⟨rfl, rfl⟩
                go_wp2_with fail
                refine (fx_len H.out (m2 : Int) (by rw [HM2.out])).mono ?_
                rintro e _ ⟨rfl, rfl⟩
                go_wp2_with fail
                go_roundw
                case rel => exact ⟨j + 1, (yi, yt) :: R, by have h8 := HLN.out; rw [HM2.out] at h8; omega, by go_num, by have h8 := HLN.out; rw [HM2.out] at h8 ⊢; omega, H.out⟩
                case measure => (simp [intOf] <;> omega)
end Go.Proofs.Ytjdeejbpkdgohaa
