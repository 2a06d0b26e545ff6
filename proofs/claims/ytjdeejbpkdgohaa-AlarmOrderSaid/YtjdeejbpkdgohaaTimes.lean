/- The walk of AlarmTimes. -/
import Derived.Test.YtjdeejbpkdgohaaR
import Derived.Test.YtjdeejbpkdgohaaT
namespace Go.Proofs.Ytjdeejbpkdgohaa
open Go.RowKit Go.Maps
set_option maxHeartbeats 4000000
set_option maxRecDepth 100000
set_option linter.unusedVariables false

/-- the alarms S have the times that the list A tells, from N on. -/
def Told (S : List Al) (A : List Nat) (N : Nat) : Prop := ∀ x ∈ S, x.1 < A.length ∧ A.getD x.1 0 = x.2 ∧ N ≤ x.2 ∧ x.2 < 30
theorem putS_add {S : List Al} {most : Int} {id t : Nat} (h : hasS S id = false) (hm : (S.length : Int) < most) : putE S most id = 0 ∧ (putS S most id t).Perm ((id, t) :: S) := by
  unfold putE putS
  rw [h]
  have hm2 : ¬ most ≤ (S.length : Int) := by omega
  refine ⟨by rw [if_neg (by simp), if_neg hm2], ?_⟩
  rw [if_neg (by simp), if_neg hm2]
  have := put_perm S id t
  rw [drop_none h] at this
  exact this
theorem told_put {S : List Al} {A : List Nat} {most : Int} {t : Nat} (h : Told S A 0) (hl : S.length = A.length) (hm : (S.length : Int) < most) (ht : t < 30) :
    putE S most A.length = 0 ∧ Told (putS S most A.length t) (A ++ [t]) 0 ∧ (putS S most A.length t).length = (A ++ [t]).length := by
  have hn : hasS S A.length = false := by
    rw [← Bool.not_eq_true, has_mem]
    rintro ⟨x, hx, e⟩
    have := (h x hx).1; omega
  obtain ⟨e1, e2⟩ := putS_add (t := t) hn hm
  refine ⟨e1, fun x hx => ?_, by rw [e2.length_eq]; simp [hl]⟩
  rcases List.mem_cons.1 (e2.mem_iff.1 hx) with rfl | hx
  · refine ⟨by simp, by simp, Nat.zero_le _, ht⟩
  · obtain ⟨h1, h2, h3, h4⟩ := h x hx
    refine ⟨by simp; omega, ?_, h3, h4⟩
    rw [List.getD_eq_getElem?_getD, List.getElem?_append_left h1, ← List.getD_eq_getElem?_getD]
    exact h2
theorem told_round {S : List Al} {A : List Nat} {N j : Nat} (hi : Ids S) (hj : j < S.length) (h : Told (S.drop j) A N) : S[j].1 < A.length ∧ A.getD S[j].1 0 = S[j].2 ∧ N ≤ S[j].2 ∧ Told (S.drop (j + 1)) (A.set S[j].1 99) N := by
  rw [List.drop_eq_getElem_cons hj] at h
  have h0 := h S[j] (List.mem_cons_self ..)
  refine ⟨h0.1, h0.2.1, h0.2.2.1, fun x hx => ?_⟩
  obtain ⟨h1, h2, h3, h4⟩ := h x (List.mem_cons_of_mem _ hx)
  refine ⟨by simpa using h1, ?_, h3, h4⟩
  have hid : Ids (S.drop j) := by
    unfold Ids at *
    exact List.Pairwise.sublist (List.Sublist.map Prod.fst (List.drop_sublist j S)) hi
  rw [List.drop_eq_getElem_cons hj] at hid
  unfold Ids at hid
  rw [List.map_cons, List.nodup_cons] at hid
  have hne : S[j].1 ≠ x.1 := fun e => hid.1 (List.mem_map.2 ⟨x, hx, e.symm⟩)
  rw [List.getD_eq_getElem?_getD, List.getElem?_set_ne hne, ← List.getD_eq_getElem?_getD]
  exact h2
theorem due_get {S : List Al} {N j : Nat} (hj : j < (idsOf (dueL S N)).length) : ∃ h : j < S.length, (idsOf (dueL S N))[j] = S[j].1 ∧ S[j].2 ≤ N := by
  unfold idsOf at *
  rw [List.length_map] at hj
  have e := due_app S N
  have hl : j < S.length := by rw [← e, List.length_append]; omega
  have e2 : S[j] = (dueL S N)[j] := by
    have : S[j]? = (dueL S N)[j]? := by
      conv => lhs; rw [← e]
      exact List.getElem?_append_left hj
    rw [List.getElem?_eq_getElem hl, List.getElem?_eq_getElem hj] at this
    injection this
  refine ⟨hl, by rw [List.getElem_map, e2], ?_⟩
  rw [e2]
  exact due_all _ (List.getElem_mem _)
theorem told_end {S : List Al} {A : List Nat} {N : Nat} (hs : Sorted S) (h : Told (S.drop (idsOf (dueL S N)).length) A N) : Told (restL S N) A (N + 1) := by
  have e : S.drop (idsOf (dueL S N)).length = restL S N := by
    have h0 : (dueL S N ++ restL S N).drop (dueL S N).length = restL S N := List.drop_left
    rw [due_app] at h0
    unfold idsOf
    rw [List.length_map]; exact h0
  rw [e] at h
  intro x hx
  obtain ⟨h1, h2, h3, h4⟩ := h x hx
  exact ⟨h1, h2, rest_all hs x hx, h4⟩
theorem due_len (S : List Al) (N : Nat) : (restL S N).length + (idsOf (dueL S N)).length = S.length := by
  have h := congrArg List.length (due_app S N)
  rw [List.length_append] at h
  unfold idsOf
  rw [List.length_map]; omega

theorem times_core (a : Option Addr) (len cap : Nat) (g : Nat → Nat → Int) (w : World) (hr : Tup .u8 2 w a len g) :
    Calls Try.prog 5 #[.slice a len cap] w fun e w' => e = .returned (.bool true) ∧ Below w.heap.size w w' := by
  have hlen := hr.bound
  have HR := Lib.hid hr
  clear hr
  obtain ⟨i0, hi0, hi1, hi2, hi3⟩ := info_parts infoU
  go_enter Try.func5, Try.ntmps5
  go_wp2_with fail
  refine (st_new (W0 := w) 100 (Below.refl _ _)).mono ?_
  rintro e x0 ⟨ba, rfl, h⟩
  have H := Lib.hid (h.fresh [] (by decide))
  have HB0 := Lib.hid h.below.size
  clear h
  unfold apt
  go_wp2_with fail
  go_loopw [4, 5] (fun v i wr => ∃ (k : Nat) (S : List Al) (A : List Nat) (ga c : Nat), k ≤ len ∧ k ≤ 20 ∧ i = .int .i64 k ∧ v = .slice (some ⟨ga, 0, none⟩) k c ∧ A.length = k ∧ w.heap.size ≤ ga ∧ S.length = A.length ∧ Told S A 0 ∧ St w wr ba S 100 [(.slice (some ⟨ga, 0, none⟩) k c, A)]) (fun _ i _ => 20 - (intOf i).toNat)
  case atStart => exact ⟨0, [], [], x0.heap.size, 0, Nat.zero_le _, Nat.zero_le _, rfl, rfl, rfl, HB0.out, rfl, fun x hx => (by cases hx), H.out⟩
  case round =>
    clear H HB0
    obtain ⟨k, S, A, ga, c, hk1, hk2, rfl, rfl, hAk, hga, hSA, hT, h⟩ := hrel
    have H := Lib.hid h
    have HT := Lib.hid (And.intro hAk (And.intro hSA hT))
    have HGA := Lib.hid hga
    have hS20 : S.length ≤ 20 := by omega
    clear h hT hAk hSA hga
    by_cases hin : k < len ∧ k < 20
    · obtain ⟨hkl, hk20⟩ := hin
      obtain ⟨blk, off, rfl, hc⟩ := (HR.out.keep H.out.below).cell k hkl
      obtain ⟨c1, w1⟩ := hc 1 (by omega)
      obtain ⟨y, hy, hy2⟩ := nat_u8 w1
      rw [hy] at c1
      have c1' : wr.cell? ⟨blk, off + k * 2 + 1, none⟩ = some (.int .u8 (y : Int)) := c1
      obtain ⟨t, ht, ht2⟩ : ∃ t : Nat, (y : Int) % 30 = (t : Int) ∧ t < 30 := ⟨y % 30, by omega, by omega⟩
      have hkl' : (k : Int) < (len : Int) := by omega
      have hk0 : (0 : Int) ≤ (k : Int) := by omega
      have htp := told_put (most := 100) (t := t) HT.out.2.2 HT.out.2.1 (by omega) ht2
      rw [HT.out.1] at htp
      have HP := Lib.hid (fx_put H.out k t (by omega) (by omega) (by omega) htp.1 rfl)
      have HTP := Lib.hid htp.2
      unfold apt at HP
      clear hc w1 hy c1 htp
      go_wp2_with fail
      refine HP.out.mono ?_
      rintro e w2 ⟨rfl, h⟩
      have H2 := Lib.hid h
      have hrow := h.row (List.mem_cons_self ..)
      have HW3 := Lib.hid (show (w2.alloc (.cells #[.int .u64 (t : Int)] 29)).ownsRow 0 29 1 (.slice (some ⟨ga, 0, none⟩) k c) k (u64s A) from by have := hrow.alloc (.cells #[.int .u64 (t : Int)] 29); rw [HT.out.1] at this; exact this)
      clear h hrow HP
      go_wp2_with (at_builtin; refine wpList_append_lies _ rfl _ _ _ rfl 0 29 i0 (.int .u64 0) 1 8 Try.underlying35 hi0 hi1 hi2 hi3 rfl (by decide) (.slice (some ⟨ga, 0, none⟩) k c) k (u64s A) rfl HW3.out ⟨w2.heap.size, 0, none⟩ 1 1 [.int .u64 (t : Int)] rfl rfl (World.news_of_block (B := w2.heap.size) (cs := #[.int .u64 (t : Int)]) (t := 29) (fr := (0, 0)) (news1 rfl)) (by simp [Value.oneCell']) (by omega) (by unfold maxLen; omega) (by omega) (Nat.zero_le _) (w2.heap.size + 1) (by simp) ?_; intro ge cq w5 hown5 hgrow5 hat5 hlt5)
      have h5 := H2.out.append HT.out.1.symm (fun r hr => by cases hr) (fun b hb => by simp [Value.ownBlock] at hb; subst hb; exact HGA.out) hown5 hgrow5 hat5
      have hge : w.heap.size ≤ ge := by
        rcases hat5 with h | h
        · simp [Value.ownBlock] at h; subst h; exact HGA.out
        · have := H2.out.below.size; omega
      go_roundw
      case rel => exact ⟨k + 1, putS S 100 k t, A ++ [t], ge, cq, by omega, by omega, by go_num, rfl, by rw [List.length_append, HT.out.1]; rfl, hge, HTP.out.2, HTP.out.1, h5⟩
      case measure => (simp [intOf] <;> omega)
    · have hway : ¬ k < len ∨ (k < len ∧ ¬ k < 20) := by omega
      clear hin
      rcases hway with hkl | ⟨hkl, hk20⟩
      all_goals
        go_wp2_with fail
        go_loopw [7, 8] (fun sv nv wx => ∃ (N sn : Nat) (T : List Al) (B : List Nat), N ≤ 30 ∧ nv = .int .u64 N ∧ sv = .int .i64 sn ∧ B.length = k ∧ T.length + sn = k ∧ Told T B N ∧ St w wx ba T 100 [(.slice (some ⟨ga, 0, none⟩) k c, B)]) (fun _ nv _ => 30 - (intOf nv).toNat)
        case atStart => exact ⟨0, 0, S, A, Nat.zero_le _, rfl, rfl, HT.out.1, by have := HT.out.2.1; have := HT.out.1; omega, HT.out.2.2, H.out⟩
        case round =>
          clear H HT hS20 S A
          obtain ⟨N, sn, S, A, hN, rfl, rfl, hAk, hSn, hT, h⟩ := hrel
          have H := Lib.hid h
          have HT := Lib.hid (And.intro hAk (And.intro hSn hT))
          have hsn : sn ≤ 20 := by omega
          have hS20 : S.length ≤ 20 := by omega
          clear h hT hAk hSn
          by_cases hN30 : N < 30
          · have hN30' : (N : Int) < 30 := by omega
            obtain ⟨L, hL⟩ : ∃ L, idsOf (dueL S N) = L := ⟨_, rfl⟩
            obtain ⟨n, hn⟩ : ∃ n, L.length = n := ⟨_, rfl⟩
            have hdl := due_len S N
            rw [hL, hn] at hdl
            have HDU := Lib.hid (far_due H.out N L n (by omega) (by omega) hL hn rfl)
            have HL := Lib.hid (And.intro hL (And.intro hn hdl))
            have hids := H.out.facts'
            have HIDS := Lib.hid hids
            have hn20 : n ≤ 20 := by omega
            unfold apt at HDU
            clear hL hn hdl hids
            go_wp2_with fail
            refine HDU.out.mono ?_
            rintro e w1 ⟨sx, cx, rfl, h, hfar⟩
            have hne : (Value.slice sx n cx).ownBlock ≠ some ga := hfar _ (List.mem_cons_self ..) ga rfl
            have HNE := Lib.hid hne
            have H1 := Lib.hid (h.fewer (Qs := [(.slice (some ⟨ga, 0, none⟩) k c, A), (.slice sx n cx, L)]) (fun r hr => by
              rcases List.mem_cons.1 hr with rfl | hr
              · exact List.mem_cons_of_mem _ (List.mem_cons_self ..)
              · simp at hr; subst hr; exact List.mem_cons_self ..))
            clear h hfar hne HDU H
            go_wp2_with fail
            go_loopw [7, 10] (fun sv iv wy => ∃ (j s2 : Nat) (B : List Nat), j ≤ n ∧ iv = .int .i64 j ∧ sv = .int .i64 s2 ∧ s2 = sn + j ∧ B.length = k ∧ Told (S.drop j) B N ∧ St w wy ba (restL S N) 100 [(.slice (some ⟨ga, 0, none⟩) k c, B), (.slice sx n cx, L)]) (fun _ iv _ => n - (intOf iv).toNat)
            case atStart => exact ⟨0, sn, A, Nat.zero_le _, rfl, rfl, rfl, HT.out.1, HT.out.2.2, H1.out⟩
            case round =>
              clear H1
              obtain ⟨j, s2, B, hj, rfl, rfl, hs2, hBk, hT, h⟩ := hrel
              have H := Lib.hid h
              have HB := Lib.hid (And.intro hBk (And.intro hT hs2))
              have hs29 : s2 ≤ 40 := by omega
              clear h hT hBk hs2
              by_cases hjn : j < n
              · have hjL : j < (idsOf (dueL S N)).length := by have := HL.out.1; have := HL.out.2.1; rw [HL.out.1]; omega
                obtain ⟨hjS, hid, hle⟩ := due_get hjL
                obtain ⟨r1, r2, r3, r4⟩ := told_round HIDS.out.2.1 hjS HB.out.2.1
                have hid2 : L[j]'(by rw [HL.out.2.1]; exact hjn) = S[j].1 := by
                  have h0 := hid
                  simp only [HL.out.1] at h0
                  exact h0
                obtain ⟨gx, ox, hgx, hlx, cx1⟩ := (nums_of (show wr.ownsRow 0 29 1 (.slice sx L.length cx) L.length (u64s L) from by have := H.out.row (List.mem_cons_of_mem _ (List.mem_cons_self ..)); rw [HL.out.2.1]; rw [HL.out.2.1] at this; exact this)) j (by rw [HL.out.2.1]; exact hjn)
                subst hgx
                rw [hid2] at cx1
                obtain ⟨q, hq⟩ : ∃ q, S[j].1 = q := ⟨_, rfl⟩
                rw [hq] at r1 r2 r4 cx1
                have hrowA := H.out.row (List.mem_cons_self ..)
                have hqk : q < k := by rw [← HB.out.1]; exact r1
                have cA : wr.cell? ⟨ga, q, none⟩ = some (.int .u64 (N : Int)) := by
                  rw [HB.out.1] at hrowA
                  rw [hrowA.cellAt q (by omega)]
                  have e : S[j].2 = N := by omega
                  rw [e, List.getD_eq_getElem?_getD] at r2
                  have h1 : B[q]? = some (B[q]'(by rw [HB.out.1]; exact hqk)) := List.getElem?_eq_getElem _
                  rw [h1] at r2
                  simp at r2
                  unfold u64s
                  rw [List.getElem?_map, h1, r2]; rfl
                have fA : wr.frozen? ⟨ga, q, none⟩ = false := by rw [HB.out.1] at hrowA; exact hrowA.frozenAt q
                have lA := lt_of cA
                have hjn' : (j : Int) < (n : Int) := by omega
                have hj0 : (0 : Int) ≤ (j : Int) := by omega
                have hqk1 : ¬ k ≤ q := by omega
                have hqk2 : (q : Int) < (k : Int) := by omega
                have hq0 : (0 : Int) ≤ (q : Int) := by omega
                have HS := Lib.hid (H.out.store (i := q) (x := 99) HB.out.1.symm (fun r hr => by simp at hr; subst hr; exact HNE.out) HGA.out)
                have HR4 := Lib.hid r4
                clear hrowA hid hid2 r1 r2 r3 r4 hle hjL hq hlx hjS
                go_wp2_with fail
                go_roundw
                case rel => exact ⟨j + 1, s2 + 1, B.set q 99, by omega, by go_num, by go_num, by have := HB.out.2.2; omega, by rw [List.length_set]; exact HB.out.1, HR4.out, HS.out⟩
                case measure => (simp [intOf] <;> omega)
              · obtain rfl : j = n := by omega
                have HE := Lib.hid (show Told (restL S N) B (N + 1) from told_end HIDS.out.1 (by have := HB.out.2.1; rw [HL.out.1, HL.out.2.1]; exact this))
                clear hjn hj
                go_wp2_with fail
                go_roundw
                case rel => exact ⟨N + 1, s2, restL S N, B, by omega, by go_num, rfl, HB.out.1, by have := HL.out.2.2; have := HT.out.2.1; have := HB.out.2.2; omega, HE.out, H.out.fewer (fun r hr => by simp at hr; subst hr; exact List.mem_cons_self ..)⟩
                case measure => (simp [intOf] <;> omega)
          · obtain rfl : N = 30 := by omega
            have hS0 : S = [] := by
              cases S with
              | nil => rfl
              | cons x S => have := HT.out.2.2 x (List.mem_cons_self ..); omega
            subst hS0
            have hsk : sn = k := by have := HT.out.2.1; simpa using this
            subst hsk
            clear hN30 hN
            go_wp2_with fail
            refine (fx_len H.out 0 rfl).mono ?_
            rintro e _ ⟨rfl, rfl⟩
            go_wp2_with fail
            refine (fixed_any _).mono ?_
            rintro e x2 ⟨rfl, hb⟩
            have hB := below_from H.out.below H.out.below.size hb
            clear hb
            go_wp2
            go_ret
            exact ⟨rfl, hB⟩
end Go.Proofs.Ytjdeejbpkdgohaa
