/- The walk of AlarmRoom. -/
import Derived.Test.YtjdeejbpkdgohaaTimes
namespace Go.Proofs.Ytjdeejbpkdgohaa
open Go.RowKit Go.Maps
set_option maxHeartbeats 4000000
set_option maxRecDepth 100000
set_option linter.unusedVariables false

theorem due_whole {S : List Al} {n : Nat} (h : ∀ x ∈ S, x.2 ≤ n) : dueL S n = S ∧ restL S n = [] := by
  induction S with
  | nil => exact ⟨rfl, rfl⟩
  | cons x S ih =>
    have h1 := due_cons (S := S) (h x (List.mem_cons_self ..))
    have h2 := ih (fun y hy => h y (List.mem_cons_of_mem _ hy))
    exact ⟨by rw [h1.1, h2.1], by rw [h1.2, h2.2]⟩
/-- what the list of numbers tells of the alarms. -/
structure Room (S : List Al) (I : List Nat) : Prop where
  len : S.length = I.length
  has : ∀ id, hasS S id = decide (id ∈ I)
  low : ∀ x ∈ S, x.2 ≤ 255
theorem room_new {S : List Al} {I : List Nat} {most : Int} {id t : Nat} (h : Room S I) (hid : decide (id ∈ I) = false) (hm : (S.length : Int) < most) (ht : t ≤ 255) : putE S most id = 0 ∧ Room (putS S most id t) (I ++ [id]) := by
  obtain ⟨e1, e2⟩ := putS_add (t := t) ((h.has id).trans hid) hm
  refine ⟨e1, by rw [e2.length_eq]; simp [h.len], fun y => ?_, fun x hx => ?_⟩
  · rw [has_perm e2]
    have := h.has y
    unfold hasS at *
    rw [List.any_cons, this, Bool.eq_iff_iff]
    simp
    constructor
    · rintro (h | h)
      · exact .inr h.symm
      · exact .inl h
    · rintro (h | h)
      · exact .inr h
      · exact .inl h.symm
  · rcases List.mem_cons.1 (e2.mem_iff.1 hx) with rfl | hx
    · exact ht
    · exact h.low x hx
theorem room_old {S : List Al} {I : List Nat} {most : Int} {id t : Nat} (h : Room S I) (hi : Ids S) (hid : decide (id ∈ I) = true) (ht : t ≤ 255) : putE S most id = 0 ∧ Room (putS S most id t) I := by
  have hs := (h.has id).trans hid
  unfold putE putS
  rw [hs]
  refine ⟨rfl, ?_⟩
  rw [if_pos rfl]
  obtain ⟨x, hx, hxi⟩ := has_mem.1 hs
  have hp := List.perm_cons_erase hx
  obtain ⟨d1, d2, d3⟩ := drop_cons hp hi
  rw [hxi] at d1 d3
  have e2 := (put_perm S id t).trans (d1.cons (id, t))
  refine ⟨by rw [e2.length_eq]; have := hp.length_eq; simp at this ⊢; rw [← h.len]; omega, fun y => ?_, fun z hz => ?_⟩
  · have h2 := h.has y
    rw [has_perm hp] at h2
    rw [has_perm e2, ← h2]
    unfold hasS
    rw [List.any_cons, List.any_cons, hxi]
  · rcases List.mem_cons.1 (e2.mem_iff.1 hz) with rfl | hz
    · exact ht
    · exact h.low z (List.mem_of_mem_erase hz)
theorem room_full {S : List Al} {I : List Nat} {most : Int} {id t : Nat} (h : Room S I) (hid : decide (id ∈ I) = false) (hm : most ≤ (S.length : Int)) : putE S most id = 8 ∧ putS S most id t = S := by
  unfold putE putS
  rw [(h.has id).trans hid]
  simp only [Bool.false_eq_true, if_false, if_pos hm, and_self]
theorem mem_take_succ {I : List Nat} {j id : Nat} (h : j < I.length) : decide (id ∈ I.take (j + 1)) = (decide (id ∈ I.take j) || decide (I[j] = id)) := by
  rw [List.take_succ_eq_append_getElem h, Bool.eq_iff_iff]
  simp only [decide_eq_true_eq, Bool.or_eq_true, List.mem_append, List.mem_singleton]
  constructor
  · rintro (h | h)
    · exact .inl h
    · exact .inr h.symm
  · rintro (h | h)
    · exact .inl h
    · exact .inr h.symm

theorem room_core (most : Int) (a : Option Addr) (len cap : Nat) (g : Nat → Nat → Int) (w : World) (hr : Tup .u8 2 w a len g) :
    Calls Try.prog 6 #[.int .i64 most, .slice a len cap] w fun e w' => e = .returned (.bool true) ∧ Below w.heap.size w w' := by
  have hlen := hr.bound
  have HR := Lib.hid hr
  clear hr
  obtain ⟨i0, hi0, hi1, hi2, hi3⟩ := info_parts infoU
  go_enter Try.func6, Try.ntmps6
  go_wp2_with fail
  refine (st_new (W0 := w) most (Below.refl _ _)).mono ?_
  rintro e x0 ⟨ba, rfl, h⟩
  have H := Lib.hid (h.fresh [] (by decide))
  have HB0 := Lib.hid h.below.size
  clear h
  unfold apt
  go_wp2_with fail
  go_loopw [6, 7] (fun v i wr => ∃ (k m : Nat) (S : List Al) (I : List Nat) (ga c : Nat), k ≤ len ∧ k ≤ 40 ∧ m ≤ k ∧ i = .int .i64 k ∧ v = .slice (some ⟨ga, 0, none⟩) m c ∧ I.length = m ∧ w.heap.size ≤ ga ∧ Room S I ∧ St w wr ba S most [(.slice (some ⟨ga, 0, none⟩) m c, I)]) (fun _ i _ => 40 - (intOf i).toNat)
  case atStart => exact ⟨0, 0, [], [], x0.heap.size, 0, Nat.zero_le _, Nat.zero_le _, Nat.le_refl _, rfl, rfl, rfl, HB0.out, ⟨rfl, fun _ => rfl, fun x hx => by cases hx⟩, H.out⟩
  case round =>
    clear H HB0
    obtain ⟨k, m, S, I, ga, c, hk1, hk2, hmk, rfl, rfl, hIm, hga, hRm, h⟩ := hrel
    have H := Lib.hid h
    have HI := Lib.hid hIm
    have HRM := Lib.hid hRm
    have HGA := Lib.hid hga
    have hSm : S.length = m := by rw [hRm.len, hIm]
    have HSM := Lib.hid hSm
    have hS40 : S.length ≤ 40 := by omega
    clear h hIm hRm hga hSm
    by_cases hin : k < len ∧ k < 40
    · obtain ⟨hkl, hk40⟩ := hin
      obtain ⟨blk, off, rfl, hc⟩ := (HR.out.keep H.out.below).cell k hkl
      obtain ⟨c0, w0⟩ := hc 0 (by omega)
      obtain ⟨c1, w1⟩ := hc 1 (by omega)
      obtain ⟨y, hy, hy2⟩ := nat_u8 w0
      obtain ⟨t, ht, ht2⟩ := nat_u8 w1
      rw [hy] at c0
      rw [ht] at c1
      have c0' : wr.cell? ⟨blk, off + k * 2, none⟩ = some (.int .u8 (y : Int)) := c0
      have c1' : wr.cell? ⟨blk, off + k * 2 + 1, none⟩ = some (.int .u8 (t : Int)) := c1
      obtain ⟨id, hid, hid2⟩ : ∃ id : Nat, (y : Int) % 16 = (id : Int) ∧ id < 16 := ⟨y % 16, by omega, by omega⟩
      have hkl' : (k : Int) < (len : Int) := by omega
      have hk0 : (0 : Int) ≤ (k : Int) := by omega
      clear hc w0 w1 hy ht c0 c1
      go_wp2_with fail
      go_loop [9, 11] (fun b kv => ∃ j : Nat, j ≤ m ∧ kv = .int .i64 j ∧ b = .bool (decide (id ∈ I.take j))) (fun _ kv => m - (intOf kv).toNat)
      case atStart => exact ⟨0, Nat.zero_le _, rfl, by simp⟩
      case round =>
        obtain ⟨j, hj, rfl, rfl⟩ := hrel
        by_cases hjm : j < m
        · have hjI : j < I.length := by rw [HI.out]; exact hjm
          have hts := mem_take_succ (id := id) hjI
          have cI : wr.cell? ⟨ga, j, none⟩ = some (.int .u64 (I[j] : Int)) := by
            have hrow := H.out.row (List.mem_cons_self ..)
            rw [HI.out] at hrow
            rw [hrow.cellAt j (by omega)]
            unfold u64s
            rw [List.getElem?_map, List.getElem?_eq_getElem hjI]; rfl
          obtain ⟨q, hq⟩ : ∃ q, I[j] = q := ⟨_, rfl⟩
          rw [hq] at cI hts
          have hjm' : (j : Int) < (m : Int) := by omega
          have hj0 : (0 : Int) ≤ (j : Int) := by omega
          cases hh : decide (id ∈ I.take j)
          · rw [hh, Bool.false_or] at hts
            have hqq : decide (q = id) = ((q : Int) == (id : Int)) := by
              rw [Bool.eq_iff_iff, decide_eq_true_eq, beq_iff_eq]; omega
            have HTS := Lib.hid (hts.trans hqq)
            clear hts hh hqq hq hjI
            go_wp2_with fail
            go_round
            case rel => exact ⟨j + 1, by omega, by go_num, by rw [HTS.out]⟩
            case measure => (simp [intOf] <;> omega)
          · rw [hh, Bool.true_or] at hts
            have HTS := Lib.hid hts
            clear hts hh hq hjI
            go_wp2_with fail
            go_round
            case rel => exact ⟨j + 1, by omega, by go_num, by rw [HTS.out]⟩
            case measure => (simp [intOf] <;> omega)
        · obtain rfl : j = m := by omega
          have htk : I.take j = I := by rw [← HI.out, List.take_length]
          rw [htk]
          clear htk hjm hj
          cases hb : decide (id ∈ I)
          · have HB := Lib.hid hb
            by_cases hm : most ≤ (j : Int)
            · -- no room
              have hfu := room_full (t := t) HRM.out hb (by rw [HSM.out]; exact hm)
              have HP := Lib.hid (fx_put H.out id t (by omega) (by omega) (by omega) hfu.1 hfu.2)
              unfold apt at HP
              clear hfu hb
              have hbr : (most ≤ 0) ∨ (¬ most ≤ 0) := by omega
              rcases hbr with hm0 | hm0
              all_goals
                go_wp2_with fail
                refine HP.out.mono ?_
                rintro e w2 ⟨rfl, h⟩
                have H := Lib.hid h
                clear h
                go_wp2_with fail
                refine (fx_len H.out (j : Int) (by rw [HSM.out])).mono ?_
                rintro e _ ⟨rfl, rfl⟩
                go_wp2_with fail
                go_roundw
                case rel => exact ⟨k + 1, j, S, I, ga, c, by omega, by omega, by omega, by go_num, rfl, HI.out, HGA.out, HRM.out, H.out⟩
                case measure => (simp [intOf] <;> omega)
            · have hnw := room_new (t := t) (most := most) HRM.out hb (by rw [HSM.out]; omega) (by omega)
              have HP := Lib.hid (fx_put H.out id t (by omega) (by omega) (by omega) hnw.1 rfl)
              have HNW := Lib.hid hnw.2
              unfold apt at HP
              have hm0 : ¬ most ≤ 0 := by omega
              have hmm : (j : Int) < most := by omega
              clear hnw hb
              go_wp2_with fail
              refine HP.out.mono ?_
              rintro e w2 ⟨rfl, h⟩
              have H2 := Lib.hid h
              have hrow := h.row (List.mem_cons_self ..)
              have HW3 := Lib.hid (show (w2.alloc (.cells #[.int .u64 (id : Int)] 29)).ownsRow 0 29 1 (.slice (some ⟨ga, 0, none⟩) j c) j (u64s I) from by have := hrow.alloc (.cells #[.int .u64 (id : Int)] 29); rw [HI.out] at this; exact this)
              clear h hrow HP
              go_wp2_with (at_builtin; refine wpList_append_lies _ rfl _ _ _ rfl 0 29 i0 (.int .u64 0) 1 8 Try.underlying35 hi0 hi1 hi2 hi3 rfl (by decide) (.slice (some ⟨ga, 0, none⟩) j c) j (u64s I) rfl HW3.out ⟨w2.heap.size, 0, none⟩ 1 1 [.int .u64 (id : Int)] rfl rfl (World.news_of_block (B := w2.heap.size) (cs := #[.int .u64 (id : Int)]) (t := 29) (fr := (0, 0)) (news1 rfl)) (by simp [Value.oneCell']) (by omega) (by unfold maxLen; omega) (by omega) (Nat.zero_le _) (w2.heap.size + 1) (by simp) ?_; intro ge cq w5 hown5 hgrow5 hat5 hlt5)
              have h5 := H2.out.append HI.out.symm (fun r hr => by cases hr) (fun b hb => by simp [Value.ownBlock] at hb; subst hb; exact HGA.out) hown5 hgrow5 hat5
              have H5 := Lib.hid h5
              have HGE := Lib.hid (show w.heap.size ≤ ge by
                rcases hat5 with h | h
                · simp [Value.ownBlock] at h; subst h; exact HGA.out
                · have := H2.out.below.size; omega)
              clear h5 hown5 hgrow5 hat5
              refine (fx_len H5.out ((j : Int) + 1) (by rw [HNW.out.len, List.length_append, HI.out]; simp)).mono ?_
              rintro e _ ⟨rfl, rfl⟩
              go_wp2_with fail
              go_roundw
              case rel => exact ⟨k + 1, j + 1, putS S most id t, I ++ [id], ge, cq, by omega, by omega, by omega, by go_num, rfl, by rw [List.length_append, HI.out]; rfl, HGE.out, HNW.out, H5.out⟩
              case measure => (simp [intOf] <;> omega)
          · have hol := room_old (t := t) (most := most) HRM.out H.out.facts'.2.1 hb (by omega)
            have HP := Lib.hid (fx_put H.out id t (by omega) (by omega) (by omega) hol.1 rfl)
            have HOL := Lib.hid hol.2
            unfold apt at HP
            clear hol hb
            go_wp2_with fail
            refine HP.out.mono ?_
            rintro e w2 ⟨rfl, h⟩
            have H := Lib.hid h
            clear h
            go_wp2_with fail
            refine (fx_len H.out (j : Int) (by rw [HOL.out.len, HI.out])).mono ?_
            rintro e _ ⟨rfl, rfl⟩
            go_wp2_with fail
            go_roundw
            case rel => exact ⟨k + 1, j, putS S most id t, I, ga, c, by omega, by omega, by omega, by go_num, rfl, HI.out, HGA.out, HOL.out, H.out⟩
            case measure => (simp [intOf] <;> omega)
    · have hway : ¬ k < len ∨ (k < len ∧ ¬ k < 40) := by omega
      have hdw := due_whole (S := S) (n := 300) (fun x hx => by have := HRM.out.low x hx; omega)
      have HD := Lib.hid (fx_due H.out 300 (idsOf S) m (by decide) (by omega) (by rw [hdw.1]) (by unfold idsOf; rw [List.length_map]; exact HSM.out) hdw.2)
      unfold apt at HD
      clear hin hdw
      rcases hway with hkl | ⟨hkl, hk40⟩
      all_goals
        go_wp2_with fail
        refine HD.out.mono ?_
        rintro e x1 ⟨a1, c1, rfl, h⟩
        have H := Lib.hid h
        clear h
        go_wp2_with fail
        refine (fx_len H.out 0 rfl).mono ?_
        rintro e _ ⟨rfl, rfl⟩
        go_wp2_with fail
        refine (fixed_any _).mono ?_
        rintro e x2 ⟨rfl, hb⟩
        have hB := below_from H.out.below H.out.below.size hb
        clear hb
        go_wp2
        go_ret
        exact ⟨rfl, hB⟩
end Go.Proofs.Ytjdeejbpkdgohaa
