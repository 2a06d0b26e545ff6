/- The walk of OfferMore. -/
import Derived.Test.YtpojhdabpajjkaaMoreP
import Derived.Test.YtpojhdabpajjkaaR
import Derived.Test.YtpojhdabpajjkaaBoth
namespace Go.Proofs.Ytpojhdabpajjkaa
open Go.RowKit
set_option maxHeartbeats 8000000
set_option maxRecDepth 100000
set_option linter.unusedVariables false

theorem ints_cons (y : Int) (l : List Int) (z : Int) : ints (y :: (l ++ [z])) = ints (y :: l) ++ [.int .i64 z] := by simp [ints]
theorem more_core (a b : Option Addr) (len cap lenb capb : Nat) (p q : Nat → Nat) (f : Nat) (w : World) (hr : URow .u8 256 w a len p) (hr2 : URow .u8 256 w b lenb q) (hf : f < 256) :
    Calls Try.prog 8 #[.slice a len cap, .slice b lenb capb, .int .u8 f] w fun e w' => e = .returned (.bool true) ∧ Below w.heap.size w w' := by
  obtain ⟨hlen, hcell, hlt⟩ := hr
  obtain ⟨hlen2, hcell2, hlt2⟩ := hr2
  have HC := Lib.hid hcell
  have HL := Lib.hid hlt
  have HC2 := Lib.hid hcell2
  have HL2 := Lib.hid hlt2
  clear hcell hlt hcell2 hlt2
  obtain ⟨i0, hi0, hi1, hi2, hi3⟩ := info_parts infoInt
  obtain ⟨y, hy, hy1, hy2⟩ : ∃ y : Nat, 1 + (f : Int) % 255 = (y : Int) ∧ 1 ≤ y ∧ y ≤ 255 := ⟨(1 + (f : Int) % 255).toNat, by omega, by omega, by omega⟩
  have hf0 : (0 : Int) ≤ (f : Int) := by omega
  go_enter Try.func8, Try.ntmps8
  go_wp2_with fail
  clear hy hf0 hf
  go_loopw [8, 10, 12] (fun va vc i wr => ∃ (k g c g2 c2 : Nat) (l : List Int), k ≤ len ∧ k ≤ 7 ∧ i = .int .i64 k ∧ l.length = k ∧ okL l ∧ va = .slice (some ⟨g, 0, none⟩) l.length c ∧ vc = .slice (some ⟨g2, 0, none⟩) (l.length + 1) c2 ∧ (g ≠ g2 ∧ g ≠ w.heap.size + 1 ∧ g ≠ w.heap.size + 3 ∧ g2 ≠ w.heap.size + 1 ∧ g2 ≠ w.heap.size + 3) ∧ wr.ownsRow w.heap.size 3 1 (.slice (some ⟨g, 0, none⟩) l.length c) l.length (ints l) ∧ wr.ownsRow w.heap.size 3 1 (.slice (some ⟨g2, 0, none⟩) (l.length + 1) c2) (l.length + 1) (ints ((y : Int) :: l)) ∧ At wr (w.heap.size + 1) 3 #[] ∧ At wr (w.heap.size + 3) 3 #[.int .i64 (y : Int)] ∧ Below w.heap.size w wr) (fun _ _ i _ => 7 - (intOf i).toNat)
  case atStart =>
    refine ⟨0, w.heap.size, 0, w.heap.size + 2, 1, [], Nat.zero_le _, Nat.zero_le _, rfl, rfl, okL_nil, rfl, rfl, (by omega), (((World.ownsRow_made w #[] 0 (Nat.le_refl _) (by decide) rfl).alloc _).alloc _).alloc _, ?_, ?_, ?_, by go_grown⟩
    · have h := World.ownsRow_lit (base := w.heap.size) (e := 3) (size := 1) ((w.alloc (Obj.cells #[] 3)).alloc (Obj.cells #[] 3)) #[.int .i64 (y : Int)] 1 (by simp; omega) (by decide) rfl
      simp only [World.size_alloc, Nat.add_assoc, Nat.reduceAdd] at h
      exact h.alloc _
    · have h := At.new (w.alloc (Obj.cells #[] 3)) 3 #[]
      simp only [World.size_alloc] at h
      exact (h.alloc _).alloc _
    · have h := At.new (((w.alloc (Obj.cells #[] 3)).alloc (Obj.cells #[] 3)).alloc (Obj.cells #[.int .i64 (y : Int)] 3)) 3 #[.int .i64 (y : Int)]
      simp only [World.size_alloc, Nat.add_assoc, Nat.reduceAdd] at h
      exact h
  case round =>
    obtain ⟨k, g, c, g2, c2, l, hk1, hk2, rfl, hll, hok, rfl, rfl, ⟨n1, n2, n3, n4, n5⟩, hown, hown2, hA1, hA3, hB⟩ := hrel
    have HLL := Lib.hid hll
    have hl8 : l.length ≤ 7 := by omega
    have HW := Lib.hid hown
    have HW2 := Lib.hid hown2
    have HOK := Lib.hid hok
    have HA1 := Lib.hid hA1
    have HA3 := Lib.hid hA3
    have lA := hA3.lt
    have lg := (row_some hown).2
    have lg2 := (row_some hown2).2
    clear hll hown hown2 hok hA1 hA3
    by_cases hin : k < len ∧ k < 7
    · obtain ⟨hkl, hk8⟩ := hin
      obtain ⟨blk, off, rfl, hci⟩ := HC.out k hkl
      have hgk := HL.out k hkl
      have cc := keep hB hci
      generalize p k = x at cc hgk hci
      have HCI := Lib.hid hci
      clear hci
      have hkl' : (k : Int) < (len : Int) := by omega
      have hk0 : (0 : Int) ≤ (k : Int) := by omega
      obtain ⟨z, hz⟩ : ∃ z : Int, 1 + (x : Int) % 255 = z := ⟨_, rfl⟩
      have hz1 : 1 ≤ z := by omega
      have hz2 : z ≤ 255 := by omega
      have HW3 := Lib.hid (HW.out.alloc (.cells #[.int .i64 z] 3))
      have l7 := hB.size
      have tok1 : True := trivial
      go_wp2_with (at_builtin; first | (have _t := tok1; refine wpList_append_lies _ rfl _ _ _ rfl w.heap.size 3 i0 (.int .i64 0) 1 8 Try.underlying22 hi0 hi1 hi2 hi3 rfl (by decide) (.slice (some ⟨g, 0, none⟩) l.length c) (l.length) (ints l) rfl HW3.out ⟨wr.heap.size, 0, none⟩ 1 1 [.int .i64 z] rfl rfl (World.news_of_block (B := wr.heap.size) (cs := #[.int .i64 z]) (t := 3) (fr := (0, 0)) (news1 rfl)) (by simp [Value.oneCell']) (by omega) (by unfold maxLen; omega) (by omega) (by simp; omega) (wr.heap.size + 1) (by simp) ?_; intro ge5 cq5 w5 hown5 hgrow5 hat5 hlt5; clear tok1; have HGE := Lib.hid (lies hat5); have hB5 := (hB.alloc hB.size (.cells #[.int .i64 z] 3)).grown hgrow5 (by simp; omega) (fun k hk => (HW3.out.lt k hk).1); have cc5 := keep hB5 HCI.out; have HO5 := Lib.hid hown5; have HC5 := Lib.hid ((HW2.out.alloc (.cells #[.int .i64 z] 3)).kept hgrow5 (.inr (by simp [Value.ownBlock]; omega))); have HA15 := Lib.hid ((HA1.out.alloc (.cells #[.int .i64 z] 3)).grown hgrow5 (by simp [Value.ownBlock]; omega)); have HA35 := Lib.hid ((HA3.out.alloc (.cells #[.int .i64 z] 3)).grown hgrow5 (by simp [Value.ownBlock]; omega)); have hl5 := hB5.size; have hgs := hgrow5.size; rw [World.size_alloc] at hgs; have lge := hlt5; clear hgrow5 hown5 cc hat5; have HC6 := Lib.hid (HC5.out.alloc (.cells #[.int .i64 z] 3)); have tok2 : True := trivial) | (have _t := tok2; refine wpList_append_lies _ rfl _ _ _ rfl w.heap.size 3 i0 (.int .i64 0) 1 8 Try.underlying22 hi0 hi1 hi2 hi3 rfl (by decide) (.slice (some ⟨g2, 0, none⟩) (l.length + 1) c2) (l.length + 1) (ints ((y : Int) :: l)) rfl HC6.out ⟨w5.heap.size, 0, none⟩ 1 1 [.int .i64 z] rfl rfl (World.news_of_block (B := w5.heap.size) (cs := #[.int .i64 z]) (t := 3) (fr := (0, 0)) (news1 rfl)) (by simp [Value.oneCell']) (by omega) (by unfold maxLen; omega) (by omega) (by simp; omega) (w5.heap.size + 1) (by simp) ?_; intro ge6 cq6 w6 hown6 hgrow6 hat6 hlt6; clear tok2))
      have ho6 := (HO5.out.alloc (.cells #[.int .i64 z] 3)).kept hgrow6 (.inr (by have := HGE.out; simp [Value.ownBlock]; omega))
      have hA16 := (HA15.out.alloc (.cells #[.int .i64 z] 3)).grown hgrow6 (by simp [Value.ownBlock]; omega)
      have hA36 := (HA35.out.alloc (.cells #[.int .i64 z] 3)).grown hgrow6 (by simp [Value.ownBlock]; omega)
      have hB6 := (hB5.alloc hl5 (.cells #[.int .i64 z] 3)).grown hgrow6 (by simp; omega) (fun k hk => (HC6.out.lt k hk).1)
      have hd6 := lies hat6
      have hd5 := HGE.out
      have e1 : (l ++ [z]).length = l.length + 1 := by simp
      go_roundw
      case rel => exact ⟨k + 1, ge5, cq5, ge6, cq6, l ++ [z], by omega, by omega, by go_num, by simp [HLL.out], okL_app HOK.out hz1 hz2, by rw [e1], by rw [e1], by omega, by rw [e1, ints_app]; exact ho6, by rw [e1, ints_cons]; exact hown6, hA16, hA36, hB6⟩
      case measure => (simp [intOf] <;> omega)
    · have hway : ¬ k < len ∨ (k < len ∧ ¬ k < 7) := by omega
      have hb0 : wr.ownsRow w.heap.size 3 1 (.slice (some ⟨w.heap.size + 1, 0, none⟩) 0 0) 0 (ints []) := ⟨rfl, .inr ⟨w.heap.size + 1, 0, #[], rfl, by omega, HA1.out, Nat.le_refl _, by decide, rfl, rfl⟩⟩
      have hd0 : wr.ownsRow w.heap.size 3 1 (.slice (some ⟨w.heap.size + 3, 0, none⟩) 1 1) 1 (ints [(y : Int)]) := ⟨rfl, .inr ⟨w.heap.size + 3, 1, #[.int .i64 (y : Int)], rfl, by omega, HA3.out, Nat.le_refl _, by decide, rfl, rfl⟩⟩
      have HB0 := Lib.hid hb0
      have HD0 := Lib.hid hd0
      clear hin hb0 hd0 HA1 HA3 HC HL HLL hk2
      rcases hway with hkl | ⟨hkl, hk8⟩
      all_goals
        go_wp2_with fail
        go_loopw [9, 11, 13] (fun vb vd i wx => ∃ (j h c3 h2 c4 : Nat) (m : List Int), j ≤ lenb ∧ j ≤ 7 ∧ i = .int .i64 j ∧ m.length = j ∧ okL m ∧ vb = .slice (some ⟨h, 0, none⟩) m.length c3 ∧ vd = .slice (some ⟨h2, 0, none⟩) (m.length + 1) c4 ∧ (h ≠ h2 ∧ h ≠ g ∧ h ≠ g2 ∧ h2 ≠ g ∧ h2 ≠ g2) ∧ wx.ownsRow w.heap.size 3 1 (.slice (some ⟨h, 0, none⟩) m.length c3) m.length (ints m) ∧ wx.ownsRow w.heap.size 3 1 (.slice (some ⟨h2, 0, none⟩) (m.length + 1) c4) (m.length + 1) (ints ((y : Int) :: m)) ∧ wx.ownsRow w.heap.size 3 1 (.slice (some ⟨g, 0, none⟩) l.length c) l.length (ints l) ∧ wx.ownsRow w.heap.size 3 1 (.slice (some ⟨g2, 0, none⟩) (l.length + 1) c2) (l.length + 1) (ints ((y : Int) :: l)) ∧ Below w.heap.size w wx) (fun _ _ i _ => 7 - (intOf i).toNat)
        case atStart => exact ⟨0, w.heap.size + 1, 0, w.heap.size + 3, 1, [], Nat.zero_le _, Nat.zero_le _, rfl, rfl, okL_nil, rfl, rfl, by omega, HB0.out, HD0.out, HW.out, HW2.out, hB⟩
        case round =>
          obtain ⟨j, h, c3, h2, c4, m, hj1, hj2, rfl, hmm, hokm, rfl, rfl, ⟨m1, m2, m3, m4, m5⟩, hown3, hown4, hown, hown2, hB2⟩ := hrel
          have HMM := Lib.hid hmm
          have hm8 : m.length ≤ 7 := by omega
          have HX := Lib.hid hown3
          have HX2 := Lib.hid hown4
          have HWa := Lib.hid hown
          have HWc := Lib.hid hown2
          have HOKM := Lib.hid hokm
          have lh := (row_some hown3).2
          have lh2 := (row_some hown4).2
          have lga := (row_some hown).2
          have lgc := (row_some hown2).2
          clear hmm hown3 hown4 hown hown2 hokm hB lA lg lg2
          by_cases hin2 : j < lenb ∧ j < 7
          · obtain ⟨hjl, hj8⟩ := hin2
            obtain ⟨blk, off, rfl, hci⟩ := HC2.out j hjl
            have hgk := HL2.out j hjl
            have cc := keep hB2 hci
            generalize q j = x at cc hgk hci
            have HCI := Lib.hid hci
            clear hci
            have hjl' : (j : Int) < (lenb : Int) := by omega
            have hj0 : (0 : Int) ≤ (j : Int) := by omega
            obtain ⟨z, hz⟩ : ∃ z : Int, 1 + (x : Int) % 255 = z := ⟨_, rfl⟩
            have hz1 : 1 ≤ z := by omega
            have hz2 : z ≤ 255 := by omega
            have HX3 := Lib.hid (HX.out.alloc (.cells #[.int .i64 z] 3))
            have l7 := hB2.size
            have tok1 : True := trivial
            go_wp2_with (at_builtin; first | (have _t := tok1; refine wpList_append_lies _ rfl _ _ _ rfl w.heap.size 3 i0 (.int .i64 0) 1 8 Try.underlying22 hi0 hi1 hi2 hi3 rfl (by decide) (.slice (some ⟨h, 0, none⟩) m.length c3) (m.length) (ints m) rfl HX3.out ⟨wr.heap.size, 0, none⟩ 1 1 [.int .i64 z] rfl rfl (World.news_of_block (B := wr.heap.size) (cs := #[.int .i64 z]) (t := 3) (fr := (0, 0)) (news1 rfl)) (by simp [Value.oneCell']) (by omega) (by unfold maxLen; omega) (by omega) (by simp; omega) (wr.heap.size + 1) (by simp) ?_; intro ge5 cq5 w5 hown5 hgrow5 hat5 hlt5; clear tok1; have HGE := Lib.hid (lies hat5); have hB5 := (hB2.alloc hB2.size (.cells #[.int .i64 z] 3)).grown hgrow5 (by simp; omega) (fun k hk => (HX3.out.lt k hk).1); have cc5 := keep hB5 HCI.out; have HO5 := Lib.hid hown5; have HC5 := Lib.hid ((HX2.out.alloc (.cells #[.int .i64 z] 3)).kept hgrow5 (.inr (by simp [Value.ownBlock]; omega))); have HA15 := Lib.hid ((HWa.out.alloc (.cells #[.int .i64 z] 3)).kept hgrow5 (.inr (by simp [Value.ownBlock]; omega))); have HA35 := Lib.hid ((HWc.out.alloc (.cells #[.int .i64 z] 3)).kept hgrow5 (.inr (by simp [Value.ownBlock]; omega))); have hl5 := hB5.size; have hgs := hgrow5.size; rw [World.size_alloc] at hgs; have lge := hlt5; clear hgrow5 hown5 cc hat5; have HC6 := Lib.hid (HC5.out.alloc (.cells #[.int .i64 z] 3)); have tok2 : True := trivial) | (have _t := tok2; refine wpList_append_lies _ rfl _ _ _ rfl w.heap.size 3 i0 (.int .i64 0) 1 8 Try.underlying22 hi0 hi1 hi2 hi3 rfl (by decide) (.slice (some ⟨h2, 0, none⟩) (m.length + 1) c4) (m.length + 1) (ints ((y : Int) :: m)) rfl HC6.out ⟨w5.heap.size, 0, none⟩ 1 1 [.int .i64 z] rfl rfl (World.news_of_block (B := w5.heap.size) (cs := #[.int .i64 z]) (t := 3) (fr := (0, 0)) (news1 rfl)) (by simp [Value.oneCell']) (by omega) (by unfold maxLen; omega) (by omega) (by simp; omega) (w5.heap.size + 1) (by simp) ?_; intro ge6 cq6 w6 hown6 hgrow6 hat6 hlt6; clear tok2))
            have ho6 := (HO5.out.alloc (.cells #[.int .i64 z] 3)).kept hgrow6 (.inr (by have := HGE.out; simp [Value.ownBlock]; omega))
            have hA16 := (HA15.out.alloc (.cells #[.int .i64 z] 3)).kept hgrow6 (.inr (by simp [Value.ownBlock]; omega))
            have hA36 := (HA35.out.alloc (.cells #[.int .i64 z] 3)).kept hgrow6 (.inr (by simp [Value.ownBlock]; omega))
            have hB6 := (hB5.alloc hl5 (.cells #[.int .i64 z] 3)).grown hgrow6 (by simp; omega) (fun k hk => (HC6.out.lt k hk).1)
            have hd6 := lies hat6
            have hd5 := HGE.out
            have e1 : (m ++ [z]).length = m.length + 1 := by simp
            go_roundw
            case rel => exact ⟨j + 1, ge5, cq5, ge6, cq6, m ++ [z], by omega, by omega, by go_num, by simp [HMM.out], okL_app HOKM.out hz1 hz2, by rw [e1], by rw [e1], by omega, by rw [e1, ints_app]; exact ho6, by rw [e1, ints_cons]; exact hown6, hA16, hA36, hB6⟩
            case measure => (simp [intOf] <;> omega)
          · have hway2 : ¬ j < lenb ∨ (j < lenb ∧ ¬ j < 7) := by omega
            have hpl := more_plain HOK.out HOKM.out hl8 hm8 hy1 hy2
            have hone := make_len [(y : Int)]
            have ha8 := make_len l
            have hb8 := make_len m
            have hc8 := make_len ((y : Int) :: l)
            have hd8 := make_len ((y : Int) :: m)
            have t1 := fun W H => make_any (some ⟨g, 0, none⟩) c l W H (by omega)
            have t2 := fun W H => make_any (some ⟨h, 0, none⟩) c3 m W H (by omega)
            have t3 := fun W H => make_any (some ⟨g2, 0, none⟩) c2 ((y : Int) :: l) W H (by simp; omega)
            have t4 := fun W H => make_any (some ⟨h2, 0, none⟩) c4 ((y : Int) :: m) W H (by simp; omega)
            have t5 := fun W => best_any (str (makeS l)) (str (makeS m)) W (by rw [str_size]; omega) (by rw [str_size]; omega)
            have t6 := fun W => best_any (str (makeS ((y : Int) :: l))) (str (makeS ((y : Int) :: m))) W (by rw [str_size]; omega) (by rw [str_size]; omega)
            have t7 := fun W => rmake_any (some ⟨W.heap.size, 0, none⟩) 1 [(y : Int)] (W.alloc (.cells #[.int .i64 (y : Int)] 3)) (ints_lit W 3 [(y : Int)]) (by simp)
            have t8 := fun W => both_any (str (makeS ((y : Int) :: l))) (str [UInt8.ofNat y]) W (by rw [str_size]; omega) (by rw [str_size]; simp)
            have I1 := Lib.hid (ints_of HWa.out)
            have I2 := Lib.hid (ints_of HX.out)
            have I3 := Lib.hid (ints_of (l := (y : Int) :: l) HWc.out)
            have I4 := Lib.hid (ints_of (l := (y : Int) :: m) HX2.out)
            obtain ⟨p1, p2, p3, p4, p5, p6, p7⟩ := hpl
            unfold MakeOk at t1 t2 t3 t4 t7
            unfold StrOk at t8
            simp only [str_list, List.length_cons, p1, p2, p3, p4, p5, p6, p7, List.length_nil, Nat.zero_add] at t3 t4 t5 t6 t7 t8
            clear p1 p2 p3 p4 p5 p6 p7 hone ha8 hb8 hc8 hd8 hin2
            generalize str (makeS l) = S1 at t1 t5
            generalize str (makeS m) = S2 at t2 t5
            generalize str (makeS ((y : Int) :: l)) = S3 at t3 t6 t8
            generalize str (makeS ((y : Int) :: m)) = S4 at t4 t6
            generalize str [UInt8.ofNat y] = S5 at t7 t8
            generalize makeE l = E1 at t1
            generalize makeE m = E2 at t2
            generalize bestE (makeS l) (makeS m) = E3 at t5
            generalize bestV (makeS l) (makeS m) = V1 at t5 t6
            have hmx : ∃ M : Nat, max V1 y = M ∧ (((y : Int) ≤ (V1 : Int) ∧ M = V1) ∨ (¬ (y : Int) ≤ (V1 : Int) ∧ M = y)) := by
              by_cases h : y ≤ V1
              · exact ⟨V1, by omega, .inl ⟨by omega, rfl⟩⟩
              · exact ⟨y, by omega, .inr ⟨by omega, rfl⟩⟩
            obtain ⟨M, hM, hmx⟩ := hmx
            rw [hM] at t6
            clear hM
            have T1 := Lib.hid t1
            have T2 := Lib.hid t2
            have T3 := Lib.hid t3
            have T4 := Lib.hid t4
            have T5 := Lib.hid t5
            have T6 := Lib.hid t6
            have T7 := Lib.hid t7
            have T8 := Lib.hid t8
            clear t1 t2 t3 t4 t5 t6 t7 t8
            clear HX HX2 HWa HWc HOKM HOK HMM HC2 HL2 HW HW2 HB0 HD0
            rcases hway2 with hjl | ⟨hjl, hj8⟩
            all_goals
              go_wp2_with fail
              refine (T1.out _ I1.out).mono ?_
              rintro e x1 ⟨rfl, hb⟩
              have I2 := Lib.hid (I2.out.keep hb)
              have I3 := Lib.hid (I3.out.keep hb)
              have I4 := Lib.hid (I4.out.keep hb)
              have hx1 := below_from hB2 hB2.size hb
              clear hb
              go_wp2_with fail
              refine (T2.out _ I2.out).mono ?_
              rintro e x2 ⟨rfl, hb⟩
              have I3 := Lib.hid (I3.out.keep hb)
              have I4 := Lib.hid (I4.out.keep hb)
              have hx2 := below_from hx1 hx1.size hb
              clear hb hx1
              go_wp2_with fail
              refine (T3.out _ I3.out).mono ?_
              rintro e x3 ⟨rfl, hb⟩
              have I4 := Lib.hid (I4.out.keep hb)
              have hx3 := below_from hx2 hx2.size hb
              clear hb hx2
              go_wp2_with fail
              refine (T4.out _ I4.out).mono ?_
              rintro e x4 ⟨rfl, hb⟩
              have hx4 := below_from hx3 hx3.size hb
              clear hb hx3
              go_wp2_with fail
              refine (T5.out _).mono ?_
              rintro e x5 ⟨rfl, hb⟩
              have hx5 := below_from hx4 hx4.size hb
              clear hb hx4
              go_wp2_with fail
              refine (T6.out _).mono ?_
              rintro e x6 ⟨rfl, hb⟩
              have hx6 := below_from hx5 hx5.size hb
              clear hb hx5
              go_wp2_with fail
              refine (T7.out _).mono ?_
              rintro e x7 ⟨rfl, hb⟩
              have hx7 := below_from hx6 hx6.size (below_of hb)
              clear hb hx6
              rcases hmx with ⟨hm1, rfl⟩ | ⟨hm1, rfl⟩
              all_goals
                go_wp2_with fail
                refine (T8.out _).mono ?_
                rintro e x8 ⟨rfl, hb⟩
                have hx8 := below_from hx7 hx7.size hb
                clear hb hx7
                go_wp2_with fail
                refine (fixed_any _).mono ?_
                rintro e x9 ⟨rfl, hb⟩
                have hx9 := below_from hx8 hx8.size hb
                clear hb hx8
                go_wp2
                go_ret
                exact ⟨rfl, hx9⟩
theorem more_int (a b : Option Addr) (len cap lenb capb : Nat) (p q : Nat → Nat) (x : Int) (w : World) (hr : URow .u8 256 w a len p) (hr2 : URow .u8 256 w b lenb q) (hx : (Lit.int .u8 x).wf = true) :
    Calls Try.prog 8 #[.slice a len cap, .slice b lenb capb, .int .u8 x] w fun e w' => e = .returned (.bool true) ∧ Below w.heap.size w w' := by
  obtain ⟨f, rfl, hf⟩ := nat_u8 hx
  exact more_core a b len cap lenb capb p q f w hr hr2 hf
end Go.Proofs.Ytpojhdabpajjkaa
