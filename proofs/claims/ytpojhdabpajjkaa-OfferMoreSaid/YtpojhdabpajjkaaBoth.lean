/- The walk of OfferBoth. -/
import Derived.Test.YtpojhdabpajjkaaI
namespace Go.Proofs.Ytpojhdabpajjkaa
open Go.RowKit
set_option maxHeartbeats 4000000
set_option maxRecDepth 100000
set_option linter.unusedVariables false

theorem both_self {l : List UInt8} (h : rightB l = true) : bothL l l = l := by
  unfold bothL
  rw [h]
  exact List.filter_eq_self.2 (fun c hc => by simp [hc])
theorem both_right {a b : List UInt8} (ha : rightB a = true) (hb : rightB b = true) (h : bothL a b ≠ []) : rightB (bothL a b) = true := by
  have h1 := (both_mem ha hb).1
  have h2 := both_len a b
  have h3 := (right_dec ha).2.2
  have h4 := List.length_pos_iff.2 h
  unfold rightB
  rw [h1]; simp; omega
/-- where the new row lies. -/
theorem lies {g ge H : Nat} {n c : Nat} (h : (Value.slice (some ⟨g, 0, none⟩) n c).ownBlock = some ge ∨ ge = H) : ge = g ∨ ge = H := by
  rcases h with h | h
  · left; simpa [Value.ownBlock] using h.symm
  · exact .inr h
theorem row_some {w : World} {base : Nat} {g n cap : Nat} {xs : List Value} (h : w.ownsRow base 3 1 (.slice (some ⟨g, 0, none⟩) n cap) n xs) : base ≤ g ∧ g < w.heap.size := h.lt g rfl

theorem oboth_core (a b : Option Addr) (len cap lenb capb : Nat) (p q : Nat → Nat) (w : World) (hr : URow .u8 256 w a len p) (hr2 : URow .u8 256 w b lenb q) :
    Calls Try.prog 5 #[.slice a len cap, .slice b lenb capb] w fun e w' => e = .returned (.bool true) ∧ Below w.heap.size w w' := by
  obtain ⟨hlen, hcell, hlt⟩ := hr
  obtain ⟨hlen2, hcell2, hlt2⟩ := hr2
  have HC := Lib.hid hcell
  have HL := Lib.hid hlt
  have HC2 := Lib.hid hcell2
  have HL2 := Lib.hid hlt2
  clear hcell hlt hcell2 hlt2
  obtain ⟨i0, hi0, hi1, hi2, hi3⟩ := info_parts infoInt
  go_enter Try.func5, Try.ntmps5
  go_wp2_with fail
  go_loopw [5, 7] (fun v i wr => ∃ (k g c : Nat) (l : List Int), k ≤ len ∧ k ≤ 8 ∧ i = .int .i64 k ∧ l.length = k ∧ okL l ∧ v = .slice (some ⟨g, 0, none⟩) l.length c ∧ g ≠ w.heap.size + 1 ∧ wr.ownsRow w.heap.size 3 1 (.slice (some ⟨g, 0, none⟩) l.length c) l.length (ints l) ∧ At wr (w.heap.size + 1) 3 #[] ∧ Below w.heap.size w wr) (fun _ i _ => 8 - (intOf i).toNat)
  case atStart => exact ⟨0, w.heap.size, 0, [], Nat.zero_le _, Nat.zero_le _, rfl, rfl, okL_nil, rfl, by omega, (World.ownsRow_made w #[] 0 (Nat.le_refl _) (by decide) rfl).alloc _, (by have h := At.new (w.alloc (Obj.cells #[] 3)) 3 #[]; rw [World.size_alloc] at h; exact h), by go_grown⟩
  case round =>
    obtain ⟨k, g, c, l, hk1, hk2, rfl, hll, hok, rfl, hg, hown, hA, hB⟩ := hrel
    have HLL := Lib.hid hll
    have hl8 : l.length ≤ 8 := by omega
    have HW := Lib.hid hown
    have HOK := Lib.hid hok
    have HA := Lib.hid hA
    have lA := hA.lt
    clear hll hown hok hA
    by_cases hin : k < len ∧ k < 8
    · obtain ⟨hkl, hk8⟩ := hin
      obtain ⟨blk, off, rfl, hci⟩ := HC.out k hkl
      have hgk := HL.out k hkl
      have c2 := keep hB hci
      generalize p k = x at c2 hgk
      clear hci
      have hkl' : (k : Int) < (len : Int) := by omega
      have hk0 : (0 : Int) ≤ (k : Int) := by omega
      obtain ⟨y, hy⟩ : ∃ y : Int, 1 + (x : Int) % 255 = y := ⟨_, rfl⟩
      have hy1 : 1 ≤ y := by omega
      have hy2 : y ≤ 255 := by omega
      have HW3 := Lib.hid (HW.out.alloc (.cells #[.int .i64 y] 3))
      have l7 := hB.size
      go_wp2_with (at_builtin; refine wpList_append_lies _ rfl _ _ _ rfl w.heap.size 3 i0 (.int .i64 0) 1 8 Try.underlying22 hi0 hi1 hi2 hi3 rfl (by decide) (.slice (some ⟨g, 0, none⟩) l.length c) l.length (ints l) rfl HW3.out ⟨wr.heap.size, 0, none⟩ 1 1 [.int .i64 y] rfl rfl (World.news_of_block (B := wr.heap.size) (cs := #[.int .i64 y]) (t := 3) (fr := (0, 0)) (news1 rfl)) (by simp [Value.oneCell']) (by omega) (by unfold maxLen; omega) (by omega) (by simp; omega) (wr.heap.size + 1) (by simp) ?_; intro ge cq w5 hown5 hgrow5 hat5 hlt5)
      go_roundw
      case rel => exact ⟨k + 1, ge, cq, l ++ [y], by omega, by omega, by go_num, by simp [HLL.out], okL_app HOK.out hy1 hy2, by simp, by rcases lies hat5 with e | e <;> omega, by rw [ints_app]; simpa using hown5, (HA.out.alloc _).grown hgrow5 (by simp [Value.ownBlock]; omega), (hB.alloc hB.size _).grown hgrow5 (by simp; omega) (fun k hk => (HW3.out.lt k hk).1)⟩
      case measure => (simp [intOf] <;> omega)
    · have hway : ¬ k < len ∨ (k < len ∧ ¬ k < 8) := by omega
      have hb0 : wr.ownsRow w.heap.size 3 1 (.slice (some ⟨w.heap.size + 1, 0, none⟩) 0 0) 0 (ints []) := ⟨rfl, .inr ⟨w.heap.size + 1, 0, #[], rfl, by omega, HA.out, Nat.le_refl _, by decide, rfl, rfl⟩⟩
      have HB0 := Lib.hid hb0
      clear hin hb0
      rcases hway with hkl | ⟨hkl, hk8⟩
      all_goals
        go_wp2_with fail
        go_loopw [6, 8] (fun v i wx => ∃ (j g2 c2 : Nat) (m : List Int), j ≤ lenb ∧ j ≤ 8 ∧ i = .int .i64 j ∧ m.length = j ∧ okL m ∧ v = .slice (some ⟨g2, 0, none⟩) m.length c2 ∧ g2 ≠ g ∧ wx.ownsRow w.heap.size 3 1 (.slice (some ⟨g2, 0, none⟩) m.length c2) m.length (ints m) ∧ wx.ownsRow w.heap.size 3 1 (.slice (some ⟨g, 0, none⟩) l.length c) l.length (ints l) ∧ Below w.heap.size w wx) (fun _ i _ => 8 - (intOf i).toNat)
        case atStart => exact ⟨0, w.heap.size + 1, 0, [], Nat.zero_le _, Nat.zero_le _, rfl, rfl, okL_nil, rfl, by omega, HB0.out, HW.out, hB⟩
        case round =>
          obtain ⟨j, g2, c2, m, hj1, hj2, rfl, hmm, hok2, rfl, hg2, hown2, hown, hB2⟩ := hrel
          have HMM := Lib.hid hmm
          have hm8 : m.length ≤ 8 := by omega
          have HW2 := Lib.hid hown2
          have HWa := Lib.hid hown
          have HOK2 := Lib.hid hok2
          have lga := (row_some hown).2
          clear hmm hown2 hown hok2 hB lA
          by_cases hin2 : j < lenb ∧ j < 8
          · obtain ⟨hjl, hj8⟩ := hin2
            obtain ⟨blk, off, rfl, hci⟩ := HC2.out j hjl
            have hgk := HL2.out j hjl
            have c3 := keep hB2 hci
            generalize q j = x at c3 hgk
            clear hci
            have hjl' : (j : Int) < (lenb : Int) := by omega
            have hj0 : (0 : Int) ≤ (j : Int) := by omega
            obtain ⟨y, hy⟩ : ∃ y : Int, 1 + (x : Int) % 255 = y := ⟨_, rfl⟩
            have hy1 : 1 ≤ y := by omega
            have hy2 : y ≤ 255 := by omega
            have HW3 := Lib.hid (HW2.out.alloc (.cells #[.int .i64 y] 3))
            have l7 := hB2.size
            go_wp2_with (at_builtin; refine wpList_append_lies _ rfl _ _ _ rfl w.heap.size 3 i0 (.int .i64 0) 1 8 Try.underlying22 hi0 hi1 hi2 hi3 rfl (by decide) (.slice (some ⟨g2, 0, none⟩) m.length c2) m.length (ints m) rfl HW3.out ⟨wr.heap.size, 0, none⟩ 1 1 [.int .i64 y] rfl rfl (World.news_of_block (B := wr.heap.size) (cs := #[.int .i64 y]) (t := 3) (fr := (0, 0)) (news1 rfl)) (by simp [Value.oneCell']) (by omega) (by unfold maxLen; omega) (by omega) (by simp; omega) (wr.heap.size + 1) (by simp) ?_; intro ge cq w5 hown5 hgrow5 hat5 hlt5)
            go_roundw
            case rel => exact ⟨j + 1, ge, cq, m ++ [y], by omega, by omega, by go_num, by simp [HMM.out], okL_app HOK2.out hy1 hy2, by simp, by rcases lies hat5 with e | e <;> omega, by rw [ints_app]; simpa using hown5, (HWa.out.alloc _).kept hgrow5 (.inr (by simp [Value.ownBlock]; omega)), (hB2.alloc hB2.size _).grown hgrow5 (by simp; omega) (fun k hk => (HW3.out.lt k hk).1)⟩
            case measure => (simp [intOf] <;> omega)
          · have hway2 : ¬ j < lenb ∨ (j < lenb ∧ ¬ j < 8) := by omega
            have t1 := fun W h => make_any (some ⟨g, 0, none⟩) c l W h (by omega)
            have t2 := fun W h => make_any (some ⟨g2, 0, none⟩) c2 m W h (by omega)
            unfold MakeOk at t1 t2
            have I1 := Lib.hid (ints_of HWa.out)
            have I2 := Lib.hid (ints_of HW2.out)
            have hE0 := str_nil_empty
            clear hin2
            rcases make_of HOK.out hl8 with ⟨he, hs, hE⟩ | ⟨hne, hE, hR⟩
            · rw [hs, hE] at t1
              have hl0' : ((l.length : Int) == 0) = true := by rw [he]; rfl
              clear he hs hE
              rcases make_of HOK2.out hm8 with ⟨he2, hs2, hE2⟩ | ⟨hne2, hE2, hR2⟩
              · rw [hs2, hE2] at t2
                have hm0' : ((m.length : Int) == 0) = true := by rw [he2]; rfl
                clear he2 hs2 hE2
                have T1 := Lib.hid t1
                have T2 := Lib.hid t2
                clear t1 t2
                rcases hway2 with hjl | ⟨hjl, hj8⟩
                all_goals
                  go_wp2_with fail
                  refine (T1.out _ I1.out).mono ?_
                  rintro e y1 ⟨rfl, hb⟩
                  have I2 := Lib.hid (I2.out.keep hb)
                  have hy1 := below_from hB2 hB2.size hb
                  clear hb
                  go_wp2_with fail
                  refine (T2.out _ I2.out).mono ?_
                  rintro e hy2w ⟨rfl, hb⟩
                  have hy2 := below_from hy1 hy1.size hb
                  clear hb
                  go_wp2_with fail
                  refine (fixed_any _).mono ?_
                  rintro e hy3w ⟨rfl, hb⟩
                  have hy3 := below_from hy2 hy2.size hb
                  clear hb
                  go_wp2
                  go_ret
                  exact ⟨rfl, hy3⟩
              · rw [hE2] at t2
                clear hne2 hE2 hR2
                generalize str (makeS m) = s2 at t2
                cases hm0 : ((m.length : Int) == 0)
                all_goals
                  have T1 := Lib.hid t1
                  have T2 := Lib.hid t2
                  clear t1 t2
                  rcases hway2 with hjl | ⟨hjl, hj8⟩
                  all_goals
                    go_wp2_with fail
                    refine (T1.out _ I1.out).mono ?_
                    rintro e y1 ⟨rfl, hb⟩
                    have I2 := Lib.hid (I2.out.keep hb)
                    have hy1 := below_from hB2 hB2.size hb
                    clear hb
                    go_wp2_with fail
                    refine (T2.out _ I2.out).mono ?_
                    rintro e hy2w ⟨rfl, hb⟩
                    have hy2 := below_from hy1 hy1.size hb
                    clear hb
                    go_wp2_with fail
                    refine (fixed_any _).mono ?_
                    rintro e hy3w ⟨rfl, hb⟩
                    have hy3 := below_from hy2 hy2.size hb
                    clear hb
                    go_wp2
                    go_ret
                    exact ⟨rfl, hy3⟩
            · rw [hE] at t1
              rcases make_of HOK2.out hm8 with ⟨he2, hs2, hE2⟩ | ⟨hne2, hE2, hR2⟩
              · rw [hs2, hE2] at t2
                have hm0' : ((m.length : Int) == 0) = true := by rw [he2]; rfl
                clear he2 hs2 hE2 hne hE hR
                generalize str (makeS l) = s1 at t1
                cases hl0 : ((l.length : Int) == 0)
                all_goals
                  have T1 := Lib.hid t1
                  have T2 := Lib.hid t2
                  clear t1 t2
                  rcases hway2 with hjl | ⟨hjl, hj8⟩
                  all_goals
                    go_wp2_with fail
                    refine (T1.out _ I1.out).mono ?_
                    rintro e y1 ⟨rfl, hb⟩
                    have I2 := Lib.hid (I2.out.keep hb)
                    have hy1 := below_from hB2 hB2.size hb
                    clear hb
                    go_wp2_with fail
                    refine (T2.out _ I2.out).mono ?_
                    rintro e hy2w ⟨rfl, hb⟩
                    have hy2 := below_from hy1 hy1.size hb
                    clear hb
                    go_wp2_with fail
                    refine (fixed_any _).mono ?_
                    rintro e hy3w ⟨rfl, hb⟩
                    have hy3 := below_from hy2 hy2.size hb
                    clear hb
                    go_wp2
                    go_ret
                    exact ⟨rfl, hy3⟩
              · rw [hE2] at t2
                clear hne hne2 hE hE2
                obtain ⟨s1, hs1⟩ : ∃ s : ByteArray, str (makeS l) = s := ⟨_, rfl⟩
                obtain ⟨s2, hs2⟩ : ∃ s : ByteArray, str (makeS m) = s := ⟨_, rfl⟩
                rw [hs1] at t1
                rw [hs2] at t2
                have hS1 : makeS l = s1.data.toList := by rw [← hs1]; rfl
                have hS2 : makeS m = s2.data.toList := by rw [← hs2]; rfl
                rw [hS1] at hR
                rw [hS2] at hR2
                have hz1 : s1.size ≤ 8 := by have := (right_dec hR).2.2; simpa using this
                have hz2 : s2.size ≤ 8 := by have := (right_dec hR2).2.2; simpa using this
                have t3 := fun W => both_any s1 s2 W (by omega) (by omega)
                have t4 := fun W => best_any s1 s2 W (by omega) (by omega)
                have t5 := fun W => best_any s2 s1 W (by omega) (by omega)
                have t6 := fun W => both_any s2 s1 W (by omega) (by omega)
                have t7 := fun W => both_any s1 s1 W (by omega) (by omega)
                rw [(best_comm s2.data.toList s1.data.toList).1, (best_comm s2.data.toList s1.data.toList).2] at t5
                rw [both_comm] at t6
                rw [both_self hR] at t7
                have hbr := both_right hR hR2
                rw [bothE, best_top, hR, hR2] at t4 t5
                simp only [Bool.and_true, if_true] at t4 t5
                unfold StrOk at t3 t6 t7
                rw [str_of] at t7
                clear hs1 hs2 hS1 hS2 hR hR2
                have hC8 : (bothL s1.data.toList s2.data.toList).length ≤ 8 := Nat.le_trans (both_len _ _) (by simpa using hz1)
                generalize bothL s1.data.toList s2.data.toList = C at t3 t4 t5 t6 hbr hC8
                have T1 := Lib.hid t1
                have T2 := Lib.hid t2
                have T3 := Lib.hid t3
                have T6 := Lib.hid t6
                have T7 := Lib.hid t7
                clear t1 t2 t3 t6 t7
                cases C with
                | nil =>
                  simp only [if_true, topL] at t4 t5
                  have T4 := Lib.hid t4
                  have T5 := Lib.hid t5
                  clear t4 t5 hbr
                  rcases hway2 with hjl | ⟨hjl, hj8⟩
                  all_goals
                    go_wp2_with fail
                    refine (T1.out _ I1.out).mono ?_
                    rintro e y1 ⟨rfl, hb⟩
                    have I2 := Lib.hid (I2.out.keep hb)
                    have hy1 := below_from hB2 hB2.size hb
                    clear hb
                    go_wp2_with fail
                    refine (T2.out _ I2.out).mono ?_
                    rintro e hy2w ⟨rfl, hb⟩
                    have hy2 := below_from hy1 hy1.size hb
                    clear hb
                    go_wp2_with fail
                    refine (T3.out _).mono ?_
                    rintro e hy3w ⟨rfl, hb⟩
                    have hy3 := below_from hy2 hy2.size hb
                    clear hb
                    go_wp2_with fail
                    refine (T4.out _).mono ?_
                    rintro e hy4w ⟨rfl, hb⟩
                    have hy4 := below_from hy3 hy3.size hb
                    clear hb
                    go_wp2_with fail
                    refine (T5.out _).mono ?_
                    rintro e hy5w ⟨rfl, hb⟩
                    have hy5 := below_from hy4 hy4.size hb
                    clear hb
                    go_wp2_with fail
                    refine (T6.out _).mono ?_
                    rintro e hy6w ⟨rfl, hb⟩
                    have hy6 := below_from hy5 hy5.size hb
                    clear hb
                    go_wp2_with fail
                    refine (fixed_any _).mono ?_
                    rintro e hy7w ⟨rfl, hb⟩
                    have hy7 := below_from hy6 hy6.size hb
                    clear hb
                    go_wp2
                    go_ret
                    exact ⟨rfl, hy7⟩
                | cons d C =>
                  rw [if_neg (by simp)] at t4 t5
                  simp only [topL] at t4 t5
                  have hrc := hbr (by simp)
                  have t8 := fun W => right_any (str (d :: C)) W (by rw [str_size]; omega)
                  rw [str_list, hrc] at t8
                  have hE1 := str_cons_empty d C
                  have h0 : ∀ h, (str (d :: C))[0]'h = d := fun h => rfl
                  have hS' : (0 : Int) < ((str (d :: C)).size : Int) := by rw [str_size]; simp
                  have hcl := byte_lt d
                  have T4 := Lib.hid t4
                  have T5 := Lib.hid t5
                  have T8 := Lib.hid t8
                  clear t4 t5 t8 hbr hrc
                  rcases hway2 with hjl | ⟨hjl, hj8⟩
                  all_goals
                    go_wp2_with fail
                    refine (T1.out _ I1.out).mono ?_
                    rintro e y1 ⟨rfl, hb⟩
                    have I2 := Lib.hid (I2.out.keep hb)
                    have hy1 := below_from hB2 hB2.size hb
                    clear hb
                    go_wp2_with fail
                    refine (T2.out _ I2.out).mono ?_
                    rintro e hy2w ⟨rfl, hb⟩
                    have hy2 := below_from hy1 hy1.size hb
                    clear hb
                    go_wp2_with fail
                    refine (T3.out _).mono ?_
                    rintro e hy3w ⟨rfl, hb⟩
                    have hy3 := below_from hy2 hy2.size hb
                    clear hb
                    go_wp2_with fail
                    refine (T4.out _).mono ?_
                    rintro e hy4w ⟨rfl, hb⟩
                    have hy4 := below_from hy3 hy3.size hb
                    clear hb
                    go_wp2_with fail
                    refine (T5.out _).mono ?_
                    rintro e hy5w ⟨rfl, hb⟩
                    have hy5 := below_from hy4 hy4.size hb
                    clear hb
                    go_wp2_with fail
                    refine (T6.out _).mono ?_
                    rintro e hy6w ⟨rfl, hb⟩
                    have hy6 := below_from hy5 hy5.size hb
                    clear hb
                    go_wp2_with fail
                    refine (T8.out _).mono ?_
                    rintro e _ ⟨rfl, rfl⟩
                    go_wp2_with fail
                    refine (T7.out _).mono ?_
                    rintro e hy7w ⟨rfl, hb⟩
                    have hy7 := below_from hy6 hy6.size hb
                    clear hb
                    go_wp2_with fail
                    refine (fixed_any _).mono ?_
                    rintro e hy8w ⟨rfl, hb⟩
                    have hy8 := below_from hy7 hy7.size hb
                    clear hb
                    go_wp2
                    go_ret
                    exact ⟨rfl, hy8⟩
end Go.Proofs.Ytpojhdabpajjkaa
