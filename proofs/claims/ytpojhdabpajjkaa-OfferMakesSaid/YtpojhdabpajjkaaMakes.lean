/- The walk of OfferMakes. -/
import Derived.Test.YtpojhdabpajjkaaBoth
import Derived.Test.YtpojhdabpajjkaaBest
namespace Go.Proofs.Ytpojhdabpajjkaa
open Go.RowKit
set_option maxHeartbeats 4000000
set_option maxRecDepth 100000
set_option linter.unusedVariables false

def hasI (l : List Int) (V : Nat) : Bool := l.any fun c => c == (V : Int)
theorem hasI_succ (l : List Int) (k : Nat) (h : k < l.length) (V : Nat) : hasI (l.take (k + 1)) V = (hasI (l.take k) V || l[k] == (V : Int)) := by
  unfold hasI
  rw [List.take_succ_eq_append_getElem h, List.any_append]
  simp
theorem has_same {l : List Int} (h : makeE l = 0) (V : Nat) (hV : V < 256) : hasV (makeS l) V = hasI l V := by
  have hm := (make_ok h).2.1
  unfold hasV hasI
  rw [Bool.eq_iff_iff, List.any_eq_true, List.any_eq_true]
  constructor
  · rintro ⟨c, hc, e⟩
    exact ⟨(c.toNat : Int), (hm c).1 hc, by simp at e ⊢; omega⟩
  · rintro ⟨v, hv, e⟩
    refine ⟨UInt8.ofNat V, (hm _).2 ?_, by rw [ofNat_toNat hV]; simp⟩
    rw [ofNat_toNat hV]
    have : v = (V : Int) := by simpa using e
    rw [← this]; exact hv
theorem ints_one (l : List Int) : ∀ u ∈ ints l, u.oneCell' = true := by
  intro u hu
  unfold ints at hu
  rw [List.mem_map] at hu
  obtain ⟨v, _, rfl⟩ := hu
  rfl
theorem row_pos {w : World} {base : Nat} {v : Value} {n : Nat} {xs : List Value} (h : w.ownsRow base 3 1 v n xs) (hn : 0 < n) : ∃ g cap, v = .slice (some ⟨g, 0, none⟩) n cap ∧ base ≤ g ∧ g < w.heap.size := h.form hn

theorem makes_core (a : Option Addr) (len cap : Nat) (p : Nat → Nat) (w : World) (hr : URow .u8 256 w a len p) :
    Calls Try.prog 4 #[.slice a len cap] w fun e w' => e = .returned (.bool true) ∧ Below w.heap.size w w' := by
  obtain ⟨hlen, hcell, hlt⟩ := hr
  have HC := Lib.hid hcell
  have HL := Lib.hid hlt
  clear hcell hlt
  obtain ⟨i0, hi0, hi1, hi2, hi3⟩ := info_parts infoInt
  go_enter Try.func4, Try.ntmps4
  go_wp2_with fail
  go_loopw [3, 4, 5] (fun v v2 i wr => ∃ (k g c g2 c2 : Nat) (l : List Int), k ≤ len ∧ k ≤ 12 ∧ i = .int .i64 k ∧ l.length = k ∧ v = .slice (some ⟨g, 0, none⟩) l.length c ∧ v2 = .slice (some ⟨g2, 0, none⟩) l.length c2 ∧ g ≠ g2 ∧ wr.ownsRow w.heap.size 3 1 (.slice (some ⟨g, 0, none⟩) l.length c) l.length (ints l) ∧ wr.ownsRow w.heap.size 3 1 (.slice (some ⟨g2, 0, none⟩) l.length c2) l.length (ints l.reverse) ∧ Below w.heap.size w wr) (fun _ _ i _ => 12 - (intOf i).toNat)
  case atStart =>
    refine ⟨0, w.heap.size, 0, w.heap.size + 1, 0, [], Nat.zero_le _, Nat.zero_le _, rfl, rfl, rfl, rfl, by omega, (World.ownsRow_made w #[] 0 (Nat.le_refl _) (by decide) rfl).alloc _, ?_, by go_grown⟩
    have h := World.ownsRow_made (base := w.heap.size) (e := 3) (size := 1) (w.alloc (Obj.cells #[] 3)) #[] 0 (by simp) (by decide) rfl
    rw [World.size_alloc] at h
    exact h
  case round =>
    obtain ⟨k, g, c, g2, c2, l, hk1, hk2, rfl, hll, rfl, rfl, hg, hown, hown2, hB⟩ := hrel
    have HLL := Lib.hid hll
    have hl8 : l.length ≤ 12 := by omega
    have HW := Lib.hid hown
    have HW2 := Lib.hid hown2
    have lg := (row_some hown).2
    have lg2 := (row_some hown2).2
    clear hll hown hown2
    by_cases hin : k < len ∧ k < 12
    · obtain ⟨hkl, hk8⟩ := hin
      obtain ⟨blk, off, rfl, hci⟩ := HC.out k hkl
      have hgk := HL.out k hkl
      have cc := keep hB hci
      generalize p k = x at cc hgk hci
      have HCI := Lib.hid hci
      clear hci
      have hkl' : (k : Int) < (len : Int) := by omega
      have hk0 : (0 : Int) ≤ (k : Int) := by omega
      have HW3 := Lib.hid (HW.out.alloc (.cells #[.int .i64 (x : Int)] 3))
      have l7 := hB.size
      have tok1 : True := trivial
      go_wp2_with (at_builtin; first | (have _t := tok1; refine wpList_append_lies _ rfl _ _ _ rfl w.heap.size 3 i0 (.int .i64 0) 1 8 Try.underlying22 hi0 hi1 hi2 hi3 rfl (by decide) (.slice (some ⟨g, 0, none⟩) l.length c) l.length (ints l) rfl HW3.out ⟨wr.heap.size, 0, none⟩ 1 1 [.int .i64 (x : Int)] rfl rfl (World.news_of_block (B := wr.heap.size) (cs := #[.int .i64 (x : Int)]) (t := 3) (fr := (0, 0)) (news1 rfl)) (by simp [Value.oneCell']) (by omega) (by unfold maxLen; omega) (by omega) (by simp; omega) (wr.heap.size + 1) (by simp) ?_; intro ge cq w5 hown5 hgrow5 hat5 hlt5; clear tok1; have hB5 := (hB.alloc hB.size (.cells #[.int .i64 (x : Int)] 3)).grown hgrow5 (by simp; omega) (fun k hk => (HW3.out.lt k hk).1); have cc5 := keep hB5 HCI.out; have HA5 := Lib.hid hown5; have HB5 := Lib.hid ((HW2.out.alloc (.cells #[.int .i64 (x : Int)] 3)).kept hgrow5 (.inr (by simp [Value.ownBlock]; omega))); have hl5 := hB5.size; have lge := hlt5; clear hgrow5 hown5 cc hat5; have HF5 := Lib.hid (World.ownsRow_lit (base := w.heap.size) (e := 3) (size := 1) w5 #[.int .i64 (x : Int)] 1 (by omega) (by decide) rfl); have HB6 := Lib.hid (HB5.out.alloc (.cells #[.int .i64 (x : Int)] 3)); have tok2 : True := trivial) | (have _t := tok2; refine wpList_append_own_at _ rfl _ _ _ rfl w.heap.size 3 i0 (.int .i64 0) 1 8 Try.underlying22 hi0 hi1 hi2 hi3 rfl (by decide) (.slice (some ⟨w5.heap.size, 0, none⟩) 1 1) 1 [.int .i64 (x : Int)] rfl HF5.out ⟨g2, 0, none⟩ l.length c2 (ints l.reverse) rfl (by simp [ints]) (HB6.out.cells rfl) (ints_one _) (by unfold maxLen; omega) (by omega) (by simp; omega) ?_; intro vh w6 hown6 hgrow6 hnil6 hblk6; clear tok2))
      have hA6 := (HA5.out.alloc (.cells #[.int .i64 (x : Int)] 3)).kept hgrow6 (.inr (by simp [Value.ownBlock]; omega))
      obtain ⟨g6, c6, rfl, h6a, h6b⟩ := row_pos hown6 (by omega)
      have hB6 := (hB5.alloc hl5 (.cells #[.int .i64 (x : Int)] 3)).grown hgrow6 (by simp; omega) (fun k hk => (HF5.out.lt k hk).1)
      have hne : ge ≠ g6 := by rcases hblk6 with h | h <;> simp [Value.ownBlock] at h <;> omega
      have hL : ints (l ++ [(x : Int)]).reverse = [.int .i64 (x : Int)] ++ ints l.reverse := by simp [ints]
      have e1 : (l ++ [(x : Int)]).length = l.length + 1 := by simp
      have e2 : (l ++ [(x : Int)]).length = 1 + l.length := by simp; omega
      go_roundw
      case rel => exact ⟨k + 1, ge, cq, g6, c6, l ++ [(x : Int)], by omega, by omega, by go_num, by simp [HLL.out], by rw [e1], by rw [e2], hne, by rw [e1, ints_app]; exact hA6, by rw [hL, e2]; exact hown6, hB6⟩
      case measure => (simp [intOf] <;> omega)
    · have hway : ¬ k < len ∨ (k < len ∧ ¬ k < 12) := by omega
      have t1 := fun W h => make_any (some ⟨g, 0, none⟩) c l W h (by omega)
      have t2 := fun W h => make_any (some ⟨g2, 0, none⟩) c2 l.reverse W h (by simp; omega)
      have hcg := make_congr (L := l.reverse) (M := l) (fun v => by simp)
      have T0 := Lib.hid (ints_of HW.out)
      have hw2 := HW2.out
      have hlr : l.reverse.length = l.length := by simp
      rw [← hlr] at hw2
      have T00 := Lib.hid (ints_of hw2)
      unfold MakeOk at t1 t2
      rw [hcg.1, hcg.2, hlr] at t2
      clear hw2 hlr hcg hin
      by_cases hE : makeE l = 0
      ·
        obtain ⟨s, hs⟩ : ∃ s : ByteArray, str (makeS l) = s := ⟨_, rfl⟩
        have hS : makeS l = s.data.toList := by rw [← hs]; rfl
        have hR := (make_ok hE).1
        have hsame := fun V h => has_same hE V h
        rw [hS] at hR hsame
        rw [hs, hE] at t1 t2
        obtain ⟨_, hn1, hn2⟩ := right_dec hR
        have hsz : s.data.toList.length = s.size := by simp
        rw [hsz] at hn1 hn2
        have t3 := fun W => right_any s W (by omega)
        rw [hR] at t3
        have T1 := Lib.hid t1
        have T2 := Lib.hid t2
        have T3 := Lib.hid t3
        have SAME := Lib.hid hsame
        have hn1' : (1 : Int) ≤ (s.size : Int) := by omega
        have hn2' : (s.size : Int) ≤ 8 := by omega
        have hE0 := str_nil_empty
        clear t1 t2 t3 hs hS hR hsz hsame hE
        rcases hway with hkl | ⟨hkl, hk8⟩
        all_goals
          go_wp2_with fail
          refine (T1.out _ T0.out).mono ?_
          rintro e w1 ⟨rfl, hb⟩
          have hB1 := below_from hB hB.size hb
          have T01 := Lib.hid (T00.out.keep hb)
          have T02 := T0.out.keep hb
          clear hb
          go_wp2_with fail
          refine (T2.out _ T01.out).mono ?_
          rintro e w2 ⟨rfl, hb⟩
          have hB2 := below_from hB1 hB1.size hb
          have T03 := Lib.hid (Ints.keep T02 hb)
          clear hb hB1 T01 T02
          go_wp2_with fail
          go_loop [10] (fun i => ∃ V : Nat, V ≤ 256 ∧ i = .int .i64 V) (fun i => 256 - (intOf i).toNat)
          case atStart => exact ⟨0, Nat.zero_le _, rfl⟩
          case round =>
            obtain ⟨V, hV, rfl⟩ := hrel
            by_cases hV2 : V < 256
            · have hV' : (V : Int) < 256 := by omega
              go_wp2_with fail
              go_loop [11, 13] (fun h i => ∃ j : Nat, j ≤ s.size ∧ i = .int .i64 j ∧ h = .bool (hasV (s.data.toList.take j) V)) (fun _ i => s.size - (intOf i).toNat)
              case atStart => exact ⟨0, Nat.zero_le _, rfl, rfl⟩
              case round =>
                obtain ⟨j, hj, rfl, rfl⟩ := hrel
                by_cases hj1 : j < s.size
                · have hs := hasV_succ s j hj1 V
                  obtain ⟨d, hd⟩ : ∃ d, s[j] = d := ⟨_, rfl⟩
                  rw [hd] at hs
                  have hcl := byte_lt d
                  have hj1' : (j : Int) < (s.size : Int) := by omega
                  have hj0 : (0 : Int) ≤ (j : Int) := by omega
                  cases hh : hasV (s.data.toList.take j) V
                  · rw [hh] at hs
                    have hs2 : hasV (s.data.toList.take (j + 1)) V = ((d.toNat : Int) == (V : Int)) := by
                      rw [hs, Bool.false_or, Bool.eq_iff_iff, beq_iff_eq, beq_iff_eq]; omega
                    have HS := Lib.hid hs2
                    clear hs hs2 hh
                    go_wp2_with fail
                    go_round
                    case rel => exact ⟨j + 1, by omega, by go_num, by rw [HS.out]⟩
                    case measure => (simp [intOf] <;> omega)
                  · rw [hh] at hs
                    have HS := Lib.hid hs
                    clear hs hh
                    go_wp2_with fail
                    go_round
                    case rel => exact ⟨j + 1, by omega, by go_num, by rw [HS.out]; rfl⟩
                    case measure => (simp [intOf] <;> omega)
                · obtain rfl : j = s.size := by omega
                  rw [show s.data.toList.take s.size = s.data.toList from List.take_of_length_le (by simp)]
                  rw [SAME.out V hV2]
                  clear hj1 hj
                  go_wp2_with fail
                  go_loop [12, 14] (fun h i => ∃ j : Nat, j ≤ l.length ∧ i = .int .i64 j ∧ h = .bool (hasI (l.take j) V)) (fun _ i => l.length - (intOf i).toNat)
                  case atStart => exact ⟨0, Nat.zero_le _, rfl, rfl⟩
                  case round =>
                    obtain ⟨j, hj, rfl, rfl⟩ := hrel
                    by_cases hj1 : j < l.length
                    · have hs := hasI_succ l j hj1 V
                      obtain ⟨ga, oa, hga, hgl, hcl⟩ := T03.out j hj1
                      cases hga
                      rw [Nat.zero_add] at hcl
                      obtain ⟨d, hd⟩ : ∃ d, l[j] = d := ⟨_, rfl⟩
                      rw [hd] at hs hcl
                      have hj1' : (j : Int) < (l.length : Int) := by omega
                      have hj0 : (0 : Int) ≤ (j : Int) := by omega
                      cases hh : hasI (l.take j) V
                      · rw [hh] at hs
                        rw [Bool.false_or] at hs
                        have HS := Lib.hid hs
                        clear hs hh
                        go_wp2_with fail
                        go_round
                        case rel => exact ⟨j + 1, by omega, by go_num, by rw [HS.out]⟩
                        case measure => (simp [intOf] <;> omega)
                      · rw [hh] at hs
                        have HS := Lib.hid hs
                        clear hs hh
                        go_wp2_with fail
                        go_round
                        case rel => exact ⟨j + 1, by omega, by go_num, by rw [HS.out]; rfl⟩
                        case measure => (simp [intOf] <;> omega)
                    · obtain rfl : j = l.length := by omega
                      rw [List.take_length]
                      clear hj1 hj
                      go_wp2_with fail
                      go_round
                      case rel => exact ⟨V + 1, by omega, by go_num⟩
                      case measure => (simp [intOf] <;> omega)
            · obtain rfl : V = 256 := by omega
              clear hV2 hV
              go_wp2_with fail
              refine (T3.out _).mono ?_
              rintro e _ ⟨rfl, rfl⟩
              go_wp2_with fail
              refine (fixed_any _).mono ?_
              rintro e w3 ⟨rfl, hb⟩
              have hB3 := below_from hB2 hB2.size hb
              clear hb
              go_wp2
              go_ret
              exact ⟨rfl, hB3⟩
      · obtain ⟨hE1, hS⟩ := make_no hE
        rw [hS, hE1] at t1 t2
        have T1 := Lib.hid t1
        have T2 := Lib.hid t2
        have hE0 := str_nil_empty
        have t3 := fun W => right_any (str []) W (Nat.zero_le _)
        rw [show rightB (str []).data.toList = false from rfl] at t3
        have T3 := Lib.hid t3
        clear t1 t2 t3 hE hE1 hS
        rcases hway with hkl | ⟨hkl, hk8⟩
        all_goals
          go_wp2_with fail
          refine (T1.out _ T0.out).mono ?_
          rintro e w1 ⟨rfl, hb⟩
          have hB1 := below_from hB hB.size hb
          have T01 := Lib.hid (T00.out.keep hb)
          clear hb
          go_wp2_with fail
          refine (T2.out _ T01.out).mono ?_
          rintro e w2 ⟨rfl, hb⟩
          have hB2 := below_from hB1 hB1.size hb
          clear hb
          go_wp2_with fail
          refine (T3.out _).mono ?_
          rintro e _ ⟨rfl, rfl⟩
          go_wp2_with fail
          refine (fixed_any _).mono ?_
          rintro e w3 ⟨rfl, hb⟩
          have hB3 := below_from hB2 hB2.size hb
          clear hb
          go_wp2
          go_ret
          exact ⟨rfl, hB3⟩
end Go.Proofs.Ytpojhdabpajjkaa
