/- The walk of OfferOnce. -/
import Derived.Test.YtpojhdabpajjkaaI
namespace Go.Proofs.Ytpojhdabpajjkaa
open Go.RowKit
set_option maxHeartbeats 4000000
set_option maxRecDepth 100000
set_option linter.unusedVariables false

theorem getD_of {l : List UInt8} {i : Nat} (h : i < l.length) : l.getD i 0 = l[i] := by rw [List.getD_eq_getElem?_getD, List.getElem?_eq_getElem h]; rfl
/-- an offer's versions, one behind the other, from one on, round and round. -/
def roundL (S : List UInt8) (f : Nat) (i : Nat) : List Int := (List.range i).map fun t => ((S.getD ((t + f) % S.length) 0).toNat : Int)
theorem roundL_succ (S : List UInt8) (f i : Nat) : roundL S f (i + 1) = roundL S f i ++ [((S.getD ((i + f) % S.length) 0).toNat : Int)] := by
  unfold roundL; rw [List.range_succ, List.map_append]; rfl
theorem roundL_len (S : List UInt8) (f i : Nat) : (roundL S f i).length = i := by unfold roundL; simp
theorem roundL_mem (S : List UInt8) (f : Nat) (h : 1 ≤ S.length) (v : Int) : v ∈ roundL S f (2 * S.length) ↔ ∃ c ∈ S, (c.toNat : Int) = v := by
  unfold roundL
  simp only [List.mem_map, List.mem_range]
  constructor
  · rintro ⟨t, _, rfl⟩
    have hlt : (t + f) % S.length < S.length := Nat.mod_lt _ (by omega)
    refine ⟨S.getD ((t + f) % S.length) 0, ?_, rfl⟩
    rw [getD_of hlt]
    exact List.getElem_mem _
  · rintro ⟨c, hc, rfl⟩
    obtain ⟨j, hj, rfl⟩ := List.getElem_of_mem hc
    have hm : f % S.length < S.length := Nat.mod_lt _ (by omega)
    refine ⟨j + S.length - f % S.length, by omega, ?_⟩
    have e : (j + S.length - f % S.length + f) % S.length = j := by
      have h1 := Nat.mod_add_div f S.length
      have h2 : j + S.length - f % S.length + f = j + S.length * (1 + f / S.length) := by
        rw [Nat.mul_add, Nat.mul_one]; omega
      rw [h2, Nat.add_mul_mod_self_left, Nat.mod_eq_of_lt hj]
    rw [e, getD_of hj]

theorem once_core (a : Option Addr) (len cap : Nat) (g : Nat → Nat) (f : Nat) (w : World) (hr : URow .u8 256 w a len g) (hf : f < 256) :
    Calls Try.prog 6 #[.slice a len cap, .int .u8 f] w fun e w' => e = .returned (.bool true) ∧ Below w.heap.size w w' := by
  obtain ⟨hlen, hcell, hlt⟩ := hr
  have HC := Lib.hid hcell
  have HL := Lib.hid hlt
  clear hcell hlt
  obtain ⟨i0, hi0, hi1, hi2, hi3⟩ := info_parts infoInt
  go_enter Try.func6, Try.ntmps6
  go_wp2_with fail
  go_loopw [5, 6] (fun v i wr => ∃ (k : Nat) (l : List Int), k ≤ len ∧ k ≤ 8 ∧ i = .int .i64 k ∧ l.length = k ∧ okL l ∧ wr.ownsRow w.heap.size 3 1 v l.length (ints l) ∧ Below w.heap.size w wr) (fun _ i _ => 8 - (intOf i).toNat)
  case atStart => exact ⟨0, [], Nat.zero_le _, Nat.zero_le _, rfl, rfl, okL_nil, World.ownsRow_made w #[] 0 (Nat.le_refl _) (by decide) rfl, by go_grown⟩
  case round =>
    obtain ⟨k, l, hk1, hk2, rfl, hll, hok, hown, hB⟩ := hrel
    have HLL := Lib.hid hll
    have hl8 : l.length ≤ 8 := by omega
    obtain ⟨va, vc, rfl, hform⟩ := row_form hown
    have HW := Lib.hid hown
    have HOK := Lib.hid hok
    clear hll hform hown hok
    by_cases hin : k < len ∧ k < 8
    · obtain ⟨hkl, hk8⟩ := hin
      obtain ⟨blk, off, rfl, hci⟩ := HC.out k hkl
      have hgk := HL.out k hkl
      have c2 := keep hB hci
      generalize g k = x at c2 hgk
      clear hci
      have hkl' : (k : Int) < (len : Int) := by omega
      have hk0 : (0 : Int) ≤ (k : Int) := by omega
      obtain ⟨y, hy⟩ : ∃ y : Int, 1 + (x : Int) % 255 = y := ⟨_, rfl⟩
      have hy1 : 1 ≤ y := by omega
      have hy2 : y ≤ 255 := by omega
      have HW3 := Lib.hid (HW.out.alloc (.cells #[.int .i64 y] 3))
      have l7 := hB.size
      go_wp2_with (at_builtin; refine wpList_append_lies _ rfl _ _ _ rfl w.heap.size 3 i0 (.int .i64 0) 1 8 Try.underlying22 hi0 hi1 hi2 hi3 rfl (by decide) (.slice va l.length vc) l.length (ints l) rfl HW3.out ⟨wr.heap.size, 0, none⟩ 1 1 [.int .i64 y] rfl rfl (World.news_of_block (B := wr.heap.size) (cs := #[.int .i64 y]) (t := 3) (fr := (0, 0)) (news1 rfl)) (by simp [Value.oneCell']) (by omega) (by unfold maxLen; omega) (by omega) (by simp; omega) (wr.heap.size + 1) (by simp) ?_; intro ge cq w5 hown5 hgrow5 hat5 hlt5)
      go_roundw
      case rel => exact ⟨k + 1, l ++ [y], by omega, by omega, by go_num, by simp [HLL.out], okL_app HOK.out hy1 hy2, by rw [ints_app]; simpa using hown5, (hB.alloc hB.size _).grown hgrow5 (by simp; omega) (fun k hk => (HW3.out.lt k hk).1)⟩
      case measure => (simp [intOf] <;> omega)
    · have hway : ¬ k < len ∨ (k < len ∧ ¬ k < 8) := by omega
      have t1 := fun W h => make_any va vc l W h (by omega)
      have T0 := ints_of HW.out
      unfold MakeOk at t1
      have HT0 := Lib.hid T0
      clear hin T0
      rcases make_of HOK.out hl8 with ⟨he, hs, hE⟩ | ⟨hne, hE, hR⟩
      · rw [hs, hE] at t1
        have T1 := Lib.hid t1
        have hE0 := str_nil_empty
        have hl0 : (l.length : Int) = 0 := by rw [he]; rfl
        have hl0' : ((l.length : Int) == 0) = true := beq_iff_eq.2 hl0
        clear t1 he hs hE hl0
        rcases hway with hkl | ⟨hkl, hk8⟩
        all_goals
          go_wp2_with fail
          refine (T1.out _ HT0.out).mono ?_
          rintro e w1 ⟨rfl, hb⟩
          have hB1 := below_from hB hB.size hb
          clear hb
          go_wp2_with fail
          refine (fixed_any _).mono ?_
          rintro e w2 ⟨rfl, hb⟩
          have hB2 := below_from hB1 hB1.size hb
          clear hb
          go_wp2
          go_ret
          exact ⟨rfl, hB2⟩
      · rw [hE] at t1
        obtain ⟨s, hs⟩ : ∃ s : ByteArray, str (makeS l) = s := ⟨_, rfl⟩
        have hS : makeS l = s.data.toList := by rw [← hs]; rfl
        rw [hs] at t1
        rw [hS] at hR
        obtain ⟨_, hn1, hn2⟩ := right_dec hR
        have hsz : s.data.toList.length = s.size := by simp
        rw [hsz] at hn1 hn2
        have T1 := Lib.hid t1
        have HR := Lib.hid hR
        have t2 := fun W => right_any s W (by omega)
        rw [hR] at t2
        have T2 := Lib.hid t2
        have HSZ := Lib.hid hsz
        have hn1' : (1 : Int) ≤ (s.size : Int) := by omega
        have hn2' : (s.size : Int) ≤ 8 := by omega
        clear t1 hs hS hE hR t2 hsz hne
        rcases hway with hkl | ⟨hkl, hk8⟩
        all_goals
          go_wp2_with fail
          refine (T1.out _ HT0.out).mono ?_
          rintro e w1 ⟨rfl, hb⟩
          have hB1 := below_from hB hB.size hb
          clear hb
          go_wp2_with fail
          go_loopw [9, 10] (fun v i wx => ∃ j : Nat, j ≤ 2 * s.size ∧ i = .int .i64 j ∧ wx.ownsRow w.heap.size 3 1 v (roundL s.data.toList f j).length (ints (roundL s.data.toList f j)) ∧ Below w.heap.size w wx) (fun _ i _ => 2 * s.size - (intOf i).toNat)
          case atStart => exact ⟨0, Nat.zero_le _, rfl, World.ownsRow_made w1 #[] 0 hB1.size (by decide) rfl, hB1.alloc hB1.size _⟩
          case round =>
            obtain ⟨j, hj, rfl, hown, hBj⟩ := hrel
            clear hB1
            rw [roundL_len] at hown
            obtain ⟨vb, vd, rfl, hform⟩ := row_form hown
            have HWj := Lib.hid hown
            clear hform hown
            by_cases hj2 : j < 2 * s.size
            · have hj2' : (j : Int) < 2 * (s.size : Int) := by omega
              have hrl : (j + f) % s.size < s.size := Nat.mod_lt _ (by omega)
              have hsu := roundL_succ s.data.toList f j
              rw [HSZ.out, getD_of (by rw [HSZ.out]; exact hrl)] at hsu
              obtain ⟨r, hr2⟩ : ∃ r : Nat, (j + f) % s.size = r := ⟨_, rfl⟩
              have hrr : ((j : Int) + (f : Int)) % (s.size : Int) = (r : Int) := by rw [← hr2]; simp
              rw [hr2] at hrl
              have hsr : s.data.toList[(j + f) % s.size]'(by rw [HSZ.out, hr2]; exact hrl) = s[r] := by
                simp only [hr2]; rfl
              rw [hsr] at hsu
              obtain ⟨c, hc⟩ : ∃ c, s[r] = c := ⟨_, rfl⟩
              rw [hc] at hsu
              have hcl := byte_lt c
              have hrl' : (r : Int) < (s.size : Int) := by omega
              have hr0 : (0 : Int) ≤ (r : Int) := by omega
              have HSU := Lib.hid hsu
              have HW3 := Lib.hid (HWj.out.alloc (.cells #[.int .i64 (c.toNat : Int)] 3))
              have l7 := hBj.size
              clear hsr hsu hr2
              go_wp2_with (at_builtin; refine wpList_append_lies _ rfl _ _ _ rfl w.heap.size 3 i0 (.int .i64 0) 1 8 Try.underlying22 hi0 hi1 hi2 hi3 rfl (by decide) (.slice vb j vd) j (ints (roundL s.data.toList f j)) rfl HW3.out ⟨wr.heap.size, 0, none⟩ 1 1 [.int .i64 (c.toNat : Int)] rfl rfl (World.news_of_block (B := wr.heap.size) (cs := #[.int .i64 (c.toNat : Int)]) (t := 3) (fr := (0, 0)) (news1 rfl)) (by simp [Value.oneCell']) (by omega) (by unfold maxLen; omega) (by omega) (by simp; omega) (wr.heap.size + 1) (by simp) ?_; intro ge cq w5 hown5 hgrow5 hat5 hlt5)
              go_roundw
              case rel => exact ⟨j + 1, by omega, by go_num, by rw [roundL_len, HSU.out, ints_app]; exact hown5, (hBj.alloc hBj.size _).grown hgrow5 (by simp; omega) (fun k hk => (HW3.out.lt k hk).1)⟩
              case measure => (simp [intOf] <;> omega)
            · obtain rfl : j = 2 * s.size := by omega
              have hmk := make_self HR.out (L := roundL s.data.toList f (2 * s.size)) (fun v => by rw [← HSZ.out]; exact roundL_mem _ _ (by rw [HSZ.out]; exact hn1) v)
              have T3i := HWj.out
              have hlen2 : (roundL s.data.toList f (2 * s.size)).length = 2 * s.size := roundL_len _ _ _
              generalize roundL s.data.toList f (2 * s.size) = M at hmk T3i hlen2
              rw [← hlen2] at T3i
              have t3 := fun W h => make_any vb vd M W h (by omega)
              unfold MakeOk at t3
              rw [hmk.1, hmk.2, hlen2, str_of] at t3
              have T3 := Lib.hid t3
              have T3I := Lib.hid (ints_of T3i)
              clear hmk T3i t3 hlen2 hj2 hj
              go_wp2_with fail
              refine (T3.out _ T3I.out).mono ?_
              rintro e w3 ⟨rfl, hb⟩
              have hB3 := below_from hBj hBj.size hb
              clear hb
              go_wp2_with fail
              refine (T2.out _).mono ?_
              rintro e _ ⟨rfl, rfl⟩
              go_wp2_with fail
              refine (fixed_any _).mono ?_
              rintro e w4 ⟨rfl, hb⟩
              have hB4 := below_from hB3 hB3.size hb
              clear hb
              go_wp2
              go_ret
              exact ⟨rfl, hB4⟩
end Go.Proofs.Ytpojhdabpajjkaa
