/- The walk of WindowFar. -/
import Derived.Test.YtpjckfpoeiljbaaStays
namespace Go.Proofs.Ytpjckfpoeiljbaa
open Go.RowKit
set_option maxHeartbeats 1000000
set_option maxRecDepth 100000
set_option linter.unusedVariables false

theorem far1 (N B far : Nat) (w : World) (h2 : N ≤ 256) (hf : far < 4294967296) (hB : B < 18446744073709551616) :
    Calls Try.prog 9 #[.agg #[.int .u64 N, .int .u64 B], .int .u64 ((N : Int) + 63 + far)] w fun e w' => e = .returned (.tuple #[.agg #[.int .u64 ((N : Int) + 64 + far), .int .u64 1], .int .i64 0]) ∧ Below w.heap.size w w' := by
  have h := take_any N B (N + 63 + far) w (by omega) (by omega) hB
  obtain ⟨e1, e2, e3⟩ := take_is_new (N := N) (B := B) (n := N + 63 + far) (by omega) (canB_lo (by omega) (by omega)) (by omega)
  have e4 : B * 2 ^ min (N + 63 + far + 1 - N) 64 % 18446744073709551616 = 0 := by
    rw [show min (N + 63 + far + 1 - N) 64 = 64 by omega]
    have e : (2 ^ 64 : Nat) = 18446744073709551616 := by decide
    rw [e]; exact Nat.mul_mod_left _ _
  rw [e1, e2, e3, e4] at h
  have e5 : ((N + 63 + far : Nat) : Int) = (N : Int) + 63 + far := by omega
  have e6 : ((N + 63 + far + 1 : Nat) : Int) = (N : Int) + 64 + far := by omega
  rw [e5, e6] at h
  exact h

theorem far2 (N B : Nat) (w : World) (h2 : N ≤ 256) (hB : B < 18446744073709551616) (hb : B.testBit 0 = true) :
    Calls Try.prog 9 #[.agg #[.int .u64 N, .int .u64 B], .int .u64 ((N : Int) + 62)] w fun e w' => e = .returned (.tuple #[.agg #[.int .u64 ((N : Int) + 63), .int .u64 9223372036854775809], .int .i64 0]) ∧ Below w.heap.size w w' := by
  have h := take_any N B (N + 62) w (by omega) (by omega) hB
  obtain ⟨e1, e2, e3⟩ := take_is_new (N := N) (B := B) (n := N + 62) (by omega) (canB_lo (by omega) (by omega)) (by omega)
  have e4 : B * 2 ^ min (N + 62 + 1 - N) 64 % 18446744073709551616 = 9223372036854775808 := by
    rw [show min (N + 62 + 1 - N) 64 = 63 by omega]
    have e : (2 ^ 63 : Nat) = 9223372036854775808 := by decide
    rw [e]
    have : B % 2 = 1 := by simpa [Nat.testBit_zero] using hb
    omega
  rw [e1, e2, e3, e4] at h
  have e5 : ((N + 62 : Nat) : Int) = (N : Int) + 62 := by omega
  have e6 : ((N + 62 + 1 : Nat) : Int) = (N : Int) + 63 := by omega
  rw [e5, e6, show (9223372036854775808 ||| 1 : Nat) = 9223372036854775809 from by decide] at h
  exact h

theorem far_core (a : Option Addr) (len cap : Nat) (g : Nat → Nat) (far : Nat) (w : World) (hr : URow .u8 256 w a len g) (hf : far < 4294967296) :
    Calls Try.prog 7 #[.slice a len cap, .int .u32 far] w fun e w' => e = .returned (.bool true) ∧ Below w.heap.size w w' := by
  obtain ⟨hlen, hcell, hlt⟩ := hr
  go_enter Try.func7, Try.ntmps7
  go_wp2_with fail
  go_loopw [6] (fun i wr => ∃ j : Nat, j ≤ len ∧ j ≤ 40 ∧ i = .int .i64 j ∧ wr.cell? ⟨w.heap.size, 0, none⟩ = some (.int .u64 (nextOf g j)) ∧ wr.cell? ⟨w.heap.size, 1, none⟩ = some (.int .u64 (bitsOf g j)) ∧
      wr.frozen? ⟨w.heap.size, 0, none⟩ = false ∧ wr.frozen? ⟨w.heap.size, 1, none⟩ = false ∧ Below w.heap.size w wr) (fun i _ => 40 - (intOf i).toNat)
  case atStart => exact ⟨0, Nat.zero_le _, Nat.zero_le _, rfl, by simp [(of_zero g).1], by simp [(of_zero g).2], by simp, by simp, by go_grown⟩
  case round =>
    obtain ⟨j, hj1, hj2, rfl, c0, c1, z0, z1, hB⟩ := hrel
    have l0 : w.heap.size < wr.heap.size := lt_of c0
    by_cases hin : j < len ∧ j < 40
    · obtain ⟨hjl, hj40⟩ := hin
      by_cases hj40' : j < 40
      · obtain ⟨blk, off, rfl, hci⟩ := hcell j hjl
        have hgj := hlt j hjl
        have hi := of_inv (g := g) (k := j) (fun i hi => by have := hlt i (by omega); omega)
        have hc2 : wr.cell? ⟨blk, off + j, none⟩ = some (.int .u8 (g j : Nat)) := keep hB hci
        obtain ⟨hI, hN, hBt⟩ := hi
        have HI := Lib.hid hI
        clear hI
        have hcell' := Lib.hid hcell
        have hlt' := Lib.hid hlt
        clear hcell hlt
        go_upto_region 5 with (fail)
        go_cut [7, 8] (fun s9 s10 wx => ∃ p : Nat, s9 = .pointer (some ⟨p, 0, none⟩) ∧ s10 = .int .i64 (takeErr (nextOf g j) (bitsOf g j) (g j)) ∧ w.heap.size < p ∧ wx.cell? ⟨w.heap.size, 0, none⟩ = some (.int .u64 (nextOf g j)) ∧ wx.cell? ⟨w.heap.size, 1, none⟩ = some (.int .u64 (bitsOf g j)) ∧
          wx.frozen? ⟨w.heap.size, 0, none⟩ = false ∧ wx.frozen? ⟨w.heap.size, 1, none⟩ = false ∧ wx.cell? ⟨p, 0, none⟩ = some (.int .u64 (takeNext (nextOf g j) (bitsOf g j) (g j))) ∧ wx.cell? ⟨p, 1, none⟩ = some (.int .u64 (takeBits (nextOf g j) (bitsOf g j) (g j))) ∧ Below w.heap.size w wx)
        case first =>
          have n2 := lt_of hc2
          have hjn : (0 : Int) ≤ (j : Int) := by omega
          have hjl' : (j : Int) < (len : Int) := by omega
          have hwr : IntKind.u64.wrap ((g j : Nat) : Int) = ((g j : Nat) : Int) := IntWalk.u64_in _ ⟨by omega, by omega⟩
          go_region_held3 (fun W => W.cell? ⟨w.heap.size, 0, none⟩ = some (.int .u64 (nextOf g j)) ∧ W.cell? ⟨w.heap.size, 1, none⟩ = some (.int .u64 (bitsOf g j)) ∧ W.cell? ⟨blk, off + j, none⟩ = some (.int .u8 (g j : Nat)) ∧ W.frozen? ⟨w.heap.size, 0, none⟩ = false ∧ W.frozen? ⟨w.heap.size, 1, none⟩ = false ∧ Below w.heap.size w W ∧ w.heap.size ≤ W.heap.size)
            (((repeat (first | assumption | exact ⟨c0, c1, hc2, z0, z1, hB, Nat.le_of_lt l0⟩ | (refine heldD ?_) | (refine heldA ?_ _) | (refine heldS ?_ ?_ ?_ ?_ ?_; rotate_left 1; iterate 4 (first | omega | (simp only [World.size_alloc, World.size_drew]; omega))))); done))
            (first | (go_at_call 9; (with_reducible refine (take_any _ _ _ _ (by omega) hN hBt).mono ?_); rintro e w' ⟨rfl, hb⟩; obtain ⟨hc, hf⟩ := bcell hb; have hs := held (by assumption) hb; have q0 := lt_of hs.1; have q1 := lt_of hs.2.2.1))
          · go_wp2_with fail
            go_meet
            exact ⟨w'.heap.size, rfl, rfl, q0, (heldA hs _).1, (heldA hs _).2.1, (heldA hs _).2.2.2.1, (heldA hs _).2.2.2.2.1, by simp [World.cell?_alloc_new], by simp [World.cell?_alloc_new], (heldA hs _).2.2.2.2.2.1⟩
          · go_wp2_with fail
            go_meet
            have y0 : w'.cell? ⟨wr.heap.size, 0, none⟩ = some (.int .u64 0) := (hc _ _ (by simp)).trans (by simp [go_sem])
            have y1 : w'.cell? ⟨wr.heap.size, 1, none⟩ = some (.int .u64 0) := (hc _ _ (by simp)).trans (by simp [go_sem])
            have n1 : w.heap.size ≠ wr.heap.size := Nat.ne_of_lt l0
            have n3 : blk ≠ wr.heap.size := Nat.ne_of_lt n2
            have Y := fun k u k' u' => heldS (nb := wr.heap.size) (k := k) (u := u) (heldS (nb := wr.heap.size) (k := k') (u := u') hs n1 n1 n3 (Nat.le_of_lt l0)) n1 n1 n3 (Nat.le_of_lt l0)
            exact ⟨wr.heap.size, rfl, rfl, l0, (Y _ _ _ _).1, (Y _ _ _ _).2.1, (Y _ _ _ _).2.2.2.1, (Y _ _ _ _).2.2.2.2.1, by go_cell, by go_cell, (Y _ _ _ _).2.2.2.2.2.1⟩
        case rest =>
          obtain ⟨p, rfl, h10, hp, c0', c1', z0', z1', d0, d1, hB'⟩ := hcut
          clear hc2 c0 c1 z0 z1
          cases hcan : canB (nextOf g j) (bitsOf g j) (g j)
          · obtain ⟨e1, e2⟩ := of_no hcan
            rw [(take_is_old (by omega) hcan).2.2] at h10
            subst h10
            have E1 := Lib.hid e1
            have E2 := Lib.hid e2
            clear e1 e2
            go_wp2
            go_roundw
            case rel => exact ⟨j + 1, by omega, by omega, by go_num, by rw [E1.out]; exact c0', by rw [E2.out]; exact c1', z0', z1', hB'⟩
            case measure => simp [intOf]; omega
          · obtain ⟨e1, e2⟩ := of_yes hcan
            rw [err_yes (by omega) hcan] at h10
            subst h10
            have E1 := Lib.hid e1
            have E2 := Lib.hid e2
            clear e1 e2
            go_wp2
            go_roundw
            case rel =>
              refine ⟨j + 1, by omega, by omega, by go_num, ?_, ?_, ?_, ?_, ?_⟩
              · rw [E1.out]; go_cell
              · rw [E2.out]; go_cell
              · simp [go_sem, *]
              · simp [go_sem, *]
              · go_grown
            case measure => simp [intOf]; omega
      · exact (hj40' hj40).elim
    · have hi := of_inv (g := g) (k := j) (fun i hi => by have := hlt i (by omega); omega)
      obtain ⟨hI, hN, hBt⟩ := hi
      have hway : ¬ j < len ∨ (j < len ∧ ¬ j < 40) := by omega
      have h0 : j = 0 → nextOf g j = 0 ∧ bitsOf g j = 0 := by rintro rfl; exact of_zero g
      have h1 : j ≠ 0 → 1 ≤ nextOf g j ∧ nextOf g j ≤ 256 ∧ (bitsOf g j).testBit 0 = true := by
        intro hj
        have hL : firsts g j ≠ [] := by
          intro e
          have : g 0 ∈ firsts g j := mem_firsts.2 ⟨0, by omega, rfl⟩
          rw [e] at this; simp at this
        obtain ⟨p1, p2⟩ := hI.top hL
        obtain ⟨i, hi1, hi2⟩ := mem_firsts.1 p2
        have := hlt i (by omega)
        refine ⟨by omega, by omega, ?_⟩
        have hb := (hI.has (nextOf g j - 1)).2 ⟨p2, by omega⟩
        unfold hasB at hb
        simp at hb
        rw [Nat.testBit_zero]
        simp [hb.2]
      clear hI
      generalize nextOf g j = N at c0 hN h0 h1
      generalize bitsOf g j = B at c1 hBt h0 h1
      have hcell' := Lib.hid hcell
      have hlt' := Lib.hid hlt
      clear hcell hlt hin
      by_cases hj0 : j = 0
      · obtain ⟨rfl, rfl⟩ := h0 hj0
        obtain rfl : len = 0 := by omega
        have H1 := Lib.hid h1
        clear h1 h0
        subst hj0
        clear hway
        go_wp2_with fail
        refine (fixed_any _).mono ?_
        rintro e w1 ⟨rfl, hb1⟩
        have hB1 := below_from hB hB.size hb1
        clear hB hb1
        go_wp2
        go_ret
        exact ⟨rfl, hB1⟩
      · obtain ⟨hN1, hN2, hb0⟩ := h1 hj0
        have t1 := fun w => far1 N B far w hN2 hf hBt
        have t2 := fun w => far2 N B w hN2 hBt hb0
        have T1 := Lib.hid t1
        have T2 := Lib.hid t2
        have HB0 := Lib.hid hb0
        clear t1 t2 hb0 h0 h1
        have hg1 : ¬ (N : Int) < 1 := by omega
        have hg2 : ¬ (256 : Int) < N := by omega
        rcases hway with hjl | ⟨hjl, hj40⟩
        all_goals
          go_wp2_with fail
          refine (T1.out _).mono ?_
          rintro e w1 ⟨rfl, hb1⟩
          have a0 := keep hb1 c0
          have a1 := keep hb1 c1
          have l1 := lt_of a0
          have hB1 := below_from hB hB.size hb1
          clear hB hb1 c0 c1 z0 z1 l0
          go_wp2_with fail
          refine (T2.out _).mono ?_
          rintro e w2 ⟨rfl, hb2⟩
          have d0 := keep hb2 (keepA _ a0)
          have l2 := lt_of d0
          have l3 : w1.heap.size < w2.heap.size := by have := hb2.size; simp at this; omega
          have d2 : w2.cell? ⟨w1.heap.size, 0, none⟩ = some (.int .u64 ((N : Int) + 64 + far)) := keep hb2 (by simp [go_sem])
          have d3 : w2.cell? ⟨w1.heap.size, 1, none⟩ = some (.int .u64 1) := keep hb2 (by simp [go_sem])
          have hB2 := below_from hB1 hB1.size (below_of hb2)
          clear hB1 hb2 a0 a1 l1
          go_wp2_with fail
          refine (fixed_any _).mono ?_
          rintro e w3 ⟨rfl, hb3⟩
          have hB3 := below_from (hB2.alloc hB2.size _) (by simp; have := hB2.size; omega) hb3
          clear hB2 hb3
          go_wp2
          go_ret
          exact ⟨rfl, hB3⟩
end Go.Proofs.Ytpjckfpoeiljbaa
