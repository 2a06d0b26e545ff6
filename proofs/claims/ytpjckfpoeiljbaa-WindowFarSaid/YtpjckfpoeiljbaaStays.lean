/- The walk of WindowStays. -/
import Derived.Test.YtpjckfpoeiljbaaF
import Derived.Test.YtpjckfpoeiljbaaPlain2
import Derived.Deep.DeepCutAuto
namespace Go.Proofs.Ytpjckfpoeiljbaa
open Go.RowKit
set_option maxHeartbeats 1000000
set_option maxRecDepth 100000
set_option linter.unusedVariables false


theorem err_yes {N B n : Nat} (h1 : n ≠ 18446744073709551615) (h : canB N B n = true) : takeErr N B n = 0 := by
  unfold takeErr; rw [if_neg h1, if_neg (by simp [h])]

theorem held {a X w' : World} {b1 o1 b2 o2 b3 o3 B : Nat} {v1 v2 v3 : Value} (h : X.cell? ⟨b1, o1, none⟩ = some v1 ∧ X.cell? ⟨b2, o2, none⟩ = some v2 ∧ X.cell? ⟨b3, o3, none⟩ = some v3 ∧ X.frozen? ⟨b1, o1, none⟩ = false ∧ X.frozen? ⟨b2, o2, none⟩ = false ∧ Below B a X ∧ B ≤ X.heap.size) (hb : Below X.heap.size X w') :
    w'.cell? ⟨b1, o1, none⟩ = some v1 ∧ w'.cell? ⟨b2, o2, none⟩ = some v2 ∧ w'.cell? ⟨b3, o3, none⟩ = some v3 ∧ w'.frozen? ⟨b1, o1, none⟩ = false ∧ w'.frozen? ⟨b2, o2, none⟩ = false ∧ Below B a w' ∧ B ≤ w'.heap.size := by
  obtain ⟨c1, c2, c3, f1, f2, hB, hz⟩ := h
  exact ⟨keep hb c1, keep hb c2, keep hb c3, keepF hb c1 f1, keepF hb c2 f2, below_from hB hz hb, Nat.le_trans hz hb.size⟩

theorem heldA {a X : World} {b1 o1 b2 o2 b3 o3 B : Nat} {v1 v2 v3 : Value} (h : X.cell? ⟨b1, o1, none⟩ = some v1 ∧ X.cell? ⟨b2, o2, none⟩ = some v2 ∧ X.cell? ⟨b3, o3, none⟩ = some v3 ∧ X.frozen? ⟨b1, o1, none⟩ = false ∧ X.frozen? ⟨b2, o2, none⟩ = false ∧ Below B a X ∧ B ≤ X.heap.size) (o : Obj) : (X.alloc o).cell? ⟨b1, o1, none⟩ = some v1 ∧ (X.alloc o).cell? ⟨b2, o2, none⟩ = some v2 ∧ (X.alloc o).cell? ⟨b3, o3, none⟩ = some v3 ∧ (X.alloc o).frozen? ⟨b1, o1, none⟩ = false ∧ (X.alloc o).frozen? ⟨b2, o2, none⟩ = false ∧ Below B a (X.alloc o) ∧ B ≤ (X.alloc o).heap.size := held h ((Below.refl _ _).alloc (Nat.le_refl _) o)
theorem heldD {a X : World} {b1 o1 b2 o2 b3 o3 B : Nat} {v1 v2 v3 : Value} (h : X.cell? ⟨b1, o1, none⟩ = some v1 ∧ X.cell? ⟨b2, o2, none⟩ = some v2 ∧ X.cell? ⟨b3, o3, none⟩ = some v3 ∧ X.frozen? ⟨b1, o1, none⟩ = false ∧ X.frozen? ⟨b2, o2, none⟩ = false ∧ Below B a X ∧ B ≤ X.heap.size) : X.drew.cell? ⟨b1, o1, none⟩ = some v1 ∧ X.drew.cell? ⟨b2, o2, none⟩ = some v2 ∧ X.drew.cell? ⟨b3, o3, none⟩ = some v3 ∧ X.drew.frozen? ⟨b1, o1, none⟩ = false ∧ X.drew.frozen? ⟨b2, o2, none⟩ = false ∧ Below B a X.drew ∧ B ≤ X.drew.heap.size := held h ((Below.refl _ _).drew)
theorem heldS {a X : World} {b1 o1 b2 o2 b3 o3 B nb k : Nat} {v1 v2 v3 u : Value} (h : X.cell? ⟨b1, o1, none⟩ = some v1 ∧ X.cell? ⟨b2, o2, none⟩ = some v2 ∧ X.cell? ⟨b3, o3, none⟩ = some v3 ∧ X.frozen? ⟨b1, o1, none⟩ = false ∧ X.frozen? ⟨b2, o2, none⟩ = false ∧ Below B a X ∧ B ≤ X.heap.size) (n1 : b1 ≠ nb) (n2 : b2 ≠ nb) (n3 : b3 ≠ nb) (hB : B ≤ nb) : (X.setCell ⟨nb, k, none⟩ u).cell? ⟨b1, o1, none⟩ = some v1 ∧ (X.setCell ⟨nb, k, none⟩ u).cell? ⟨b2, o2, none⟩ = some v2 ∧ (X.setCell ⟨nb, k, none⟩ u).cell? ⟨b3, o3, none⟩ = some v3 ∧ (X.setCell ⟨nb, k, none⟩ u).frozen? ⟨b1, o1, none⟩ = false ∧ (X.setCell ⟨nb, k, none⟩ u).frozen? ⟨b2, o2, none⟩ = false ∧ Below B a (X.setCell ⟨nb, k, none⟩ u) ∧ B ≤ (X.setCell ⟨nb, k, none⟩ u).heap.size := by
  obtain ⟨c1, c2, c3, f1, f2, hb, hz⟩ := h
  exact ⟨keepS c1 n1, keepS c2 n2, keepS c3 n3, (World.frozen?_of_block (w := X) (Below.heap_setCell X ⟨nb, k, none⟩ u b1 (by simpa using n1))).trans f1, (World.frozen?_of_block (w := X) (Below.heap_setCell X ⟨nb, k, none⟩ u b2 (by simpa using n2))).trans f2, hb.setCell hB u, by simpa [World.setCell] using hz⟩

theorem stays_core (a : Option Addr) (len cap : Nat) (g : Nat → Nat) (n k : Nat) (w : World) (hr : URow .u8 256 w a len g) (hn : n < 256) (hk : k < 256) :
    Calls Try.prog 5 #[.slice a len cap, .int .u8 n, .int .u8 k] w fun e w' => e = .returned (.bool true) ∧ Below w.heap.size w w' := by
  obtain ⟨hlen, hcell, hlt⟩ := hr
  go_enter Try.func5, Try.ntmps5
  go_wp2_with fail
  go_loopw [8] (fun i wr => ∃ j : Nat, j ≤ len ∧ j ≤ 40 ∧ i = .int .i64 j ∧ wr.cell? ⟨w.heap.size, 0, none⟩ = some (.int .u64 (nextOf g j)) ∧ wr.cell? ⟨w.heap.size, 1, none⟩ = some (.int .u64 (bitsOf g j)) ∧
      wr.frozen? ⟨w.heap.size, 0, none⟩ = false ∧ wr.frozen? ⟨w.heap.size, 1, none⟩ = false ∧ Below w.heap.size w wr) (fun i _ => 40 - (intOf i).toNat)
  case atStart => exact ⟨0, Nat.zero_le _, Nat.zero_le _, rfl, by simp [(of_zero g).1], by simp [(of_zero g).2], by simp, by simp, by go_grown⟩
  case round =>
    obtain ⟨j, hj1, hj2, rfl, c0, c1, z0, z1, hB⟩ := hrel
    have l0 : w.heap.size < wr.heap.size := lt_of c0
    by_cases hin : j < len ∧ j < 40
    · obtain ⟨hjl, hj40⟩ := hin
      by_cases hj40' : j < 40
      · obtain ⟨blk, off, rfl, hci⟩ := hcell j hjl
        have hgj := hlt j hjl
        have hi := of_inv (g := g) (k := j) (fun i hi => by have := hlt i (by omega); omega)
        have hc2 : wr.cell? ⟨blk, off + j, none⟩ = some (.int .u8 (g j : Nat)) := keep hB hci
        obtain ⟨hI, hN, hBt⟩ := hi
        have HI := Lib.hid hI
        clear hI
        have hcell' := Lib.hid hcell
        have hlt' := Lib.hid hlt
        clear hcell hlt
        go_upto_region 5 with (fail)
        go_cut [9, 10] (fun s9 s10 wx => ∃ p : Nat, s9 = .pointer (some ⟨p, 0, none⟩) ∧ s10 = .int .i64 (takeErr (nextOf g j) (bitsOf g j) (g j)) ∧ w.heap.size < p ∧ wx.cell? ⟨w.heap.size, 0, none⟩ = some (.int .u64 (nextOf g j)) ∧ wx.cell? ⟨w.heap.size, 1, none⟩ = some (.int .u64 (bitsOf g j)) ∧
          wx.frozen? ⟨w.heap.size, 0, none⟩ = false ∧ wx.frozen? ⟨w.heap.size, 1, none⟩ = false ∧ wx.cell? ⟨p, 0, none⟩ = some (.int .u64 (takeNext (nextOf g j) (bitsOf g j) (g j))) ∧ wx.cell? ⟨p, 1, none⟩ = some (.int .u64 (takeBits (nextOf g j) (bitsOf g j) (g j))) ∧ Below w.heap.size w wx)
        case first =>
          have n2 := lt_of hc2
          have hjn : (0 : Int) ≤ (j : Int) := by omega
          have hjl' : (j : Int) < (len : Int) := by omega
          have hwr : IntKind.u64.wrap ((g j : Nat) : Int) = ((g j : Nat) : Int) := IntWalk.u64_in _ ⟨by omega, by omega⟩
          go_region_held3 (fun W => W.cell? ⟨w.heap.size, 0, none⟩ = some (.int .u64 (nextOf g j)) ∧ W.cell? ⟨w.heap.size, 1, none⟩ = some (.int .u64 (bitsOf g j)) ∧ W.cell? ⟨blk, off + j, none⟩ = some (.int .u8 (g j : Nat)) ∧ W.frozen? ⟨w.heap.size, 0, none⟩ = false ∧ W.frozen? ⟨w.heap.size, 1, none⟩ = false ∧ Below w.heap.size w W ∧ w.heap.size ≤ W.heap.size)
            (((repeat (first | assumption | exact ⟨c0, c1, hc2, z0, z1, hB, Nat.le_of_lt l0⟩ | (refine heldD ?_) | (refine heldA ?_ _) | (refine heldS ?_ ?_ ?_ ?_ ?_; rotate_left 1; iterate 4 (first | omega | (simp only [World.size_alloc, World.size_drew]; omega))))); done))
            (first | (go_at_call 9; (with_reducible refine (take_any _ _ _ _ (by omega) hN hBt).mono ?_); rintro e w' ⟨rfl, hb⟩; obtain ⟨hc, hf⟩ := bcell hb; have hs := held (by assumption) hb; have q0 := lt_of hs.1; have q1 := lt_of hs.2.2.1))
          · go_wp2_with fail
            go_meet
            exact ⟨w'.heap.size, rfl, rfl, q0, (heldA hs _).1, (heldA hs _).2.1, (heldA hs _).2.2.2.1, (heldA hs _).2.2.2.2.1, by simp [World.cell?_alloc_new], by simp [World.cell?_alloc_new], (heldA hs _).2.2.2.2.2.1⟩
          · go_wp2_with fail
            go_meet
            have y0 : w'.cell? ⟨wr.heap.size, 0, none⟩ = some (.int .u64 0) := (hc _ _ (by simp)).trans (by simp [go_sem])
            have y1 : w'.cell? ⟨wr.heap.size, 1, none⟩ = some (.int .u64 0) := (hc _ _ (by simp)).trans (by simp [go_sem])
            have n1 : w.heap.size ≠ wr.heap.size := Nat.ne_of_lt l0
            have n3 : blk ≠ wr.heap.size := Nat.ne_of_lt n2
            have Y := fun k u k' u' => heldS (nb := wr.heap.size) (k := k) (u := u) (heldS (nb := wr.heap.size) (k := k') (u := u') hs n1 n1 n3 (Nat.le_of_lt l0)) n1 n1 n3 (Nat.le_of_lt l0)
            exact ⟨wr.heap.size, rfl, rfl, l0, (Y _ _ _ _).1, (Y _ _ _ _).2.1, (Y _ _ _ _).2.2.2.1, (Y _ _ _ _).2.2.2.2.1, by go_cell, by go_cell, (Y _ _ _ _).2.2.2.2.2.1⟩
        case rest =>
          obtain ⟨p, rfl, h10, hp, c0', c1', z0', z1', d0, d1, hB'⟩ := hcut
          clear hc2 c0 c1 z0 z1
          cases hcan : canB (nextOf g j) (bitsOf g j) (g j)
          · obtain ⟨e1, e2⟩ := of_no hcan
            rw [(take_is_old (by omega) hcan).2.2] at h10
            subst h10
            have E1 := Lib.hid e1
            have E2 := Lib.hid e2
            clear e1 e2
            go_wp2
            go_roundw
            case rel => exact ⟨j + 1, by omega, by omega, by go_num, by rw [E1.out]; exact c0', by rw [E2.out]; exact c1', z0', z1', hB'⟩
            case measure => simp [intOf]; omega
          · obtain ⟨e1, e2⟩ := of_yes hcan
            rw [err_yes (by omega) hcan] at h10
            subst h10
            have E1 := Lib.hid e1
            have E2 := Lib.hid e2
            clear e1 e2
            go_wp2
            go_roundw
            case rel =>
              refine ⟨j + 1, by omega, by omega, by go_num, ?_, ?_, ?_, ?_, ?_⟩
              · rw [E1.out]; go_cell
              · rw [E2.out]; go_cell
              · simp [go_sem, *]
              · simp [go_sem, *]
              · go_grown
            case measure => simp [intOf]; omega
      · exact (hj40' hj40).elim
    · have hi := of_inv (g := g) (k := j) (fun i hi => by have := hlt i (by omega); omega)
      obtain ⟨hI, hN, hBt⟩ := hi
      clear hI
      generalize nextOf g j = N at c0 hN
      generalize bitsOf g j = B at c1 hBt
      have hcell' := Lib.hid hcell
      have hlt' := Lib.hid hlt
      clear hcell hlt
      have hn' : n < 18446744073709551615 := by omega
      have hway : ¬ j < len ∨ (j < len ∧ ¬ j < 40) := by omega
      clear hin
      cases hcan : canB N B n
      · have t1 := fun w => take_old N B n w hn' hN hBt hcan
        have t2 := fun w => (can_any N B n w (by omega) hN hBt)
        rw [hcan] at t2
        have T1 := Lib.hid t1
        have T2 := Lib.hid t2
        clear t1 t2 hcan
        rcases hway with hjl | ⟨hjl, hj40⟩
        all_goals
          go_wp2_with fail
          refine (T1.out _).mono ?_
          rintro e w1 ⟨rfl, hb1⟩
          have a0 := keep hb1 c0
          have a1 := keep hb1 c1
          have a2 := lt_of a0
          have hB1 := below_from hB hB.size hb1
          clear hB hb1 c0 c1 z0 z1 l0
          go_wp2_with fail
          refine (T2.out _).mono ?_
          rintro e w2 ⟨rfl, hb2⟩
          have hB2 := below_from hB1 hB1.size (below_of hb2)
          clear hB1 hb2 a0 a1 a2
          go_wp2_with fail
          refine (fixed_any _).mono ?_
          rintro e w3 ⟨rfl, hb3⟩
          have hB3 := below_from hB2 hB2.size hb3
          clear hB2 hb3
          go_wp2
          go_ret
          exact ⟨rfl, hB3⟩
      · have t1 := fun w => take_any N B n w (by omega) hN hBt
        have hx := next_take hn' hcan
        have hh := has_take hn' hcan k
        have hN' := takeNext_lt (N := N) (B := B) (n := n) hN (by omega)
        have hB' := takeBits_lt (N := N) (B := B) (n := n) hBt
        rw [err_yes (by omega) hcan] at t1
        generalize takeNext N B n = N' at t1 hx hh hN'
        generalize takeBits N B n = B' at t1 hh hB'
        have hnN : n < N' := by omega
        have hNN : N ≤ N' := by omega
        have hnear := can_near hcan
        have hN64 : N' ≤ n + 64 := by omega
        have T1 := Lib.hid t1
        have HH := Lib.hid hh
        clear t1 hcan hh hx
        by_cases hkn : k = n
        · subst hkn
          have h1 : hasB N' B' k = true := by rw [HH.out]; simp; omega
          have t2 := fun w => has_any N' B' k w hN' hB'
          rw [h1] at t2
          have T2 := Lib.hid t2
          clear t2 h1
          rcases hway with hjl | ⟨hjl, hj40⟩
          all_goals
            go_wp2_with fail
            refine (T1.out _).mono ?_
            rintro e w1 ⟨rfl, hb1⟩
            have hB1 := below_from hB hB.size hb1
            clear hB hb1 c0 c1 z0 z1 l0
            go_wp2_with fail
            refine (T2.out _).mono ?_
            rintro e w2 ⟨rfl, hb2⟩
            have hB2 := below_from hB1 hB1.size (below_of hb2)
            clear hB1 hb2
            go_wp2_with fail
            refine (fixed_any _).mono ?_
            rintro e w3 ⟨rfl, hb3⟩
            have hB3 := below_from hB2 hB2.size hb3
            clear hB2 hb3
            go_wp2
            go_ret
            exact ⟨rfl, hB3⟩
        · by_cases hfar : k + 64 < N'
          · have ⟨h1, h2⟩ := can_far (B := B') hfar
            have t2 := fun w => has_any N' B' k w hN' hB'
            have t3 := fun w => can_any N' B' k w (by omega) hN' hB'
            rw [h2] at t2
            rw [h1] at t3
            have T2 := Lib.hid t2
            have T3 := Lib.hid t3
            clear t2 t3 h1 h2
            rcases hway with hjl | ⟨hjl, hj40⟩
            all_goals
              go_wp2_with fail
              refine (T1.out _).mono ?_
              rintro e w1 ⟨rfl, hb1⟩
              have hB1 := below_from hB hB.size hb1
              clear hB hb1 c0 c1 z0 z1 l0
              go_wp2_with fail
              refine (T2.out _).mono ?_
              rintro e w2 ⟨rfl, hb2⟩
              have hB2 := below_from hB1 hB1.size (below_of hb2)
              have a0 : w2.cell? ⟨w1.heap.size, 0, none⟩ = some (.int .u64 N') := keep hb2 (by simp [go_sem])
              have a1 : w2.cell? ⟨w1.heap.size, 1, none⟩ = some (.int .u64 B') := keep hb2 (by simp [go_sem])
              clear hB1 hb2
              go_wp2_with fail
              refine (T3.out _).mono ?_
              rintro e w3 ⟨rfl, hb3⟩
              have hB3 := below_from hB2 hB2.size hb3
              clear hB2 hb3 a0 a1
              go_wp2_with fail
              refine (fixed_any _).mono ?_
              rintro e w4 ⟨rfl, hb4⟩
              have hB4 := below_from hB3 hB3.size hb4
              clear hB3 hb4
              go_wp2
              go_ret
              exact ⟨rfl, hB4⟩
          · have hwk : IntKind.u64.wrap ((k : Nat) : Int) = ((k : Nat) : Int) := IntWalk.u64_in _ ⟨by omega, by omega⟩
            have t2 := fun w => has_any N' B' k w hN' hB'
            have t3 := fun w => can_any N' B' k w (by omega) hN' hB'
            have t4 := fun w => has_any N B k w hN hBt
            have q1 : hasB N' B' k = hasB N B k := by
              rw [HH.out]
              have : N' ≤ k + 64 := by omega
              simp [hkn, this]
            have q2 : canB N' B' k = !hasB N' B' k := by
              by_cases hk' : k < N'
              · exact can_within hN' hk' (by omega)
              · rw [has_above (by omega), canB_lo (by omega) (by omega)]; rfl
            rw [q2, q1] at t3
            rw [q1] at t2
            clear q1 q2
            generalize hasB N B k = h at t2 t3 t4
            have T2 := Lib.hid t2
            have T3 := Lib.hid t3
            have T4 := Lib.hid t4
            clear t2 t3 t4
            have hfar' : ¬ (k : Int) + 64 < N' := by omega
            have hh : (h == h) = true ∧ ((!h) != h) = true := by cases h <;> exact ⟨rfl, rfl⟩
            obtain ⟨hh1, hh2⟩ := hh
            rcases hway with hjl | ⟨hjl, hj40⟩
            all_goals
              go_wp2_with fail
              refine (T1.out _).mono ?_
              rintro e w1 ⟨rfl, hb1⟩
              have hB1 := below_from hB hB.size hb1
              have a0 := keepA (Obj.cells #[.int .u64 N', .int .u64 B'] 24) (keep hb1 c0)
              have a1 := keepA (Obj.cells #[.int .u64 N', .int .u64 B'] 24) (keep hb1 c1)
              have hB2 := hB1.alloc hB1.size (Obj.cells #[.int .u64 N', .int .u64 B'] 24)
              have a2 : (w1.alloc (Obj.cells #[.int .u64 N', .int .u64 B'] 24)).cell? ⟨w1.heap.size, 0, none⟩ = some (.int .u64 N') := by simp [go_sem]
              have a3 : (w1.alloc (Obj.cells #[.int .u64 N', .int .u64 B'] 24)).cell? ⟨w1.heap.size, 1, none⟩ = some (.int .u64 B') := by simp [go_sem]
              have hl1 := hB1.size
              clear hB hb1 c0 c1 z0 z1 l0
              go_wp2_with fail
              have hS := hold4D (B := w.heap.size) ⟨a0, a1, a2, a3, hB2, hB2.size⟩
              clear a0 a1 a2 a3 hB1
              go_region_held3 (fun W => W.cell? ⟨w.heap.size, 0, none⟩ = some (.int .u64 N) ∧ W.cell? ⟨w.heap.size, 1, none⟩ = some (.int .u64 B) ∧ W.cell? ⟨w1.heap.size, 0, none⟩ = some (.int .u64 N') ∧ W.cell? ⟨w1.heap.size, 1, none⟩ = some (.int .u64 B') ∧ Below w.heap.size w W ∧ w.heap.size ≤ W.heap.size)
                (assumption)
                (first
                  | (go_at_call 14; (first | (with_reducible refine (T2.out _).mono ?_) | (with_reducible refine (T4.out _).mono ?_)); rintro e w' ⟨rfl, hb⟩; have hs := hold4 (by assumption) hb)
                  | (go_at_call 12; (with_reducible refine (T3.out _).mono ?_); rintro e w' ⟨rfl, hb⟩; have hs := hold4 (by assumption) hb)
                  | (go_at_call 16; (with_reducible refine (fixed_any _).mono ?_); rintro e w' ⟨rfl, hb⟩; have hs := hold4 (by assumption) hb))
              go_wp2
              go_ret
              exact ⟨rfl, hs.2.2.2.2.1⟩
end Go.Proofs.Ytpjckfpoeiljbaa
