/- The contract of the reference's Take. -/
import Derived.Test.YtpjckfpoeiljbaaR
import Derived.Deep.DeepCutAuto
namespace Go.Proofs.Ytpjckfpoeiljbaa
open Go.RowKit
set_option maxHeartbeats 1000000
set_option maxRecDepth 100000
set_option linter.unusedVariables false

theorem rtake_max (N B : Nat) (w : World) :
    Calls Try.prog 10 #[.agg #[.int .u64 N, .int .u64 B], .int .u64 18446744073709551615] w fun e w' => e = .returned (.tuple #[.agg #[.int .u64 0, .int .u64 0], .int .i64 1]) ∧ Below w.heap.size w w' := by
  go_enter Try.func10, Try.ntmps10
  go_wp2
  exact bodyPost_ret (v := .tuple #[.agg #[.int .u64 0, .int .u64 0], .int .i64 1]) (by simp [results, Try.results10, go_sem]) rfl ⟨rfl, by go_grown⟩

theorem rtake_old (N B n : Nat) (w : World) (hn : n < 18446744073709551615) (hN : N < 18446744073709551616) (hB : B < 18446744073709551616) (hcan : canB N B n = false) :
    Calls Try.prog 10 #[.agg #[.int .u64 N, .int .u64 B], .int .u64 n] w fun e w' => e = .returned (.tuple #[.agg #[.int .u64 0, .int .u64 0], .int .i64 12]) ∧ Below w.heap.size w w' := by
  have t := fun w => rcan_any N B n w (by omega) hN hB
  rw [hcan] at t
  have T := Lib.hid t
  clear t hcan
  go_enter Try.func10, Try.ntmps10
  go_wp2_with fail
  refine (T.out _).mono ?_
  rintro e w' ⟨rfl, hb⟩; obtain ⟨hc, hf⟩ := bcell hb; have hz := hb.size; simp at hz; have hb0 := below_of2 hb
  go_wp2
  exact bodyPost_ret (v := .tuple #[.agg #[.int .u64 0, .int .u64 0], .int .i64 12]) (by simp [results, Try.results10, go_sem, hc]) rfl ⟨rfl, by go_grown⟩

theorem rtake_yes (N B n : Nat) (w : World) (hn : n < 18446744073709551615) (hN : N < 18446744073709551616) (hw : wf N B) (hcan : canB N B n = true) :
    Calls Try.prog 10 #[.agg #[.int .u64 N, .int .u64 B], .int .u64 n] w fun e w' => e = .returned (.tuple #[.agg #[.int .u64 (takeNext N B n), .int .u64 (takeBits N B n)], .int .i64 0]) ∧ Below w.heap.size w w' := by
  have hB := hw.1
  have t := fun w => rcan_any N B n w (by omega) hN hB
  rw [hcan] at t
  have T := Lib.hid t
  have HR := Lib.hid (ref_take hn hcan hw)
  have HM := Lib.hid (next_take hn hcan)
  have HW := Lib.hid hw
  clear t hcan hw
  generalize hM' : takeNext N B n = M at HR HM ⊢
  generalize hT' : takeBits N B n = TB at HR ⊢
  clear hM' hT'
  have hM : M < 18446744073709551616 := by rw [HM.out]; omega
  have hMn : n < M := by rw [HM.out]; omega
  have hMN : N ≤ M := by rw [HM.out]; omega
  have hMax : max (N : Int) ((n : Int) + 1) = M := by rw [HM.out]; omega
  go_enter Try.func10, Try.ntmps10
  go_wp2_with fail
  refine (T.out _).mono ?_
  rintro e w1 ⟨rfl, hb⟩
  have q0 : w1.cell? ⟨w.heap.size, 0, none⟩ = some (.int .u64 N) := keep hb (by simp [go_sem])
  have q1 : w1.cell? ⟨w.heap.size, 1, none⟩ = some (.int .u64 B) := keep hb (by simp [go_sem])
  have r0 : w1.cell? ⟨w.heap.size + 1, 0, none⟩ = some (.int .u64 0) := keep hb (by simp [go_sem])
  have r1 : w1.cell? ⟨w.heap.size + 1, 1, none⟩ = some (.int .u64 0) := keep hb (by simp [go_sem])
  have y0 : w1.frozen? ⟨w.heap.size + 1, 0, none⟩ = false := keepF hb (v := .int .u64 0) (by simp [go_sem]) (by simp [go_sem])
  have y1 : w1.frozen? ⟨w.heap.size + 1, 1, none⟩ = false := keepF hb (v := .int .u64 0) (by simp [go_sem]) (by simp [go_sem])
  have hB1 : Below w.heap.size w w1 := below_of2 hb
  clear hb
  have lw : w.heap.size + 1 < w1.heap.size := lt_of r0
  go_wp2_with fail
  all_goals
    go_loopw [7, 8] (fun i _ wr => ∃ (m : Nat) (x : Int), m ≤ 64 ∧ x = (m : Int) - 1 ∧ i = .int .i64 x ∧ wr.cell? ⟨w1.heap.size, 0, none⟩ = some (.int .u64 M) ∧ wr.cell? ⟨w1.heap.size, 1, none⟩ = some (.int .u64 (refB (condB N B n M) (64 - m) : Nat)) ∧
      wr.cell? ⟨w.heap.size, 0, none⟩ = some (.int .u64 N) ∧ wr.cell? ⟨w.heap.size, 1, none⟩ = some (.int .u64 B) ∧ wr.cell? ⟨w.heap.size + 1, 0, none⟩ = some (.int .u64 0) ∧ wr.cell? ⟨w.heap.size + 1, 1, none⟩ = some (.int .u64 0) ∧
      wr.frozen? ⟨w1.heap.size, 1, none⟩ = false ∧ wr.frozen? ⟨w.heap.size + 1, 0, none⟩ = false ∧ wr.frozen? ⟨w.heap.size + 1, 1, none⟩ = false ∧ Below w.heap.size w wr) (fun i _ _ => (intOf i + 1).toNat)
    case atStart =>
      refine ⟨64, 63, Nat.le_refl _, by omega, rfl, ?_, by simp [go_sem, refB], keepA _ q0, keepA _ q1, keepA _ r0, keepA _ r1, by simp [go_sem], ?_, ?_, hB1.alloc hB1.size _⟩
      · simp [go_sem]; omega
      · exact keepF ((Below.refl _ _).alloc (Nat.le_refl _) _) r0 y0
      · exact keepF ((Below.refl _ _).alloc (Nat.le_refl _) _) r1 y1
    case round =>
      obtain ⟨m, x, hm, hx, rfl, a0, a1, b0, b1, c0, c1, z1, y0', y1', hB'⟩ := hrel
      have la : w1.heap.size < wr.heap.size := lt_of a0
      rcases m with _ | k
      · have hx' : x < 0 := by omega
        clear hx
        rw [HR.out] at a1
        go_wp2
        exact bodyPost_ret (v := .tuple #[.agg #[.int .u64 M, .int .u64 TB], .int .i64 0]) (by simp [results, Try.results10, go_sem, *]) rfl ⟨rfl, by go_grown⟩
      · have hx' : x = (k : Int) := by omega
        subst hx'
        have hlt := refB_lt (condB N B n M) (63 - k)
        have hlt2 : 2 ^ (63 - k) ≤ 2 ^ 63 := Nat.pow_le_pow_right (by omega) (by omega)
        have h63 : (2 : Nat) ^ 63 = 9223372036854775808 := by decide
        have hs : refB (condB N B n M) (64 - k) = 2 * refB (condB N B n M) (63 - k) + (if condB N B n M k then 1 else 0) := by
          rw [show 64 - k = (63 - k) + 1 by omega, refB, show 63 - (63 - k) = k by omega]
        rw [show 64 - (k + 1) = 63 - k by omega] at a1
        have hacc : refB (condB N B n M) (63 - k) < 9223372036854775808 := by omega
        generalize refB (condB N B n M) (63 - k) = acc at a1 hs hacc
        clear hlt hlt2 h63
        have HS := Lib.hid hs
        clear hs hx
        have hl63 : (63 : Int) - k < 64 := by omega
        by_cases hkM : k < M
        · have hkM' : (k : Int) < M := by omega
          have ex : ((M : Int) - 1 - k) = ((M - 1 - k : Nat) : Int) := by omega
          have ht := fun w => rhas_any N B (M - 1 - k) w (by omega) hN hB
          have EX := Lib.hid ex
          by_cases htest : M - 1 - k = n
          · have hc : condB N B n M k = true := by unfold condB; simp [hkM, htest]
            rw [hc] at HS
            have hte : ((M : Int) - 1 - k == n) = true := beq_iff_eq.2 (by omega)
            clear hc htest ex ht EX
            go_wp2
            go_roundw
            case rel =>
              refine ⟨k, (k : Int) - 1, by omega, rfl, rfl, ?_, ?_, ?_, ?_, ?_, ?_, ?_, ?_, ?_, ?_⟩
              · exact (by first | assumption | (go_cell; done) | (simp [go_sem, *]; done))
              · rw [HS.out]; exact (by first | (go_cell; done) | ((simp [go_sem, *]) <;> omega))
              · exact (by first | assumption | (go_cell; done) | (simp [go_sem, *]; done))
              · exact (by first | assumption | (go_cell; done) | (simp [go_sem, *]; done))
              · exact (by first | assumption | (go_cell; done) | (simp [go_sem, *]; done))
              · exact (by first | assumption | (go_cell; done) | (simp [go_sem, *]; done))
              · exact (by first | assumption | (go_cell; done) | (simp [go_sem, *]; done))
              · exact (by first | assumption | (go_cell; done) | (simp [go_sem, *]; done))
              · exact (by first | assumption | (go_cell; done) | (simp [go_sem, *]; done))
              · go_grown
            case measure => (simp [intOf] <;> omega)

          · have hte : ((M : Int) - 1 - k == n) = false := beq_eq_false_iff_ne.2 (by omega)
            have hc : condB N B n M k = hasB N B (M - 1 - k) := by unfold condB; simp [hkM, htest]
            rw [hc] at HS
            clear hc htest ex
            generalize hasB N B (M - 1 - k) = b at HS ht
            have HT := Lib.hid ht
            clear ht
            cases b
            · go_wp2_with fail
              rw [EX.out]
              refine (HT.out _).mono ?_
              rintro e w2 ⟨rfl, hb2⟩
              have a0x : w2.cell? ⟨w1.heap.size, 0, none⟩ = some (.int .u64 M) := keep hb2 (by simp [go_sem, *])
              have a1x : w2.cell? ⟨w1.heap.size, 1, none⟩ = some (.int .u64 ((acc : Int) * 2)) := keep hb2 (by simp [go_sem, *])
              have b0x : w2.cell? ⟨w.heap.size, 0, none⟩ = some (.int .u64 N) := keep hb2 (by simp [go_sem, *])
              have b1x : w2.cell? ⟨w.heap.size, 1, none⟩ = some (.int .u64 B) := keep hb2 (by simp [go_sem, *])
              have c0x : w2.cell? ⟨w.heap.size + 1, 0, none⟩ = some (.int .u64 0) := keep hb2 (by simp [go_sem, *])
              have c1x : w2.cell? ⟨w.heap.size + 1, 1, none⟩ = some (.int .u64 0) := keep hb2 (by simp [go_sem, *])
              have z1x : w2.frozen? ⟨w1.heap.size, 1, none⟩ = false := keepF hb2 (v := .int .u64 ((acc : Int) * 2)) (by simp [go_sem, *]) (by simp [go_sem, *])
              have y0x : w2.frozen? ⟨w.heap.size + 1, 0, none⟩ = false := keepF hb2 (v := .int .u64 0) (by simp [go_sem, *]) (by simp [go_sem, *])
              have y1x : w2.frozen? ⟨w.heap.size + 1, 1, none⟩ = false := keepF hb2 (v := .int .u64 0) (by simp [go_sem, *]) (by simp [go_sem, *])
              have hBx : Below w.heap.size w w2 := below_from (by go_grown) (by simpa [World.setCell] using hB'.size) hb2
              clear hb2 a0 a1 b0 b1 c0 c1 z1 y0' y1' hB' la
              
              go_wp2
              
              go_roundw
              case rel =>
                refine ⟨k, (k : Int) - 1, by omega, rfl, rfl, ?_, ?_, ?_, ?_, ?_, ?_, ?_, ?_, ?_, ?_⟩
                · exact (by first | assumption | (go_cell; done) | (simp [go_sem, *]; done))
                · rw [HS.out]; exact (by first | (go_cell; done) | ((simp [go_sem, *]) <;> omega))
                · exact (by first | assumption | (go_cell; done) | (simp [go_sem, *]; done))
                · exact (by first | assumption | (go_cell; done) | (simp [go_sem, *]; done))
                · exact (by first | assumption | (go_cell; done) | (simp [go_sem, *]; done))
                · exact (by first | assumption | (go_cell; done) | (simp [go_sem, *]; done))
                · exact (by first | assumption | (go_cell; done) | (simp [go_sem, *]; done))
                · exact (by first | assumption | (go_cell; done) | (simp [go_sem, *]; done))
                · exact (by first | assumption | (go_cell; done) | (simp [go_sem, *]; done))
                · go_grown
              case measure => (simp [intOf] <;> omega)

            · go_wp2_with fail
              rw [EX.out]
              refine (HT.out _).mono ?_
              rintro e w2 ⟨rfl, hb2⟩
              have a0x : w2.cell? ⟨w1.heap.size, 0, none⟩ = some (.int .u64 M) := keep hb2 (by simp [go_sem, *])
              have a1x : w2.cell? ⟨w1.heap.size, 1, none⟩ = some (.int .u64 ((acc : Int) * 2)) := keep hb2 (by simp [go_sem, *])
              have b0x : w2.cell? ⟨w.heap.size, 0, none⟩ = some (.int .u64 N) := keep hb2 (by simp [go_sem, *])
              have b1x : w2.cell? ⟨w.heap.size, 1, none⟩ = some (.int .u64 B) := keep hb2 (by simp [go_sem, *])
              have c0x : w2.cell? ⟨w.heap.size + 1, 0, none⟩ = some (.int .u64 0) := keep hb2 (by simp [go_sem, *])
              have c1x : w2.cell? ⟨w.heap.size + 1, 1, none⟩ = some (.int .u64 0) := keep hb2 (by simp [go_sem, *])
              have z1x : w2.frozen? ⟨w1.heap.size, 1, none⟩ = false := keepF hb2 (v := .int .u64 ((acc : Int) * 2)) (by simp [go_sem, *]) (by simp [go_sem, *])
              have y0x : w2.frozen? ⟨w.heap.size + 1, 0, none⟩ = false := keepF hb2 (v := .int .u64 0) (by simp [go_sem, *]) (by simp [go_sem, *])
              have y1x : w2.frozen? ⟨w.heap.size + 1, 1, none⟩ = false := keepF hb2 (v := .int .u64 0) (by simp [go_sem, *]) (by simp [go_sem, *])
              have hBx : Below w.heap.size w w2 := below_from (by go_grown) (by simpa [World.setCell] using hB'.size) hb2
              clear hb2 a0 a1 b0 b1 c0 c1 z1 y0' y1' hB' la
              
              go_wp2
              
              go_roundw
              case rel =>
                refine ⟨k, (k : Int) - 1, by omega, rfl, rfl, ?_, ?_, ?_, ?_, ?_, ?_, ?_, ?_, ?_, ?_⟩
                · exact (by first | assumption | (go_cell; done) | (simp [go_sem, *]; done))
                · rw [HS.out]; exact (by first | (go_cell; done) | ((simp [go_sem, *]) <;> omega))
                · exact (by first | assumption | (go_cell; done) | (simp [go_sem, *]; done))
                · exact (by first | assumption | (go_cell; done) | (simp [go_sem, *]; done))
                · exact (by first | assumption | (go_cell; done) | (simp [go_sem, *]; done))
                · exact (by first | assumption | (go_cell; done) | (simp [go_sem, *]; done))
                · exact (by first | assumption | (go_cell; done) | (simp [go_sem, *]; done))
                · exact (by first | assumption | (go_cell; done) | (simp [go_sem, *]; done))
                · exact (by first | assumption | (go_cell; done) | (simp [go_sem, *]; done))
                · go_grown
              case measure => (simp [intOf] <;> omega)

        · have hkM' : ¬ (k : Int) < M := by omega
          have hc : condB N B n M k = false := by unfold condB; simp [hkM]
          rw [hc] at HS
          have hbit := HW.out.2 k (by omega)
          have ht := fun w => bit_any B k w hB (by omega)
          rw [hbit] at ht
          have HT := Lib.hid ht
          clear hc ht hbit
          by_cases hNM : N = M
          · have hte : ((N : Int) == M) = true := beq_iff_eq.2 (by omega)
            have hNM' := Lib.hid hNM
            clear hNM
            go_wp2_with fail
            refine (HT.out _).mono ?_
            rintro e w2 ⟨rfl, rfl⟩
            go_wp2
            
            go_roundw
            case rel =>
              refine ⟨k, (k : Int) - 1, by omega, rfl, rfl, ?_, ?_, ?_, ?_, ?_, ?_, ?_, ?_, ?_, ?_⟩
              · exact (by first | assumption | (go_cell; done) | (simp [go_sem, *]; done))
              · rw [HS.out]; exact (by first | (go_cell; done) | ((simp [go_sem, *]) <;> omega))
              · exact (by first | assumption | (go_cell; done) | (simp [go_sem, *]; done))
              · exact (by first | assumption | (go_cell; done) | (simp [go_sem, *]; done))
              · exact (by first | assumption | (go_cell; done) | (simp [go_sem, *]; done))
              · exact (by first | assumption | (go_cell; done) | (simp [go_sem, *]; done))
              · exact (by first | assumption | (go_cell; done) | (simp [go_sem, *]; done))
              · exact (by first | assumption | (go_cell; done) | (simp [go_sem, *]; done))
              · exact (by first | assumption | (go_cell; done) | (simp [go_sem, *]; done))
              · go_grown
            case measure => (simp [intOf] <;> omega)

          · have hte : ((N : Int) == M) = false := beq_eq_false_iff_ne.2 (by omega)
            clear hNM
            go_wp2
            go_roundw
            case rel =>
              refine ⟨k, (k : Int) - 1, by omega, rfl, rfl, ?_, ?_, ?_, ?_, ?_, ?_, ?_, ?_, ?_, ?_⟩
              · exact (by first | assumption | (go_cell; done) | (simp [go_sem, *]; done))
              · rw [HS.out]; exact (by first | (go_cell; done) | ((simp [go_sem, *]) <;> omega))
              · exact (by first | assumption | (go_cell; done) | (simp [go_sem, *]; done))
              · exact (by first | assumption | (go_cell; done) | (simp [go_sem, *]; done))
              · exact (by first | assumption | (go_cell; done) | (simp [go_sem, *]; done))
              · exact (by first | assumption | (go_cell; done) | (simp [go_sem, *]; done))
              · exact (by first | assumption | (go_cell; done) | (simp [go_sem, *]; done))
              · exact (by first | assumption | (go_cell; done) | (simp [go_sem, *]; done))
              · exact (by first | assumption | (go_cell; done) | (simp [go_sem, *]; done))
              · go_grown
            case measure => (simp [intOf] <;> omega)

end Go.Proofs.Ytpjckfpoeiljbaa
