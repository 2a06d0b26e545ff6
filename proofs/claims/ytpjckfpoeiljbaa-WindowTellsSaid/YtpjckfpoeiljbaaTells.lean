/- The walk of WindowTells. -/
import Derived.Test.YtpjckfpoeiljbaaRT
import Derived.Test.YtpjckfpoeiljbaaF
import Derived.Test.YtpjckfpoeiljbaaH2
import Derived.BigQuiet
namespace Go.Proofs.Ytpjckfpoeiljbaa
open Go.RowKit
set_option maxHeartbeats 2000000
set_option maxRecDepth 100000
set_option linter.unusedVariables false

theorem rtake_any (N B n : Nat) (w : World) (hn : n < 18446744073709551616) (hN : N < 18446744073709551616) (hw : wf N B) :
    Calls Try.prog 10 #[.agg #[.int .u64 N, .int .u64 B], .int .u64 n] w fun e w' => e = .returned (.tuple #[.agg #[.int .u64 (takeNext N B n), .int .u64 (takeBits N B n)], .int .i64 (takeErr N B n)]) ∧ Below w.heap.size w w' := by
  by_cases h1 : n = 18446744073709551615
  · subst h1
    obtain ⟨e1, e2, e3⟩ := take_is_max (N := N) (B := B)
    rw [e1, e2, e3]; exact rtake_max N B w
  · cases hcan : canB N B n
    · obtain ⟨e1, e2, e3⟩ := take_is_old h1 hcan
      rw [e1, e2, e3]; exact rtake_old N B n w (by omega) hN hw.1 hcan
    · have e3 : takeErr N B n = 0 := by unfold takeErr; rw [if_neg h1, if_neg (by simp [hcan])]
      rw [e3]; exact rtake_yes N B n w (by omega) hN hw hcan

theorem tells_rest (N B n : Nat) (w : World) (hn : n < 18446744073709551616) (hN : N < 18446744073709551616) (hw : wf N B) :
    (∀ W, Calls Try.prog 9 #[.agg #[.int .u64 N, .int .u64 B], .int .u64 n] W fun e w' => e = .returned (.tuple #[.agg #[.int .u64 (takeNext N B n), .int .u64 (takeBits N B n)], .int .i64 (takeErr N B n)]) ∧ Below W.heap.size W w') ∧
    (∀ W, Calls Try.prog 10 #[.agg #[.int .u64 N, .int .u64 B], .int .u64 n] W fun e w' => e = .returned (.tuple #[.agg #[.int .u64 (takeNext N B n), .int .u64 (takeBits N B n)], .int .i64 (takeErr N B n)]) ∧ Below W.heap.size W w') ∧
    (∀ W, Calls Try.prog 12 #[.agg #[.int .u64 N, .int .u64 B], .int .u64 n] W fun e w' => e = .returned (.bool (canB N B n)) ∧ Below W.heap.size W w') ∧
    (∀ W, Calls Try.prog 13 #[.agg #[.int .u64 N, .int .u64 B], .int .u64 n] W fun e w' => e = .returned (.bool (canB N B n)) ∧ Below W.heap.size W w') ∧
    (∀ W, Calls Try.prog 14 #[.agg #[.int .u64 N, .int .u64 B], .int .u64 n] W fun e w' => e = .returned (.bool (hasB N B n)) ∧ Below W.heap.size W w') ∧
    (∀ W, Calls Try.prog 15 #[.agg #[.int .u64 N, .int .u64 B], .int .u64 n] W fun e w' => e = .returned (.bool (hasB N B n)) ∧ Below W.heap.size W w') :=
  ⟨fun W => take_any N B n W hn hN hw.1, fun W => rtake_any N B n W hn hN hw, fun W => can_any N B n W hn hN hw.1, fun W => rcan_any N B n W hn hN hw.1, fun W => has_any N B n W hN hw.1, fun W => rhas_any N B n W hn hN hw.1⟩

theorem tells_core (N b n : Nat) (w : World) (hN : N < 18446744073709551616) (hb : b < 18446744073709551616) (hn : n < 18446744073709551616) :
    Calls Try.prog 3 #[.agg #[.int .u64 N, .int .u64 b], .int .u64 n] w fun e w' => e = .returned (.bool true) ∧ Below w.heap.size w w' := by
  by_cases h64 : N < 64
  · have hw := wf_mod2 (B := b) hb h64
    have hT := tells_rest N (b % 2 ^ N) n w hn hN hw
    have hp := wrap_pow h64
    have hP := Nat.two_pow_pos N
    generalize 2 ^ N = P at hp hP hw hT
    have hm : (b : Int) % (P : Int) = ((b % P : Nat) : Int) := by simp
    generalize b % P = B at hm hw hT
    have hP0 : ¬ (P : Int) = 0 := by omega
    generalize takeNext N B n = M at hT
    generalize takeBits N B n = T at hT
    generalize takeErr N B n = E at hT
    generalize canB N B n = C at hT
    generalize hasB N B n = H at hT
    obtain ⟨t1, t2, t3, t4, t5, t6⟩ := hT
    have T1 := Lib.hid t1
    have T2 := Lib.hid t2
    have T3 := Lib.hid t3
    have T4 := Lib.hid t4
    have T5 := Lib.hid t5
    have T6 := Lib.hid t6
    clear t1 t2 t3 t4 t5 t6 hw

    go_enter Try.func3, Try.ntmps3
    go_wp2_with fail
    clear hm hp hP0 hP
    have c0 : (w.alloc (Obj.cells #[.int .u64 N, .int .u64 B] 24)).cell? ⟨w.heap.size, 0, none⟩ = some (.int .u64 N) := by simp [go_sem]
    have c1 : (w.alloc (Obj.cells #[.int .u64 N, .int .u64 B] 24)).cell? ⟨w.heap.size, 1, none⟩ = some (.int .u64 B) := by simp [go_sem]
    have hB0 := (Below.refl w.heap.size w).alloc (Nat.le_refl _) (Obj.cells #[.int .u64 N, .int .u64 B] 24)
    generalize w.alloc (Obj.cells #[.int .u64 N, .int .u64 B] 24) = w0 at c0 c1 hB0 ⊢
    go_wp2_with fail
    refine (T1.out _).mono ?_
    rintro e w1 ⟨rfl, hb⟩
    have d0 : w1.cell? ⟨w.heap.size, 0, none⟩ = some (.int .u64 N) := keep hb c0
    have d1 : w1.cell? ⟨w.heap.size, 1, none⟩ = some (.int .u64 B) := keep hb c1
    have hB1 := below_from hB0 hB0.size hb
    have g1 : w.heap.size < w1.heap.size := lt_of d0
    clear c0 c1 hB0 hb
    go_wp2_with fail
    refine (ref_any N B _).mono ?_
    rintro e w2 ⟨rfl, hb⟩
    have e0 : w2.cell? ⟨w.heap.size, 0, none⟩ = some (.int .u64 N) := keep hb (keepA _ d0)
    have e1 : w2.cell? ⟨w.heap.size, 1, none⟩ = some (.int .u64 B) := keep hb (keepA _ d1)
    have x0 : w2.cell? ⟨w1.heap.size, 0, none⟩ = some (.int .u64 M) := keep hb (by simp [go_sem])
    have x1 : w2.cell? ⟨w1.heap.size, 1, none⟩ = some (.int .u64 T) := keep hb (by simp [go_sem])
    have hB2 := below_from hB1 hB1.size (below_of hb)
    have g3 : w.heap.size < w2.heap.size := lt_of e0
    have g4 : w1.heap.size < w2.heap.size := lt_of x0
    clear d0 d1 hB1 hb
    go_wp2_with fail
    refine (T2.out _).mono ?_
    rintro e w3 ⟨rfl, hb⟩
    have f0 : w3.cell? ⟨w.heap.size, 0, none⟩ = some (.int .u64 N) := keep hb e0
    have f1 : w3.cell? ⟨w.heap.size, 1, none⟩ = some (.int .u64 B) := keep hb e1
    have y0 : w3.cell? ⟨w1.heap.size, 0, none⟩ = some (.int .u64 M) := keep hb x0
    have y1 : w3.cell? ⟨w1.heap.size, 1, none⟩ = some (.int .u64 T) := keep hb x1
    have hB3 := below_from hB2 hB2.size hb
    have g2 : w1.heap.size < w3.heap.size := lt_of y0
    have g5 : w.heap.size < w3.heap.size := lt_of f0
    clear e0 e1 x0 x1 hB2 hb
    go_wp2_with fail
    have z0 : (w3.alloc (Obj.cells #[.int .u64 M, .int .u64 T] 28)).cell? ⟨w3.heap.size, 0, none⟩ = some (.int .u64 M) := by simp [go_sem]
    have z1 : (w3.alloc (Obj.cells #[.int .u64 M, .int .u64 T] 28)).cell? ⟨w3.heap.size, 1, none⟩ = some (.int .u64 T) := by simp [go_sem]
    have hB4 : Below w.heap.size w (w3.alloc (Obj.cells #[.int .u64 M, .int .u64 T] 28)) := hB3.alloc hB3.size _
    have h6 := X.hold6D ⟨keepA (Obj.cells #[.int .u64 M, .int .u64 T] 28) f0, keepA _ f1, keepA _ y0, keepA _ y1, z0, z1, hB4, hB4.size⟩
    refine wp_region_quiet (C := fun W => W.cell? ⟨w.heap.size, 0, none⟩ = some (.int .u64 N) ∧ W.cell? ⟨w.heap.size, 1, none⟩ = some (.int .u64 B) ∧ W.cell? ⟨w1.heap.size, 0, none⟩ = some (.int .u64 M) ∧ W.cell? ⟨w1.heap.size, 1, none⟩ = some (.int .u64 T) ∧ W.cell? ⟨w3.heap.size, 0, none⟩ = some (.int .u64 M) ∧ W.cell? ⟨w3.heap.size, 1, none⟩ = some (.int .u64 T) ∧ Below w.heap.size w W ∧ w.heap.size ≤ W.heap.size) (by kernel_rfl) (by kernel_rfl) h6 ?_
    simp only []
    clear f0 f1 y0 y1 z0 z1 hB3 hB4 h6
    repeat (first
      | go_big_quiet_skip
      | (go_big_quiet_want; apply Exists.intro; refine ⟨fun wq hq => ?_, ?_⟩; focus (first
          | (obtain ⟨c0, c1, c2, c3, c4, c5, _, _⟩ := hq; go_simp; exact rfl)
          | (have hq' := hq; obtain ⟨c0, c1, c2, c3, c4, c5, _, _⟩ := hq'; go_simp; go_at_call 12; refine (T3.out _).mono fun e w2 h => ⟨h.1, X.hold6 hq h.2⟩)
          | (have hq' := hq; obtain ⟨c0, c1, c2, c3, c4, c5, _, _⟩ := hq'; go_simp; go_at_call 11; (with_reducible refine (ref_any N B _).mono ?_); exact fun e w2 h => ⟨h.1, X.hold6 hq h.2⟩)
          | (have hq' := hq; obtain ⟨c0, c1, c2, c3, c4, c5, _, _⟩ := hq'; go_simp; go_at_call 11; (with_reducible refine (ref_any M T _).mono ?_); exact fun e w2 h => ⟨h.1, X.hold6 hq h.2⟩)
          | (have hq' := hq; obtain ⟨c0, c1, c2, c3, c4, c5, _, _⟩ := hq'; go_simp; go_at_call 13; refine (T4.out _).mono fun e w2 h => ⟨h.1, X.hold6 hq h.2⟩)
          | (have hq' := hq; obtain ⟨c0, c1, c2, c3, c4, c5, _, _⟩ := hq'; go_simp; go_at_call 14; refine (T5.out _).mono fun e w2 h => ⟨h.1, X.hold6 hq h.2⟩)
          | (have hq' := hq; obtain ⟨c0, c1, c2, c3, c4, c5, _, _⟩ := hq'; go_simp; go_at_call 15; refine (T6.out _).mono fun e w2 h => ⟨h.1, X.hold6 hq h.2⟩)
          | (have hq' := hq; obtain ⟨c0, c1, c2, c3, c4, c5, _, _⟩ := hq'; go_simp; go_at_call 16; refine (fixed_any _).mono fun e w2 h => ⟨h.1, X.hold6 hq h.2⟩))
         simp only [Act.put, List.setIfInBounds_toArray, List.set_cons_succ, List.set_cons_zero]
         go_big_quiet_on))
    refine wpQuiet_nil ?_
    intro wf hf
    have hBf := hf.2.2.2.2.2.2.1
    clear hf
    go_wp2
    go_ret
    exact ⟨rfl, hBf⟩
  · have hw := wf_mod (N := N) hb (by omega)
    have hT := tells_rest N b n w hn hN hw
    have h64' : ¬ (N : Int) < 64 := by omega
    generalize b = B at hw hT ⊢
    generalize takeNext N B n = M at hT
    generalize takeBits N B n = T at hT
    generalize takeErr N B n = E at hT
    generalize canB N B n = C at hT
    generalize hasB N B n = H at hT
    obtain ⟨t1, t2, t3, t4, t5, t6⟩ := hT
    have T1 := Lib.hid t1
    have T2 := Lib.hid t2
    have T3 := Lib.hid t3
    have T4 := Lib.hid t4
    have T5 := Lib.hid t5
    have T6 := Lib.hid t6
    clear t1 t2 t3 t4 t5 t6 hw

    go_enter Try.func3, Try.ntmps3
    go_wp2_with fail

    have c0 : (w.alloc (Obj.cells #[.int .u64 N, .int .u64 B] 24)).cell? ⟨w.heap.size, 0, none⟩ = some (.int .u64 N) := by simp [go_sem]
    have c1 : (w.alloc (Obj.cells #[.int .u64 N, .int .u64 B] 24)).cell? ⟨w.heap.size, 1, none⟩ = some (.int .u64 B) := by simp [go_sem]
    have hB0 := (Below.refl w.heap.size w).alloc (Nat.le_refl _) (Obj.cells #[.int .u64 N, .int .u64 B] 24)
    generalize w.alloc (Obj.cells #[.int .u64 N, .int .u64 B] 24) = w0 at c0 c1 hB0 ⊢
    go_wp2_with fail
    refine (T1.out _).mono ?_
    rintro e w1 ⟨rfl, hb⟩
    have d0 : w1.cell? ⟨w.heap.size, 0, none⟩ = some (.int .u64 N) := keep hb c0
    have d1 : w1.cell? ⟨w.heap.size, 1, none⟩ = some (.int .u64 B) := keep hb c1
    have hB1 := below_from hB0 hB0.size hb
    have g1 : w.heap.size < w1.heap.size := lt_of d0
    clear c0 c1 hB0 hb
    go_wp2_with fail
    refine (ref_any N B _).mono ?_
    rintro e w2 ⟨rfl, hb⟩
    have e0 : w2.cell? ⟨w.heap.size, 0, none⟩ = some (.int .u64 N) := keep hb (keepA _ d0)
    have e1 : w2.cell? ⟨w.heap.size, 1, none⟩ = some (.int .u64 B) := keep hb (keepA _ d1)
    have x0 : w2.cell? ⟨w1.heap.size, 0, none⟩ = some (.int .u64 M) := keep hb (by simp [go_sem])
    have x1 : w2.cell? ⟨w1.heap.size, 1, none⟩ = some (.int .u64 T) := keep hb (by simp [go_sem])
    have hB2 := below_from hB1 hB1.size (below_of hb)
    have g3 : w.heap.size < w2.heap.size := lt_of e0
    have g4 : w1.heap.size < w2.heap.size := lt_of x0
    clear d0 d1 hB1 hb
    go_wp2_with fail
    refine (T2.out _).mono ?_
    rintro e w3 ⟨rfl, hb⟩
    have f0 : w3.cell? ⟨w.heap.size, 0, none⟩ = some (.int .u64 N) := keep hb e0
    have f1 : w3.cell? ⟨w.heap.size, 1, none⟩ = some (.int .u64 B) := keep hb e1
    have y0 : w3.cell? ⟨w1.heap.size, 0, none⟩ = some (.int .u64 M) := keep hb x0
    have y1 : w3.cell? ⟨w1.heap.size, 1, none⟩ = some (.int .u64 T) := keep hb x1
    have hB3 := below_from hB2 hB2.size hb
    have g2 : w1.heap.size < w3.heap.size := lt_of y0
    have g5 : w.heap.size < w3.heap.size := lt_of f0
    clear e0 e1 x0 x1 hB2 hb
    go_wp2_with fail
    have z0 : (w3.alloc (Obj.cells #[.int .u64 M, .int .u64 T] 28)).cell? ⟨w3.heap.size, 0, none⟩ = some (.int .u64 M) := by simp [go_sem]
    have z1 : (w3.alloc (Obj.cells #[.int .u64 M, .int .u64 T] 28)).cell? ⟨w3.heap.size, 1, none⟩ = some (.int .u64 T) := by simp [go_sem]
    have hB4 : Below w.heap.size w (w3.alloc (Obj.cells #[.int .u64 M, .int .u64 T] 28)) := hB3.alloc hB3.size _
    have h6 := X.hold6D ⟨keepA (Obj.cells #[.int .u64 M, .int .u64 T] 28) f0, keepA _ f1, keepA _ y0, keepA _ y1, z0, z1, hB4, hB4.size⟩
    refine wp_region_quiet (C := fun W => W.cell? ⟨w.heap.size, 0, none⟩ = some (.int .u64 N) ∧ W.cell? ⟨w.heap.size, 1, none⟩ = some (.int .u64 B) ∧ W.cell? ⟨w1.heap.size, 0, none⟩ = some (.int .u64 M) ∧ W.cell? ⟨w1.heap.size, 1, none⟩ = some (.int .u64 T) ∧ W.cell? ⟨w3.heap.size, 0, none⟩ = some (.int .u64 M) ∧ W.cell? ⟨w3.heap.size, 1, none⟩ = some (.int .u64 T) ∧ Below w.heap.size w W ∧ w.heap.size ≤ W.heap.size) (by kernel_rfl) (by kernel_rfl) h6 ?_
    simp only []
    clear f0 f1 y0 y1 z0 z1 hB3 hB4 h6
    repeat (first
      | go_big_quiet_skip
      | (go_big_quiet_want; apply Exists.intro; refine ⟨fun wq hq => ?_, ?_⟩; focus (first
          | (obtain ⟨c0, c1, c2, c3, c4, c5, _, _⟩ := hq; go_simp; exact rfl)
          | (have hq' := hq; obtain ⟨c0, c1, c2, c3, c4, c5, _, _⟩ := hq'; go_simp; go_at_call 12; refine (T3.out _).mono fun e w2 h => ⟨h.1, X.hold6 hq h.2⟩)
          | (have hq' := hq; obtain ⟨c0, c1, c2, c3, c4, c5, _, _⟩ := hq'; go_simp; go_at_call 11; (with_reducible refine (ref_any N B _).mono ?_); exact fun e w2 h => ⟨h.1, X.hold6 hq h.2⟩)
          | (have hq' := hq; obtain ⟨c0, c1, c2, c3, c4, c5, _, _⟩ := hq'; go_simp; go_at_call 11; (with_reducible refine (ref_any M T _).mono ?_); exact fun e w2 h => ⟨h.1, X.hold6 hq h.2⟩)
          | (have hq' := hq; obtain ⟨c0, c1, c2, c3, c4, c5, _, _⟩ := hq'; go_simp; go_at_call 13; refine (T4.out _).mono fun e w2 h => ⟨h.1, X.hold6 hq h.2⟩)
          | (have hq' := hq; obtain ⟨c0, c1, c2, c3, c4, c5, _, _⟩ := hq'; go_simp; go_at_call 14; refine (T5.out _).mono fun e w2 h => ⟨h.1, X.hold6 hq h.2⟩)
          | (have hq' := hq; obtain ⟨c0, c1, c2, c3, c4, c5, _, _⟩ := hq'; go_simp; go_at_call 15; refine (T6.out _).mono fun e w2 h => ⟨h.1, X.hold6 hq h.2⟩)
          | (have hq' := hq; obtain ⟨c0, c1, c2, c3, c4, c5, _, _⟩ := hq'; go_simp; go_at_call 16; refine (fixed_any _).mono fun e w2 h => ⟨h.1, X.hold6 hq h.2⟩))
         simp only [Act.put, List.setIfInBounds_toArray, List.set_cons_succ, List.set_cons_zero]
         go_big_quiet_on))
    refine wpQuiet_nil ?_
    intro wf hf
    have hBf := hf.2.2.2.2.2.2.1
    clear hf
    go_wp2
    go_ret
    exact ⟨rfl, hBf⟩
end Go.Proofs.Ytpjckfpoeiljbaa
