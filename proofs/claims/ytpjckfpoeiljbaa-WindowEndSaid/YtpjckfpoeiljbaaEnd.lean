/- The walk of WindowEnd. -/
import Derived.Test.YtpjckfpoeiljbaaStays
namespace Go.Proofs.Ytpjckfpoeiljbaa
open Go.RowKit
set_option maxHeartbeats 2000000
set_option maxRecDepth 100000
set_option linter.unusedVariables false

theorem end0 {N B : Nat} (hN : N < 9223372036854775808) (hB : B < 18446744073709551616) (w : World) : Calls Try.prog 9 #[.agg #[.int .u64 N, .int .u64 B], .int .u64 18446744073709551615] w fun e w' => e = .returned (.tuple #[.agg #[.int .u64 0, .int .u64 0], .int .i64 1]) ∧ Below w.heap.size w w' := by
  have h := take_any N B 18446744073709551615 w (by omega) (by omega) (by omega)
  obtain ⟨e1, e2, e3⟩ := take_is_max (N := N) (B := B)
  rw [e1, e2, e3] at h
  exact h

theorem end1 {N B : Nat} (hN : N < 9223372036854775808) (hB : B < 18446744073709551616) (w : World) : Calls Try.prog 9 #[.agg #[.int .u64 N, .int .u64 B], .int .u64 18446744073709551614] w fun e w' => e = .returned (.tuple #[.agg #[.int .u64 18446744073709551615, .int .u64 1], .int .i64 0]) ∧ Below w.heap.size w w' := by
  have h := take_any N B 18446744073709551614 w (by omega) (by omega) (by omega)
  obtain ⟨e1, e2, e3⟩ := take_is_new (N := N) (B := B) (n := 18446744073709551614) (by omega) (canB_lo (by omega) (by omega)) (by omega)
  have e4 : B * 2 ^ min (18446744073709551614 + 1 - N) 64 % 18446744073709551616 = 0 := by
    rw [show min (18446744073709551614 + 1 - N) 64 = 64 by omega]
    have e : (2 ^ 64 : Nat) = 18446744073709551616 := by decide
    rw [e]; exact Nat.mul_mod_left _ _
  rw [e1, e2, e3, e4] at h
  exact h

theorem end2 (w : World) : Calls Try.prog 9 #[.agg #[.int .u64 18446744073709551615, .int .u64 1], .int .u64 18446744073709551614] w fun e w' => e = .returned (.tuple #[.agg #[.int .u64 0, .int .u64 0], .int .i64 12]) ∧ Below w.heap.size w w' := by
  have h := take_any 18446744073709551615 1 18446744073709551614 w (by omega) (by omega) (by omega)
  rw [show takeNext 18446744073709551615 1 18446744073709551614 = 0 from by decide, show takeBits 18446744073709551615 1 18446744073709551614 = 0 from by decide, show takeErr 18446744073709551615 1 18446744073709551614 = 12 from by decide] at h
  exact h

theorem end3 (w : World) : Calls Try.prog 9 #[.agg #[.int .u64 18446744073709551615, .int .u64 1], .int .u64 18446744073709551615] w fun e w' => e = .returned (.tuple #[.agg #[.int .u64 0, .int .u64 0], .int .i64 1]) ∧ Below w.heap.size w w' := by
  have h := take_any 18446744073709551615 1 18446744073709551615 w (by omega) (by omega) (by omega)
  rw [show takeNext 18446744073709551615 1 18446744073709551615 = 0 from by decide, show takeBits 18446744073709551615 1 18446744073709551615 = 0 from by decide, show takeErr 18446744073709551615 1 18446744073709551615 = 1 from by decide] at h
  exact h

theorem end4 (w : World) : Calls Try.prog 9 #[.agg #[.int .u64 18446744073709551615, .int .u64 1], .int .u64 18446744073709551613] w fun e w' => e = .returned (.tuple #[.agg #[.int .u64 18446744073709551615, .int .u64 3], .int .i64 0]) ∧ Below w.heap.size w w' := by
  have h := take_any 18446744073709551615 1 18446744073709551613 w (by omega) (by omega) (by omega)
  rw [show takeNext 18446744073709551615 1 18446744073709551613 = 18446744073709551615 from by decide, show takeBits 18446744073709551615 1 18446744073709551613 = 3 from by decide, show takeErr 18446744073709551615 1 18446744073709551613 = 0 from by decide] at h
  exact h

theorem end5 {N B : Nat} (hN : N < 9223372036854775808) (hB : B < 18446744073709551616) (w : World) : Calls Try.prog 12 #[.agg #[.int .u64 N, .int .u64 B], .int .u64 18446744073709551615] w fun e w' => e = .returned (.bool false) ∧ Below w.heap.size w w' := by
  have h := can_any N B 18446744073709551615 w (by omega) (by omega) (by omega)
  rw [show canB N B 18446744073709551615 = false from canB_max] at h
  exact h

theorem end6 {N B : Nat} (hN : N < 9223372036854775808) (hB : B < 18446744073709551616) (w : World) : Calls Try.prog 14 #[.agg #[.int .u64 N, .int .u64 B], .int .u64 18446744073709551615] w fun e w' => e = .returned (.bool false) ∧ Below w.heap.size w w' := by
  have h := has_any N B 18446744073709551615 w (by omega) (by omega)
  rw [show hasB N B 18446744073709551615 = false from has_above (by omega)] at h
  exact h

theorem end7 {N B : Nat} (hN : N < 9223372036854775808) (hB : B < 18446744073709551616) (w : World) : Calls Try.prog 12 #[.agg #[.int .u64 N, .int .u64 B], .int .u64 18446744073709551614] w fun e w' => e = .returned (.bool true) ∧ Below w.heap.size w w' := by
  have h := can_any N B 18446744073709551614 w (by omega) (by omega) (by omega)
  rw [show canB N B 18446744073709551614 = true from canB_lo (by omega) (by omega)] at h
  exact h

theorem end8 (w : World) : Calls Try.prog 14 #[.agg #[.int .u64 18446744073709551615, .int .u64 1], .int .u64 18446744073709551614] w fun e w' => e = .returned (.bool true) ∧ Below w.heap.size w w' := by
  have h := has_any 18446744073709551615 1 18446744073709551614 w (by omega) (by omega)
  rw [show hasB 18446744073709551615 1 18446744073709551614 = true from by decide] at h
  exact h

theorem end9 (w : World) : Calls Try.prog 12 #[.agg #[.int .u64 18446744073709551615, .int .u64 1], .int .u64 18446744073709551615] w fun e w' => e = .returned (.bool false) ∧ Below w.heap.size w w' := by
  have h := can_any 18446744073709551615 1 18446744073709551615 w (by omega) (by omega) (by omega)
  rw [show canB 18446744073709551615 1 18446744073709551615 = false from by decide] at h
  exact h

theorem end10 (w : World) : Calls Try.prog 14 #[.agg #[.int .u64 18446744073709551615, .int .u64 3], .int .u64 18446744073709551613] w fun e w' => e = .returned (.bool true) ∧ Below w.heap.size w w' := by
  have h := has_any 18446744073709551615 3 18446744073709551613 w (by omega) (by omega)
  rw [show hasB 18446744073709551615 3 18446744073709551613 = true from by decide] at h
  exact h

theorem end11 (w : World) : Calls Try.prog 14 #[.agg #[.int .u64 18446744073709551615, .int .u64 3], .int .u64 18446744073709551614] w fun e w' => e = .returned (.bool true) ∧ Below w.heap.size w w' := by
  have h := has_any 18446744073709551615 3 18446744073709551614 w (by omega) (by omega)
  rw [show hasB 18446744073709551615 3 18446744073709551614 = true from by decide] at h
  exact h

theorem end_core (next bits : Nat) (w : World) (hn : next < 18446744073709551616) (hb : bits < 18446744073709551616) :
    Calls Try.prog 8 #[.int .u64 next, .int .u64 bits] w fun e w' => e = .returned (.bool true) ∧ Below w.heap.size w w' := by
  obtain ⟨N, hN2⟩ : ∃ N, next / 2 = N := ⟨_, rfl⟩
  have hE : (next : Int) / 2 = (N : Int) := by omega
  have hN : N < 9223372036854775808 := by omega
  by_cases h64 : N < 64
  · have hp := wrap_pow h64
    have hP := Nat.two_pow_pos N
    generalize 2 ^ N = P at hp hP
    have hm : (bits : Int) % (P : Int) = ((bits % P : Nat) : Int) := by simp
    have hB : bits % P < 18446744073709551616 := Nat.lt_of_le_of_lt (Nat.mod_le _ _) hb
    generalize bits % P = B at hm hB
    have hP0 : ¬ (P : Int) = 0 := by omega
    go_enter Try.func8, Try.ntmps8
    go_wp2_with fail
    clear hm hp hP0 hE hN2 hP
    have c0 : (w.alloc (Obj.cells #[.int .u64 N, .int .u64 B] 24)).cell? ⟨w.heap.size, 0, none⟩ = some (.int .u64 N) := by simp [go_sem]
    have c1 : (w.alloc (Obj.cells #[.int .u64 N, .int .u64 B] 24)).cell? ⟨w.heap.size, 1, none⟩ = some (.int .u64 B) := by simp [go_sem]
    have hB0 := (Below.refl w.heap.size w).alloc (Nat.le_refl _) (Obj.cells #[.int .u64 N, .int .u64 B] 24)
    generalize w.alloc (Obj.cells #[.int .u64 N, .int .u64 B] 24) = w0 at c0 c1 hB0 ⊢
    go_wp2_with fail
    refine (end0 hN hB _).mono ?_
    rintro e w1 ⟨rfl, hb0⟩
    have f0_w_0 : w1.cell? ⟨w.heap.size, 0, none⟩ = some (.int .u64 N) := keep hb0 c0
    have f0_w_1 : w1.cell? ⟨w.heap.size, 1, none⟩ = some (.int .u64 B) := keep hb0 c1
    have l0_w : w.heap.size < w1.heap.size := lt_of f0_w_0
    have hB1 : Below w.heap.size w w1 := below_from hB0 hB0.size hb0
    clear hb0 c0 c1 hB0
    go_wp2_with fail
    refine (end1 hN hB _).mono ?_
    rintro e w2 ⟨rfl, hb1⟩
    have f1_w_0 : w2.cell? ⟨w.heap.size, 0, none⟩ = some (.int .u64 N) := keep hb1 (keepA _ f0_w_0)
    have f1_w_1 : w2.cell? ⟨w.heap.size, 1, none⟩ = some (.int .u64 B) := keep hb1 (keepA _ f0_w_1)
    have f1_x_0 : w2.cell? ⟨w1.heap.size, 0, none⟩ = some (.int .u64 0) := keep hb1 (by simp [go_sem] : (World.alloc w1 (Obj.cells #[.int .u64 0, .int .u64 0] 24)).cell? ⟨w1.heap.size, 0, none⟩ = some (.int .u64 0))
    have f1_x_1 : w2.cell? ⟨w1.heap.size, 1, none⟩ = some (.int .u64 0) := keep hb1 (by simp [go_sem] : (World.alloc w1 (Obj.cells #[.int .u64 0, .int .u64 0] 24)).cell? ⟨w1.heap.size, 1, none⟩ = some (.int .u64 0))
    have l1_w : w.heap.size < w2.heap.size := lt_of f1_w_0
    have l1_x : w1.heap.size < w2.heap.size := lt_of f1_x_0
    have hB2 : Below w.heap.size w w2 := below_from hB1 hB1.size (below_of hb1)
    clear hb1 f0_w_0 f0_w_1 hB1 l0_w
    go_wp2_with fail
    refine (end2 _).mono ?_
    rintro e w3 ⟨rfl, hb2⟩
    have f2_w_0 : w3.cell? ⟨w.heap.size, 0, none⟩ = some (.int .u64 N) := keep hb2 (keepA _ f1_w_0)
    have f2_w_1 : w3.cell? ⟨w.heap.size, 1, none⟩ = some (.int .u64 B) := keep hb2 (keepA _ f1_w_1)
    have f2_x_0 : w3.cell? ⟨w1.heap.size, 0, none⟩ = some (.int .u64 0) := keep hb2 (keepA _ f1_x_0)
    have f2_x_1 : w3.cell? ⟨w1.heap.size, 1, none⟩ = some (.int .u64 0) := keep hb2 (keepA _ f1_x_1)
    have f2_y_0 : w3.cell? ⟨w2.heap.size, 0, none⟩ = some (.int .u64 18446744073709551615) := keep hb2 (by simp [go_sem] : (World.alloc w2 (Obj.cells #[.int .u64 18446744073709551615, .int .u64 1] 24)).cell? ⟨w2.heap.size, 0, none⟩ = some (.int .u64 18446744073709551615))
    have f2_y_1 : w3.cell? ⟨w2.heap.size, 1, none⟩ = some (.int .u64 1) := keep hb2 (by simp [go_sem] : (World.alloc w2 (Obj.cells #[.int .u64 18446744073709551615, .int .u64 1] 24)).cell? ⟨w2.heap.size, 1, none⟩ = some (.int .u64 1))
    have l2_w : w.heap.size < w3.heap.size := lt_of f2_w_0
    have l2_x : w1.heap.size < w3.heap.size := lt_of f2_x_0
    have l2_y : w2.heap.size < w3.heap.size := lt_of f2_y_0
    have hB3 : Below w.heap.size w w3 := below_from hB2 hB2.size (below_of hb2)
    clear hb2 f1_w_0 f1_w_1 f1_x_0 f1_x_1 hB2 l1_w l1_x
    go_wp2_with fail
    refine (end3 _).mono ?_
    rintro e w4 ⟨rfl, hb3⟩
    have f3_w_0 : w4.cell? ⟨w.heap.size, 0, none⟩ = some (.int .u64 N) := keep hb3 (keepA _ f2_w_0)
    have f3_w_1 : w4.cell? ⟨w.heap.size, 1, none⟩ = some (.int .u64 B) := keep hb3 (keepA _ f2_w_1)
    have f3_x_0 : w4.cell? ⟨w1.heap.size, 0, none⟩ = some (.int .u64 0) := keep hb3 (keepA _ f2_x_0)
    have f3_x_1 : w4.cell? ⟨w1.heap.size, 1, none⟩ = some (.int .u64 0) := keep hb3 (keepA _ f2_x_1)
    have f3_y_0 : w4.cell? ⟨w2.heap.size, 0, none⟩ = some (.int .u64 18446744073709551615) := keep hb3 (keepA _ f2_y_0)
    have f3_y_1 : w4.cell? ⟨w2.heap.size, 1, none⟩ = some (.int .u64 1) := keep hb3 (keepA _ f2_y_1)
    have f3_z_0 : w4.cell? ⟨w3.heap.size, 0, none⟩ = some (.int .u64 0) := keep hb3 (by simp [go_sem] : (World.alloc w3 (Obj.cells #[.int .u64 0, .int .u64 0] 24)).cell? ⟨w3.heap.size, 0, none⟩ = some (.int .u64 0))
    have f3_z_1 : w4.cell? ⟨w3.heap.size, 1, none⟩ = some (.int .u64 0) := keep hb3 (by simp [go_sem] : (World.alloc w3 (Obj.cells #[.int .u64 0, .int .u64 0] 24)).cell? ⟨w3.heap.size, 1, none⟩ = some (.int .u64 0))
    have l3_w : w.heap.size < w4.heap.size := lt_of f3_w_0
    have l3_x : w1.heap.size < w4.heap.size := lt_of f3_x_0
    have l3_y : w2.heap.size < w4.heap.size := lt_of f3_y_0
    have l3_z : w3.heap.size < w4.heap.size := lt_of f3_z_0
    have hB4 : Below w.heap.size w w4 := below_from hB3 hB3.size (below_of hb3)
    clear hb3 f2_w_0 f2_w_1 f2_x_0 f2_x_1 f2_y_0 f2_y_1 hB3 l2_w l2_x l2_y
    go_wp2_with fail
    refine (end4 _).mono ?_
    rintro e w5 ⟨rfl, hb4⟩
    have f4_w_0 : w5.cell? ⟨w.heap.size, 0, none⟩ = some (.int .u64 N) := keep hb4 (keepA _ f3_w_0)
    have f4_w_1 : w5.cell? ⟨w.heap.size, 1, none⟩ = some (.int .u64 B) := keep hb4 (keepA _ f3_w_1)
    have f4_x_0 : w5.cell? ⟨w1.heap.size, 0, none⟩ = some (.int .u64 0) := keep hb4 (keepA _ f3_x_0)
    have f4_x_1 : w5.cell? ⟨w1.heap.size, 1, none⟩ = some (.int .u64 0) := keep hb4 (keepA _ f3_x_1)
    have f4_y_0 : w5.cell? ⟨w2.heap.size, 0, none⟩ = some (.int .u64 18446744073709551615) := keep hb4 (keepA _ f3_y_0)
    have f4_y_1 : w5.cell? ⟨w2.heap.size, 1, none⟩ = some (.int .u64 1) := keep hb4 (keepA _ f3_y_1)
    have f4_z_0 : w5.cell? ⟨w3.heap.size, 0, none⟩ = some (.int .u64 0) := keep hb4 (keepA _ f3_z_0)
    have f4_z_1 : w5.cell? ⟨w3.heap.size, 1, none⟩ = some (.int .u64 0) := keep hb4 (keepA _ f3_z_1)
    have f4_u_0 : w5.cell? ⟨w4.heap.size, 0, none⟩ = some (.int .u64 0) := keep hb4 (by simp [go_sem] : (World.alloc w4 (Obj.cells #[.int .u64 0, .int .u64 0] 24)).cell? ⟨w4.heap.size, 0, none⟩ = some (.int .u64 0))
    have f4_u_1 : w5.cell? ⟨w4.heap.size, 1, none⟩ = some (.int .u64 0) := keep hb4 (by simp [go_sem] : (World.alloc w4 (Obj.cells #[.int .u64 0, .int .u64 0] 24)).cell? ⟨w4.heap.size, 1, none⟩ = some (.int .u64 0))
    have l4_w : w.heap.size < w5.heap.size := lt_of f4_w_0
    have l4_x : w1.heap.size < w5.heap.size := lt_of f4_x_0
    have l4_y : w2.heap.size < w5.heap.size := lt_of f4_y_0
    have l4_z : w3.heap.size < w5.heap.size := lt_of f4_z_0
    have l4_u : w4.heap.size < w5.heap.size := lt_of f4_u_0
    have hB5 : Below w.heap.size w w5 := below_from hB4 hB4.size (below_of hb4)
    clear hb4 f3_w_0 f3_w_1 f3_x_0 f3_x_1 f3_y_0 f3_y_1 f3_z_0 f3_z_1 hB4 l3_w l3_x l3_y l3_z
    go_wp2_with fail
    refine (end5 hN hB _).mono ?_
    rintro e w6 ⟨rfl, hb5⟩
    have f5_w_0 : w6.cell? ⟨w.heap.size, 0, none⟩ = some (.int .u64 N) := keep hb5 (keepA _ f4_w_0)
    have f5_w_1 : w6.cell? ⟨w.heap.size, 1, none⟩ = some (.int .u64 B) := keep hb5 (keepA _ f4_w_1)
    have f5_x_0 : w6.cell? ⟨w1.heap.size, 0, none⟩ = some (.int .u64 0) := keep hb5 (keepA _ f4_x_0)
    have f5_x_1 : w6.cell? ⟨w1.heap.size, 1, none⟩ = some (.int .u64 0) := keep hb5 (keepA _ f4_x_1)
    have f5_y_0 : w6.cell? ⟨w2.heap.size, 0, none⟩ = some (.int .u64 18446744073709551615) := keep hb5 (keepA _ f4_y_0)
    have f5_y_1 : w6.cell? ⟨w2.heap.size, 1, none⟩ = some (.int .u64 1) := keep hb5 (keepA _ f4_y_1)
    have f5_z_0 : w6.cell? ⟨w3.heap.size, 0, none⟩ = some (.int .u64 0) := keep hb5 (keepA _ f4_z_0)
    have f5_z_1 : w6.cell? ⟨w3.heap.size, 1, none⟩ = some (.int .u64 0) := keep hb5 (keepA _ f4_z_1)
    have f5_u_0 : w6.cell? ⟨w4.heap.size, 0, none⟩ = some (.int .u64 0) := keep hb5 (keepA _ f4_u_0)
    have f5_u_1 : w6.cell? ⟨w4.heap.size, 1, none⟩ = some (.int .u64 0) := keep hb5 (keepA _ f4_u_1)
    have f5_v_0 : w6.cell? ⟨w5.heap.size, 0, none⟩ = some (.int .u64 18446744073709551615) := keep hb5 (by simp [go_sem] : (World.alloc w5 (Obj.cells #[.int .u64 18446744073709551615, .int .u64 3] 24)).cell? ⟨w5.heap.size, 0, none⟩ = some (.int .u64 18446744073709551615))
    have f5_v_1 : w6.cell? ⟨w5.heap.size, 1, none⟩ = some (.int .u64 3) := keep hb5 (by simp [go_sem] : (World.alloc w5 (Obj.cells #[.int .u64 18446744073709551615, .int .u64 3] 24)).cell? ⟨w5.heap.size, 1, none⟩ = some (.int .u64 3))
    have l5_w : w.heap.size < w6.heap.size := lt_of f5_w_0
    have l5_x : w1.heap.size < w6.heap.size := lt_of f5_x_0
    have l5_y : w2.heap.size < w6.heap.size := lt_of f5_y_0
    have l5_z : w3.heap.size < w6.heap.size := lt_of f5_z_0
    have l5_u : w4.heap.size < w6.heap.size := lt_of f5_u_0
    have l5_v : w5.heap.size < w6.heap.size := lt_of f5_v_0
    have hB6 : Below w.heap.size w w6 := below_from hB5 hB5.size (below_of hb5)
    clear hb5 f4_w_0 f4_w_1 f4_x_0 f4_x_1 f4_y_0 f4_y_1 f4_z_0 f4_z_1 f4_u_0 f4_u_1 hB5 l4_w l4_x l4_y l4_z l4_u
    go_wp2_with fail
    refine (end6 hN hB _).mono ?_
    rintro e w7 ⟨rfl, hb6⟩
    have f6_w_0 : w7.cell? ⟨w.heap.size, 0, none⟩ = some (.int .u64 N) := keep hb6 f5_w_0
    have f6_w_1 : w7.cell? ⟨w.heap.size, 1, none⟩ = some (.int .u64 B) := keep hb6 f5_w_1
    have f6_x_0 : w7.cell? ⟨w1.heap.size, 0, none⟩ = some (.int .u64 0) := keep hb6 f5_x_0
    have f6_x_1 : w7.cell? ⟨w1.heap.size, 1, none⟩ = some (.int .u64 0) := keep hb6 f5_x_1
    have f6_y_0 : w7.cell? ⟨w2.heap.size, 0, none⟩ = some (.int .u64 18446744073709551615) := keep hb6 f5_y_0
    have f6_y_1 : w7.cell? ⟨w2.heap.size, 1, none⟩ = some (.int .u64 1) := keep hb6 f5_y_1
    have f6_z_0 : w7.cell? ⟨w3.heap.size, 0, none⟩ = some (.int .u64 0) := keep hb6 f5_z_0
    have f6_z_1 : w7.cell? ⟨w3.heap.size, 1, none⟩ = some (.int .u64 0) := keep hb6 f5_z_1
    have f6_u_0 : w7.cell? ⟨w4.heap.size, 0, none⟩ = some (.int .u64 0) := keep hb6 f5_u_0
    have f6_u_1 : w7.cell? ⟨w4.heap.size, 1, none⟩ = some (.int .u64 0) := keep hb6 f5_u_1
    have f6_v_0 : w7.cell? ⟨w5.heap.size, 0, none⟩ = some (.int .u64 18446744073709551615) := keep hb6 f5_v_0
    have f6_v_1 : w7.cell? ⟨w5.heap.size, 1, none⟩ = some (.int .u64 3) := keep hb6 f5_v_1
    have l6_w : w.heap.size < w7.heap.size := lt_of f6_w_0
    have l6_x : w1.heap.size < w7.heap.size := lt_of f6_x_0
    have l6_y : w2.heap.size < w7.heap.size := lt_of f6_y_0
    have l6_z : w3.heap.size < w7.heap.size := lt_of f6_z_0
    have l6_u : w4.heap.size < w7.heap.size := lt_of f6_u_0
    have l6_v : w5.heap.size < w7.heap.size := lt_of f6_v_0
    have hB7 : Below w.heap.size w w7 := below_from hB6 hB6.size hb6
    clear hb6 f5_w_0 f5_w_1 f5_x_0 f5_x_1 f5_y_0 f5_y_1 f5_z_0 f5_z_1 f5_u_0 f5_u_1 f5_v_0 f5_v_1 hB6 l5_w l5_x l5_y l5_z l5_u l5_v
    go_wp2_with fail
    refine (end7 hN hB _).mono ?_
    rintro e w8 ⟨rfl, hb7⟩
    have f7_w_0 : w8.cell? ⟨w.heap.size, 0, none⟩ = some (.int .u64 N) := keep hb7 f6_w_0
    have f7_w_1 : w8.cell? ⟨w.heap.size, 1, none⟩ = some (.int .u64 B) := keep hb7 f6_w_1
    have f7_x_0 : w8.cell? ⟨w1.heap.size, 0, none⟩ = some (.int .u64 0) := keep hb7 f6_x_0
    have f7_x_1 : w8.cell? ⟨w1.heap.size, 1, none⟩ = some (.int .u64 0) := keep hb7 f6_x_1
    have f7_y_0 : w8.cell? ⟨w2.heap.size, 0, none⟩ = some (.int .u64 18446744073709551615) := keep hb7 f6_y_0
    have f7_y_1 : w8.cell? ⟨w2.heap.size, 1, none⟩ = some (.int .u64 1) := keep hb7 f6_y_1
    have f7_z_0 : w8.cell? ⟨w3.heap.size, 0, none⟩ = some (.int .u64 0) := keep hb7 f6_z_0
    have f7_z_1 : w8.cell? ⟨w3.heap.size, 1, none⟩ = some (.int .u64 0) := keep hb7 f6_z_1
    have f7_u_0 : w8.cell? ⟨w4.heap.size, 0, none⟩ = some (.int .u64 0) := keep hb7 f6_u_0
    have f7_u_1 : w8.cell? ⟨w4.heap.size, 1, none⟩ = some (.int .u64 0) := keep hb7 f6_u_1
    have f7_v_0 : w8.cell? ⟨w5.heap.size, 0, none⟩ = some (.int .u64 18446744073709551615) := keep hb7 f6_v_0
    have f7_v_1 : w8.cell? ⟨w5.heap.size, 1, none⟩ = some (.int .u64 3) := keep hb7 f6_v_1
    have l7_w : w.heap.size < w8.heap.size := lt_of f7_w_0
    have l7_x : w1.heap.size < w8.heap.size := lt_of f7_x_0
    have l7_y : w2.heap.size < w8.heap.size := lt_of f7_y_0
    have l7_z : w3.heap.size < w8.heap.size := lt_of f7_z_0
    have l7_u : w4.heap.size < w8.heap.size := lt_of f7_u_0
    have l7_v : w5.heap.size < w8.heap.size := lt_of f7_v_0
    have hB8 : Below w.heap.size w w8 := below_from hB7 hB7.size hb7
    clear hb7 f6_w_0 f6_w_1 f6_x_0 f6_x_1 f6_y_0 f6_y_1 f6_z_0 f6_z_1 f6_u_0 f6_u_1 f6_v_0 f6_v_1 hB7 l6_w l6_x l6_y l6_z l6_u l6_v
    go_wp2_with fail
    refine (end8 _).mono ?_
    rintro e w9 ⟨rfl, hb8⟩
    have f8_w_0 : w9.cell? ⟨w.heap.size, 0, none⟩ = some (.int .u64 N) := keep hb8 f7_w_0
    have f8_w_1 : w9.cell? ⟨w.heap.size, 1, none⟩ = some (.int .u64 B) := keep hb8 f7_w_1
    have f8_x_0 : w9.cell? ⟨w1.heap.size, 0, none⟩ = some (.int .u64 0) := keep hb8 f7_x_0
    have f8_x_1 : w9.cell? ⟨w1.heap.size, 1, none⟩ = some (.int .u64 0) := keep hb8 f7_x_1
    have f8_y_0 : w9.cell? ⟨w2.heap.size, 0, none⟩ = some (.int .u64 18446744073709551615) := keep hb8 f7_y_0
    have f8_y_1 : w9.cell? ⟨w2.heap.size, 1, none⟩ = some (.int .u64 1) := keep hb8 f7_y_1
    have f8_z_0 : w9.cell? ⟨w3.heap.size, 0, none⟩ = some (.int .u64 0) := keep hb8 f7_z_0
    have f8_z_1 : w9.cell? ⟨w3.heap.size, 1, none⟩ = some (.int .u64 0) := keep hb8 f7_z_1
    have f8_u_0 : w9.cell? ⟨w4.heap.size, 0, none⟩ = some (.int .u64 0) := keep hb8 f7_u_0
    have f8_u_1 : w9.cell? ⟨w4.heap.size, 1, none⟩ = some (.int .u64 0) := keep hb8 f7_u_1
    have f8_v_0 : w9.cell? ⟨w5.heap.size, 0, none⟩ = some (.int .u64 18446744073709551615) := keep hb8 f7_v_0
    have f8_v_1 : w9.cell? ⟨w5.heap.size, 1, none⟩ = some (.int .u64 3) := keep hb8 f7_v_1
    have l8_w : w.heap.size < w9.heap.size := lt_of f8_w_0
    have l8_x : w1.heap.size < w9.heap.size := lt_of f8_x_0
    have l8_y : w2.heap.size < w9.heap.size := lt_of f8_y_0
    have l8_z : w3.heap.size < w9.heap.size := lt_of f8_z_0
    have l8_u : w4.heap.size < w9.heap.size := lt_of f8_u_0
    have l8_v : w5.heap.size < w9.heap.size := lt_of f8_v_0
    have hB9 : Below w.heap.size w w9 := below_from hB8 hB8.size hb8
    clear hb8 f7_w_0 f7_w_1 f7_x_0 f7_x_1 f7_y_0 f7_y_1 f7_z_0 f7_z_1 f7_u_0 f7_u_1 f7_v_0 f7_v_1 hB8 l7_w l7_x l7_y l7_z l7_u l7_v
    go_wp2_with fail
    refine (end9 _).mono ?_
    rintro e w10 ⟨rfl, hb9⟩
    have f9_w_0 : w10.cell? ⟨w.heap.size, 0, none⟩ = some (.int .u64 N) := keep hb9 f8_w_0
    have f9_w_1 : w10.cell? ⟨w.heap.size, 1, none⟩ = some (.int .u64 B) := keep hb9 f8_w_1
    have f9_x_0 : w10.cell? ⟨w1.heap.size, 0, none⟩ = some (.int .u64 0) := keep hb9 f8_x_0
    have f9_x_1 : w10.cell? ⟨w1.heap.size, 1, none⟩ = some (.int .u64 0) := keep hb9 f8_x_1
    have f9_y_0 : w10.cell? ⟨w2.heap.size, 0, none⟩ = some (.int .u64 18446744073709551615) := keep hb9 f8_y_0
    have f9_y_1 : w10.cell? ⟨w2.heap.size, 1, none⟩ = some (.int .u64 1) := keep hb9 f8_y_1
    have f9_z_0 : w10.cell? ⟨w3.heap.size, 0, none⟩ = some (.int .u64 0) := keep hb9 f8_z_0
    have f9_z_1 : w10.cell? ⟨w3.heap.size, 1, none⟩ = some (.int .u64 0) := keep hb9 f8_z_1
    have f9_u_0 : w10.cell? ⟨w4.heap.size, 0, none⟩ = some (.int .u64 0) := keep hb9 f8_u_0
    have f9_u_1 : w10.cell? ⟨w4.heap.size, 1, none⟩ = some (.int .u64 0) := keep hb9 f8_u_1
    have f9_v_0 : w10.cell? ⟨w5.heap.size, 0, none⟩ = some (.int .u64 18446744073709551615) := keep hb9 f8_v_0
    have f9_v_1 : w10.cell? ⟨w5.heap.size, 1, none⟩ = some (.int .u64 3) := keep hb9 f8_v_1
    have l9_w : w.heap.size < w10.heap.size := lt_of f9_w_0
    have l9_x : w1.heap.size < w10.heap.size := lt_of f9_x_0
    have l9_y : w2.heap.size < w10.heap.size := lt_of f9_y_0
    have l9_z : w3.heap.size < w10.heap.size := lt_of f9_z_0
    have l9_u : w4.heap.size < w10.heap.size := lt_of f9_u_0
    have l9_v : w5.heap.size < w10.heap.size := lt_of f9_v_0
    have hB10 : Below w.heap.size w w10 := below_from hB9 hB9.size hb9
    clear hb9 f8_w_0 f8_w_1 f8_x_0 f8_x_1 f8_y_0 f8_y_1 f8_z_0 f8_z_1 f8_u_0 f8_u_1 f8_v_0 f8_v_1 hB9 l8_w l8_x l8_y l8_z l8_u l8_v
    go_wp2_with fail
    refine (end10 _).mono ?_
    rintro e w11 ⟨rfl, hb10⟩
    have f10_w_0 : w11.cell? ⟨w.heap.size, 0, none⟩ = some (.int .u64 N) := keep hb10 f9_w_0
    have f10_w_1 : w11.cell? ⟨w.heap.size, 1, none⟩ = some (.int .u64 B) := keep hb10 f9_w_1
    have f10_x_0 : w11.cell? ⟨w1.heap.size, 0, none⟩ = some (.int .u64 0) := keep hb10 f9_x_0
    have f10_x_1 : w11.cell? ⟨w1.heap.size, 1, none⟩ = some (.int .u64 0) := keep hb10 f9_x_1
    have f10_y_0 : w11.cell? ⟨w2.heap.size, 0, none⟩ = some (.int .u64 18446744073709551615) := keep hb10 f9_y_0
    have f10_y_1 : w11.cell? ⟨w2.heap.size, 1, none⟩ = some (.int .u64 1) := keep hb10 f9_y_1
    have f10_z_0 : w11.cell? ⟨w3.heap.size, 0, none⟩ = some (.int .u64 0) := keep hb10 f9_z_0
    have f10_z_1 : w11.cell? ⟨w3.heap.size, 1, none⟩ = some (.int .u64 0) := keep hb10 f9_z_1
    have f10_u_0 : w11.cell? ⟨w4.heap.size, 0, none⟩ = some (.int .u64 0) := keep hb10 f9_u_0
    have f10_u_1 : w11.cell? ⟨w4.heap.size, 1, none⟩ = some (.int .u64 0) := keep hb10 f9_u_1
    have f10_v_0 : w11.cell? ⟨w5.heap.size, 0, none⟩ = some (.int .u64 18446744073709551615) := keep hb10 f9_v_0
    have f10_v_1 : w11.cell? ⟨w5.heap.size, 1, none⟩ = some (.int .u64 3) := keep hb10 f9_v_1
    have l10_w : w.heap.size < w11.heap.size := lt_of f10_w_0
    have l10_x : w1.heap.size < w11.heap.size := lt_of f10_x_0
    have l10_y : w2.heap.size < w11.heap.size := lt_of f10_y_0
    have l10_z : w3.heap.size < w11.heap.size := lt_of f10_z_0
    have l10_u : w4.heap.size < w11.heap.size := lt_of f10_u_0
    have l10_v : w5.heap.size < w11.heap.size := lt_of f10_v_0
    have hB11 : Below w.heap.size w w11 := below_from hB10 hB10.size hb10
    clear hb10 f9_w_0 f9_w_1 f9_x_0 f9_x_1 f9_y_0 f9_y_1 f9_z_0 f9_z_1 f9_u_0 f9_u_1 f9_v_0 f9_v_1 hB10 l9_w l9_x l9_y l9_z l9_u l9_v
    go_wp2_with fail
    refine (end11 _).mono ?_
    rintro e w12 ⟨rfl, hb11⟩
    have f11_w_0 : w12.cell? ⟨w.heap.size, 0, none⟩ = some (.int .u64 N) := keep hb11 f10_w_0
    have f11_w_1 : w12.cell? ⟨w.heap.size, 1, none⟩ = some (.int .u64 B) := keep hb11 f10_w_1
    have f11_x_0 : w12.cell? ⟨w1.heap.size, 0, none⟩ = some (.int .u64 0) := keep hb11 f10_x_0
    have f11_x_1 : w12.cell? ⟨w1.heap.size, 1, none⟩ = some (.int .u64 0) := keep hb11 f10_x_1
    have f11_y_0 : w12.cell? ⟨w2.heap.size, 0, none⟩ = some (.int .u64 18446744073709551615) := keep hb11 f10_y_0
    have f11_y_1 : w12.cell? ⟨w2.heap.size, 1, none⟩ = some (.int .u64 1) := keep hb11 f10_y_1
    have f11_z_0 : w12.cell? ⟨w3.heap.size, 0, none⟩ = some (.int .u64 0) := keep hb11 f10_z_0
    have f11_z_1 : w12.cell? ⟨w3.heap.size, 1, none⟩ = some (.int .u64 0) := keep hb11 f10_z_1
    have f11_u_0 : w12.cell? ⟨w4.heap.size, 0, none⟩ = some (.int .u64 0) := keep hb11 f10_u_0
    have f11_u_1 : w12.cell? ⟨w4.heap.size, 1, none⟩ = some (.int .u64 0) := keep hb11 f10_u_1
    have f11_v_0 : w12.cell? ⟨w5.heap.size, 0, none⟩ = some (.int .u64 18446744073709551615) := keep hb11 f10_v_0
    have f11_v_1 : w12.cell? ⟨w5.heap.size, 1, none⟩ = some (.int .u64 3) := keep hb11 f10_v_1
    have l11_w : w.heap.size < w12.heap.size := lt_of f11_w_0
    have l11_x : w1.heap.size < w12.heap.size := lt_of f11_x_0
    have l11_y : w2.heap.size < w12.heap.size := lt_of f11_y_0
    have l11_z : w3.heap.size < w12.heap.size := lt_of f11_z_0
    have l11_u : w4.heap.size < w12.heap.size := lt_of f11_u_0
    have l11_v : w5.heap.size < w12.heap.size := lt_of f11_v_0
    have hB12 : Below w.heap.size w w12 := below_from hB11 hB11.size hb11
    clear hb11 f10_w_0 f10_w_1 f10_x_0 f10_x_1 f10_y_0 f10_y_1 f10_z_0 f10_z_1 f10_u_0 f10_u_1 f10_v_0 f10_v_1 hB11 l10_w l10_x l10_y l10_z l10_u l10_v
    go_wp2_with fail
    refine (fixed_any _).mono ?_
    rintro e w13 ⟨rfl, hb12⟩
    have f12_w_0 : w13.cell? ⟨w.heap.size, 0, none⟩ = some (.int .u64 N) := keep hb12 f11_w_0
    have f12_w_1 : w13.cell? ⟨w.heap.size, 1, none⟩ = some (.int .u64 B) := keep hb12 f11_w_1
    have f12_x_0 : w13.cell? ⟨w1.heap.size, 0, none⟩ = some (.int .u64 0) := keep hb12 f11_x_0
    have f12_x_1 : w13.cell? ⟨w1.heap.size, 1, none⟩ = some (.int .u64 0) := keep hb12 f11_x_1
    have f12_y_0 : w13.cell? ⟨w2.heap.size, 0, none⟩ = some (.int .u64 18446744073709551615) := keep hb12 f11_y_0
    have f12_y_1 : w13.cell? ⟨w2.heap.size, 1, none⟩ = some (.int .u64 1) := keep hb12 f11_y_1
    have f12_z_0 : w13.cell? ⟨w3.heap.size, 0, none⟩ = some (.int .u64 0) := keep hb12 f11_z_0
    have f12_z_1 : w13.cell? ⟨w3.heap.size, 1, none⟩ = some (.int .u64 0) := keep hb12 f11_z_1
    have f12_u_0 : w13.cell? ⟨w4.heap.size, 0, none⟩ = some (.int .u64 0) := keep hb12 f11_u_0
    have f12_u_1 : w13.cell? ⟨w4.heap.size, 1, none⟩ = some (.int .u64 0) := keep hb12 f11_u_1
    have f12_v_0 : w13.cell? ⟨w5.heap.size, 0, none⟩ = some (.int .u64 18446744073709551615) := keep hb12 f11_v_0
    have f12_v_1 : w13.cell? ⟨w5.heap.size, 1, none⟩ = some (.int .u64 3) := keep hb12 f11_v_1
    have l12_w : w.heap.size < w13.heap.size := lt_of f12_w_0
    have l12_x : w1.heap.size < w13.heap.size := lt_of f12_x_0
    have l12_y : w2.heap.size < w13.heap.size := lt_of f12_y_0
    have l12_z : w3.heap.size < w13.heap.size := lt_of f12_z_0
    have l12_u : w4.heap.size < w13.heap.size := lt_of f12_u_0
    have l12_v : w5.heap.size < w13.heap.size := lt_of f12_v_0
    have hB13 : Below w.heap.size w w13 := below_from hB12 hB12.size hb12
    clear hb12 f11_w_0 f11_w_1 f11_x_0 f11_x_1 f11_y_0 f11_y_1 f11_z_0 f11_z_1 f11_u_0 f11_u_1 f11_v_0 f11_v_1 hB12 l11_w l11_x l11_y l11_z l11_u l11_v
    go_wp2
    go_ret
    exact ⟨rfl, by assumption⟩
  · generalize bits = B at hb
    have hB := hb
    have h64' : ¬ (N : Int) < 64 := by omega
    go_enter Try.func8, Try.ntmps8
    go_wp2_with fail
    clear hE hN2
    have c0 : (w.alloc (Obj.cells #[.int .u64 N, .int .u64 B] 24)).cell? ⟨w.heap.size, 0, none⟩ = some (.int .u64 N) := by simp [go_sem]
    have c1 : (w.alloc (Obj.cells #[.int .u64 N, .int .u64 B] 24)).cell? ⟨w.heap.size, 1, none⟩ = some (.int .u64 B) := by simp [go_sem]
    have hB0 := (Below.refl w.heap.size w).alloc (Nat.le_refl _) (Obj.cells #[.int .u64 N, .int .u64 B] 24)
    generalize w.alloc (Obj.cells #[.int .u64 N, .int .u64 B] 24) = w0 at c0 c1 hB0 ⊢
    go_wp2_with fail
    refine (end0 hN hB _).mono ?_
    rintro e w1 ⟨rfl, hb0⟩
    have f0_w_0 : w1.cell? ⟨w.heap.size, 0, none⟩ = some (.int .u64 N) := keep hb0 c0
    have f0_w_1 : w1.cell? ⟨w.heap.size, 1, none⟩ = some (.int .u64 B) := keep hb0 c1
    have l0_w : w.heap.size < w1.heap.size := lt_of f0_w_0
    have hB1 : Below w.heap.size w w1 := below_from hB0 hB0.size hb0
    clear hb0 c0 c1 hB0
    go_wp2_with fail
    refine (end1 hN hB _).mono ?_
    rintro e w2 ⟨rfl, hb1⟩
    have f1_w_0 : w2.cell? ⟨w.heap.size, 0, none⟩ = some (.int .u64 N) := keep hb1 (keepA _ f0_w_0)
    have f1_w_1 : w2.cell? ⟨w.heap.size, 1, none⟩ = some (.int .u64 B) := keep hb1 (keepA _ f0_w_1)
    have f1_x_0 : w2.cell? ⟨w1.heap.size, 0, none⟩ = some (.int .u64 0) := keep hb1 (by simp [go_sem] : (World.alloc w1 (Obj.cells #[.int .u64 0, .int .u64 0] 24)).cell? ⟨w1.heap.size, 0, none⟩ = some (.int .u64 0))
    have f1_x_1 : w2.cell? ⟨w1.heap.size, 1, none⟩ = some (.int .u64 0) := keep hb1 (by simp [go_sem] : (World.alloc w1 (Obj.cells #[.int .u64 0, .int .u64 0] 24)).cell? ⟨w1.heap.size, 1, none⟩ = some (.int .u64 0))
    have l1_w : w.heap.size < w2.heap.size := lt_of f1_w_0
    have l1_x : w1.heap.size < w2.heap.size := lt_of f1_x_0
    have hB2 : Below w.heap.size w w2 := below_from hB1 hB1.size (below_of hb1)
    clear hb1 f0_w_0 f0_w_1 hB1 l0_w
    go_wp2_with fail
    refine (end2 _).mono ?_
    rintro e w3 ⟨rfl, hb2⟩
    have f2_w_0 : w3.cell? ⟨w.heap.size, 0, none⟩ = some (.int .u64 N) := keep hb2 (keepA _ f1_w_0)
    have f2_w_1 : w3.cell? ⟨w.heap.size, 1, none⟩ = some (.int .u64 B) := keep hb2 (keepA _ f1_w_1)
    have f2_x_0 : w3.cell? ⟨w1.heap.size, 0, none⟩ = some (.int .u64 0) := keep hb2 (keepA _ f1_x_0)
    have f2_x_1 : w3.cell? ⟨w1.heap.size, 1, none⟩ = some (.int .u64 0) := keep hb2 (keepA _ f1_x_1)
    have f2_y_0 : w3.cell? ⟨w2.heap.size, 0, none⟩ = some (.int .u64 18446744073709551615) := keep hb2 (by simp [go_sem] : (World.alloc w2 (Obj.cells #[.int .u64 18446744073709551615, .int .u64 1] 24)).cell? ⟨w2.heap.size, 0, none⟩ = some (.int .u64 18446744073709551615))
    have f2_y_1 : w3.cell? ⟨w2.heap.size, 1, none⟩ = some (.int .u64 1) := keep hb2 (by simp [go_sem] : (World.alloc w2 (Obj.cells #[.int .u64 18446744073709551615, .int .u64 1] 24)).cell? ⟨w2.heap.size, 1, none⟩ = some (.int .u64 1))
    have l2_w : w.heap.size < w3.heap.size := lt_of f2_w_0
    have l2_x : w1.heap.size < w3.heap.size := lt_of f2_x_0
    have l2_y : w2.heap.size < w3.heap.size := lt_of f2_y_0
    have hB3 : Below w.heap.size w w3 := below_from hB2 hB2.size (below_of hb2)
    clear hb2 f1_w_0 f1_w_1 f1_x_0 f1_x_1 hB2 l1_w l1_x
    go_wp2_with fail
    refine (end3 _).mono ?_
    rintro e w4 ⟨rfl, hb3⟩
    have f3_w_0 : w4.cell? ⟨w.heap.size, 0, none⟩ = some (.int .u64 N) := keep hb3 (keepA _ f2_w_0)
    have f3_w_1 : w4.cell? ⟨w.heap.size, 1, none⟩ = some (.int .u64 B) := keep hb3 (keepA _ f2_w_1)
    have f3_x_0 : w4.cell? ⟨w1.heap.size, 0, none⟩ = some (.int .u64 0) := keep hb3 (keepA _ f2_x_0)
    have f3_x_1 : w4.cell? ⟨w1.heap.size, 1, none⟩ = some (.int .u64 0) := keep hb3 (keepA _ f2_x_1)
    have f3_y_0 : w4.cell? ⟨w2.heap.size, 0, none⟩ = some (.int .u64 18446744073709551615) := keep hb3 (keepA _ f2_y_0)
    have f3_y_1 : w4.cell? ⟨w2.heap.size, 1, none⟩ = some (.int .u64 1) := keep hb3 (keepA _ f2_y_1)
    have f3_z_0 : w4.cell? ⟨w3.heap.size, 0, none⟩ = some (.int .u64 0) := keep hb3 (by simp [go_sem] : (World.alloc w3 (Obj.cells #[.int .u64 0, .int .u64 0] 24)).cell? ⟨w3.heap.size, 0, none⟩ = some (.int .u64 0))
    have f3_z_1 : w4.cell? ⟨w3.heap.size, 1, none⟩ = some (.int .u64 0) := keep hb3 (by simp [go_sem] : (World.alloc w3 (Obj.cells #[.int .u64 0, .int .u64 0] 24)).cell? ⟨w3.heap.size, 1, none⟩ = some (.int .u64 0))
    have l3_w : w.heap.size < w4.heap.size := lt_of f3_w_0
    have l3_x : w1.heap.size < w4.heap.size := lt_of f3_x_0
    have l3_y : w2.heap.size < w4.heap.size := lt_of f3_y_0
    have l3_z : w3.heap.size < w4.heap.size := lt_of f3_z_0
    have hB4 : Below w.heap.size w w4 := below_from hB3 hB3.size (below_of hb3)
    clear hb3 f2_w_0 f2_w_1 f2_x_0 f2_x_1 f2_y_0 f2_y_1 hB3 l2_w l2_x l2_y
    go_wp2_with fail
    refine (end4 _).mono ?_
    rintro e w5 ⟨rfl, hb4⟩
    have f4_w_0 : w5.cell? ⟨w.heap.size, 0, none⟩ = some (.int .u64 N) := keep hb4 (keepA _ f3_w_0)
    have f4_w_1 : w5.cell? ⟨w.heap.size, 1, none⟩ = some (.int .u64 B) := keep hb4 (keepA _ f3_w_1)
    have f4_x_0 : w5.cell? ⟨w1.heap.size, 0, none⟩ = some (.int .u64 0) := keep hb4 (keepA _ f3_x_0)
    have f4_x_1 : w5.cell? ⟨w1.heap.size, 1, none⟩ = some (.int .u64 0) := keep hb4 (keepA _ f3_x_1)
    have f4_y_0 : w5.cell? ⟨w2.heap.size, 0, none⟩ = some (.int .u64 18446744073709551615) := keep hb4 (keepA _ f3_y_0)
    have f4_y_1 : w5.cell? ⟨w2.heap.size, 1, none⟩ = some (.int .u64 1) := keep hb4 (keepA _ f3_y_1)
    have f4_z_0 : w5.cell? ⟨w3.heap.size, 0, none⟩ = some (.int .u64 0) := keep hb4 (keepA _ f3_z_0)
    have f4_z_1 : w5.cell? ⟨w3.heap.size, 1, none⟩ = some (.int .u64 0) := keep hb4 (keepA _ f3_z_1)
    have f4_u_0 : w5.cell? ⟨w4.heap.size, 0, none⟩ = some (.int .u64 0) := keep hb4 (by simp [go_sem] : (World.alloc w4 (Obj.cells #[.int .u64 0, .int .u64 0] 24)).cell? ⟨w4.heap.size, 0, none⟩ = some (.int .u64 0))
    have f4_u_1 : w5.cell? ⟨w4.heap.size, 1, none⟩ = some (.int .u64 0) := keep hb4 (by simp [go_sem] : (World.alloc w4 (Obj.cells #[.int .u64 0, .int .u64 0] 24)).cell? ⟨w4.heap.size, 1, none⟩ = some (.int .u64 0))
    have l4_w : w.heap.size < w5.heap.size := lt_of f4_w_0
    have l4_x : w1.heap.size < w5.heap.size := lt_of f4_x_0
    have l4_y : w2.heap.size < w5.heap.size := lt_of f4_y_0
    have l4_z : w3.heap.size < w5.heap.size := lt_of f4_z_0
    have l4_u : w4.heap.size < w5.heap.size := lt_of f4_u_0
    have hB5 : Below w.heap.size w w5 := below_from hB4 hB4.size (below_of hb4)
    clear hb4 f3_w_0 f3_w_1 f3_x_0 f3_x_1 f3_y_0 f3_y_1 f3_z_0 f3_z_1 hB4 l3_w l3_x l3_y l3_z
    go_wp2_with fail
    refine (end5 hN hB _).mono ?_
    rintro e w6 ⟨rfl, hb5⟩
    have f5_w_0 : w6.cell? ⟨w.heap.size, 0, none⟩ = some (.int .u64 N) := keep hb5 (keepA _ f4_w_0)
    have f5_w_1 : w6.cell? ⟨w.heap.size, 1, none⟩ = some (.int .u64 B) := keep hb5 (keepA _ f4_w_1)
    have f5_x_0 : w6.cell? ⟨w1.heap.size, 0, none⟩ = some (.int .u64 0) := keep hb5 (keepA _ f4_x_0)
    have f5_x_1 : w6.cell? ⟨w1.heap.size, 1, none⟩ = some (.int .u64 0) := keep hb5 (keepA _ f4_x_1)
    have f5_y_0 : w6.cell? ⟨w2.heap.size, 0, none⟩ = some (.int .u64 18446744073709551615) := keep hb5 (keepA _ f4_y_0)
    have f5_y_1 : w6.cell? ⟨w2.heap.size, 1, none⟩ = some (.int .u64 1) := keep hb5 (keepA _ f4_y_1)
    have f5_z_0 : w6.cell? ⟨w3.heap.size, 0, none⟩ = some (.int .u64 0) := keep hb5 (keepA _ f4_z_0)
    have f5_z_1 : w6.cell? ⟨w3.heap.size, 1, none⟩ = some (.int .u64 0) := keep hb5 (keepA _ f4_z_1)
    have f5_u_0 : w6.cell? ⟨w4.heap.size, 0, none⟩ = some (.int .u64 0) := keep hb5 (keepA _ f4_u_0)
    have f5_u_1 : w6.cell? ⟨w4.heap.size, 1, none⟩ = some (.int .u64 0) := keep hb5 (keepA _ f4_u_1)
    have f5_v_0 : w6.cell? ⟨w5.heap.size, 0, none⟩ = some (.int .u64 18446744073709551615) := keep hb5 (by simp [go_sem] : (World.alloc w5 (Obj.cells #[.int .u64 18446744073709551615, .int .u64 3] 24)).cell? ⟨w5.heap.size, 0, none⟩ = some (.int .u64 18446744073709551615))
    have f5_v_1 : w6.cell? ⟨w5.heap.size, 1, none⟩ = some (.int .u64 3) := keep hb5 (by simp [go_sem] : (World.alloc w5 (Obj.cells #[.int .u64 18446744073709551615, .int .u64 3] 24)).cell? ⟨w5.heap.size, 1, none⟩ = some (.int .u64 3))
    have l5_w : w.heap.size < w6.heap.size := lt_of f5_w_0
    have l5_x : w1.heap.size < w6.heap.size := lt_of f5_x_0
    have l5_y : w2.heap.size < w6.heap.size := lt_of f5_y_0
    have l5_z : w3.heap.size < w6.heap.size := lt_of f5_z_0
    have l5_u : w4.heap.size < w6.heap.size := lt_of f5_u_0
    have l5_v : w5.heap.size < w6.heap.size := lt_of f5_v_0
    have hB6 : Below w.heap.size w w6 := below_from hB5 hB5.size (below_of hb5)
    clear hb5 f4_w_0 f4_w_1 f4_x_0 f4_x_1 f4_y_0 f4_y_1 f4_z_0 f4_z_1 f4_u_0 f4_u_1 hB5 l4_w l4_x l4_y l4_z l4_u
    go_wp2_with fail
    refine (end6 hN hB _).mono ?_
    rintro e w7 ⟨rfl, hb6⟩
    have f6_w_0 : w7.cell? ⟨w.heap.size, 0, none⟩ = some (.int .u64 N) := keep hb6 f5_w_0
    have f6_w_1 : w7.cell? ⟨w.heap.size, 1, none⟩ = some (.int .u64 B) := keep hb6 f5_w_1
    have f6_x_0 : w7.cell? ⟨w1.heap.size, 0, none⟩ = some (.int .u64 0) := keep hb6 f5_x_0
    have f6_x_1 : w7.cell? ⟨w1.heap.size, 1, none⟩ = some (.int .u64 0) := keep hb6 f5_x_1
    have f6_y_0 : w7.cell? ⟨w2.heap.size, 0, none⟩ = some (.int .u64 18446744073709551615) := keep hb6 f5_y_0
    have f6_y_1 : w7.cell? ⟨w2.heap.size, 1, none⟩ = some (.int .u64 1) := keep hb6 f5_y_1
    have f6_z_0 : w7.cell? ⟨w3.heap.size, 0, none⟩ = some (.int .u64 0) := keep hb6 f5_z_0
    have f6_z_1 : w7.cell? ⟨w3.heap.size, 1, none⟩ = some (.int .u64 0) := keep hb6 f5_z_1
    have f6_u_0 : w7.cell? ⟨w4.heap.size, 0, none⟩ = some (.int .u64 0) := keep hb6 f5_u_0
    have f6_u_1 : w7.cell? ⟨w4.heap.size, 1, none⟩ = some (.int .u64 0) := keep hb6 f5_u_1
    have f6_v_0 : w7.cell? ⟨w5.heap.size, 0, none⟩ = some (.int .u64 18446744073709551615) := keep hb6 f5_v_0
    have f6_v_1 : w7.cell? ⟨w5.heap.size, 1, none⟩ = some (.int .u64 3) := keep hb6 f5_v_1
    have l6_w : w.heap.size < w7.heap.size := lt_of f6_w_0
    have l6_x : w1.heap.size < w7.heap.size := lt_of f6_x_0
    have l6_y : w2.heap.size < w7.heap.size := lt_of f6_y_0
    have l6_z : w3.heap.size < w7.heap.size := lt_of f6_z_0
    have l6_u : w4.heap.size < w7.heap.size := lt_of f6_u_0
    have l6_v : w5.heap.size < w7.heap.size := lt_of f6_v_0
    have hB7 : Below w.heap.size w w7 := below_from hB6 hB6.size hb6
    clear hb6 f5_w_0 f5_w_1 f5_x_0 f5_x_1 f5_y_0 f5_y_1 f5_z_0 f5_z_1 f5_u_0 f5_u_1 f5_v_0 f5_v_1 hB6 l5_w l5_x l5_y l5_z l5_u l5_v
    go_wp2_with fail
    refine (end7 hN hB _).mono ?_
    rintro e w8 ⟨rfl, hb7⟩
    have f7_w_0 : w8.cell? ⟨w.heap.size, 0, none⟩ = some (.int .u64 N) := keep hb7 f6_w_0
    have f7_w_1 : w8.cell? ⟨w.heap.size, 1, none⟩ = some (.int .u64 B) := keep hb7 f6_w_1
    have f7_x_0 : w8.cell? ⟨w1.heap.size, 0, none⟩ = some (.int .u64 0) := keep hb7 f6_x_0
    have f7_x_1 : w8.cell? ⟨w1.heap.size, 1, none⟩ = some (.int .u64 0) := keep hb7 f6_x_1
    have f7_y_0 : w8.cell? ⟨w2.heap.size, 0, none⟩ = some (.int .u64 18446744073709551615) := keep hb7 f6_y_0
    have f7_y_1 : w8.cell? ⟨w2.heap.size, 1, none⟩ = some (.int .u64 1) := keep hb7 f6_y_1
    have f7_z_0 : w8.cell? ⟨w3.heap.size, 0, none⟩ = some (.int .u64 0) := keep hb7 f6_z_0
    have f7_z_1 : w8.cell? ⟨w3.heap.size, 1, none⟩ = some (.int .u64 0) := keep hb7 f6_z_1
    have f7_u_0 : w8.cell? ⟨w4.heap.size, 0, none⟩ = some (.int .u64 0) := keep hb7 f6_u_0
    have f7_u_1 : w8.cell? ⟨w4.heap.size, 1, none⟩ = some (.int .u64 0) := keep hb7 f6_u_1
    have f7_v_0 : w8.cell? ⟨w5.heap.size, 0, none⟩ = some (.int .u64 18446744073709551615) := keep hb7 f6_v_0
    have f7_v_1 : w8.cell? ⟨w5.heap.size, 1, none⟩ = some (.int .u64 3) := keep hb7 f6_v_1
    have l7_w : w.heap.size < w8.heap.size := lt_of f7_w_0
    have l7_x : w1.heap.size < w8.heap.size := lt_of f7_x_0
    have l7_y : w2.heap.size < w8.heap.size := lt_of f7_y_0
    have l7_z : w3.heap.size < w8.heap.size := lt_of f7_z_0
    have l7_u : w4.heap.size < w8.heap.size := lt_of f7_u_0
    have l7_v : w5.heap.size < w8.heap.size := lt_of f7_v_0
    have hB8 : Below w.heap.size w w8 := below_from hB7 hB7.size hb7
    clear hb7 f6_w_0 f6_w_1 f6_x_0 f6_x_1 f6_y_0 f6_y_1 f6_z_0 f6_z_1 f6_u_0 f6_u_1 f6_v_0 f6_v_1 hB7 l6_w l6_x l6_y l6_z l6_u l6_v
    go_wp2_with fail
    refine (end8 _).mono ?_
    rintro e w9 ⟨rfl, hb8⟩
    have f8_w_0 : w9.cell? ⟨w.heap.size, 0, none⟩ = some (.int .u64 N) := keep hb8 f7_w_0
    have f8_w_1 : w9.cell? ⟨w.heap.size, 1, none⟩ = some (.int .u64 B) := keep hb8 f7_w_1
    have f8_x_0 : w9.cell? ⟨w1.heap.size, 0, none⟩ = some (.int .u64 0) := keep hb8 f7_x_0
    have f8_x_1 : w9.cell? ⟨w1.heap.size, 1, none⟩ = some (.int .u64 0) := keep hb8 f7_x_1
    have f8_y_0 : w9.cell? ⟨w2.heap.size, 0, none⟩ = some (.int .u64 18446744073709551615) := keep hb8 f7_y_0
    have f8_y_1 : w9.cell? ⟨w2.heap.size, 1, none⟩ = some (.int .u64 1) := keep hb8 f7_y_1
    have f8_z_0 : w9.cell? ⟨w3.heap.size, 0, none⟩ = some (.int .u64 0) := keep hb8 f7_z_0
    have f8_z_1 : w9.cell? ⟨w3.heap.size, 1, none⟩ = some (.int .u64 0) := keep hb8 f7_z_1
    have f8_u_0 : w9.cell? ⟨w4.heap.size, 0, none⟩ = some (.int .u64 0) := keep hb8 f7_u_0
    have f8_u_1 : w9.cell? ⟨w4.heap.size, 1, none⟩ = some (.int .u64 0) := keep hb8 f7_u_1
    have f8_v_0 : w9.cell? ⟨w5.heap.size, 0, none⟩ = some (.int .u64 18446744073709551615) := keep hb8 f7_v_0
    have f8_v_1 : w9.cell? ⟨w5.heap.size, 1, none⟩ = some (.int .u64 3) := keep hb8 f7_v_1
    have l8_w : w.heap.size < w9.heap.size := lt_of f8_w_0
    have l8_x : w1.heap.size < w9.heap.size := lt_of f8_x_0
    have l8_y : w2.heap.size < w9.heap.size := lt_of f8_y_0
    have l8_z : w3.heap.size < w9.heap.size := lt_of f8_z_0
    have l8_u : w4.heap.size < w9.heap.size := lt_of f8_u_0
    have l8_v : w5.heap.size < w9.heap.size := lt_of f8_v_0
    have hB9 : Below w.heap.size w w9 := below_from hB8 hB8.size hb8
    clear hb8 f7_w_0 f7_w_1 f7_x_0 f7_x_1 f7_y_0 f7_y_1 f7_z_0 f7_z_1 f7_u_0 f7_u_1 f7_v_0 f7_v_1 hB8 l7_w l7_x l7_y l7_z l7_u l7_v
    go_wp2_with fail
    refine (end9 _).mono ?_
    rintro e w10 ⟨rfl, hb9⟩
    have f9_w_0 : w10.cell? ⟨w.heap.size, 0, none⟩ = some (.int .u64 N) := keep hb9 f8_w_0
    have f9_w_1 : w10.cell? ⟨w.heap.size, 1, none⟩ = some (.int .u64 B) := keep hb9 f8_w_1
    have f9_x_0 : w10.cell? ⟨w1.heap.size, 0, none⟩ = some (.int .u64 0) := keep hb9 f8_x_0
    have f9_x_1 : w10.cell? ⟨w1.heap.size, 1, none⟩ = some (.int .u64 0) := keep hb9 f8_x_1
    have f9_y_0 : w10.cell? ⟨w2.heap.size, 0, none⟩ = some (.int .u64 18446744073709551615) := keep hb9 f8_y_0
    have f9_y_1 : w10.cell? ⟨w2.heap.size, 1, none⟩ = some (.int .u64 1) := keep hb9 f8_y_1
    have f9_z_0 : w10.cell? ⟨w3.heap.size, 0, none⟩ = some (.int .u64 0) := keep hb9 f8_z_0
    have f9_z_1 : w10.cell? ⟨w3.heap.size, 1, none⟩ = some (.int .u64 0) := keep hb9 f8_z_1
    have f9_u_0 : w10.cell? ⟨w4.heap.size, 0, none⟩ = some (.int .u64 0) := keep hb9 f8_u_0
    have f9_u_1 : w10.cell? ⟨w4.heap.size, 1, none⟩ = some (.int .u64 0) := keep hb9 f8_u_1
    have f9_v_0 : w10.cell? ⟨w5.heap.size, 0, none⟩ = some (.int .u64 18446744073709551615) := keep hb9 f8_v_0
    have f9_v_1 : w10.cell? ⟨w5.heap.size, 1, none⟩ = some (.int .u64 3) := keep hb9 f8_v_1
    have l9_w : w.heap.size < w10.heap.size := lt_of f9_w_0
    have l9_x : w1.heap.size < w10.heap.size := lt_of f9_x_0
    have l9_y : w2.heap.size < w10.heap.size := lt_of f9_y_0
    have l9_z : w3.heap.size < w10.heap.size := lt_of f9_z_0
    have l9_u : w4.heap.size < w10.heap.size := lt_of f9_u_0
    have l9_v : w5.heap.size < w10.heap.size := lt_of f9_v_0
    have hB10 : Below w.heap.size w w10 := below_from hB9 hB9.size hb9
    clear hb9 f8_w_0 f8_w_1 f8_x_0 f8_x_1 f8_y_0 f8_y_1 f8_z_0 f8_z_1 f8_u_0 f8_u_1 f8_v_0 f8_v_1 hB9 l8_w l8_x l8_y l8_z l8_u l8_v
    go_wp2_with fail
    refine (end10 _).mono ?_
    rintro e w11 ⟨rfl, hb10⟩
    have f10_w_0 : w11.cell? ⟨w.heap.size, 0, none⟩ = some (.int .u64 N) := keep hb10 f9_w_0
    have f10_w_1 : w11.cell? ⟨w.heap.size, 1, none⟩ = some (.int .u64 B) := keep hb10 f9_w_1
    have f10_x_0 : w11.cell? ⟨w1.heap.size, 0, none⟩ = some (.int .u64 0) := keep hb10 f9_x_0
    have f10_x_1 : w11.cell? ⟨w1.heap.size, 1, none⟩ = some (.int .u64 0) := keep hb10 f9_x_1
    have f10_y_0 : w11.cell? ⟨w2.heap.size, 0, none⟩ = some (.int .u64 18446744073709551615) := keep hb10 f9_y_0
    have f10_y_1 : w11.cell? ⟨w2.heap.size, 1, none⟩ = some (.int .u64 1) := keep hb10 f9_y_1
    have f10_z_0 : w11.cell? ⟨w3.heap.size, 0, none⟩ = some (.int .u64 0) := keep hb10 f9_z_0
    have f10_z_1 : w11.cell? ⟨w3.heap.size, 1, none⟩ = some (.int .u64 0) := keep hb10 f9_z_1
    have f10_u_0 : w11.cell? ⟨w4.heap.size, 0, none⟩ = some (.int .u64 0) := keep hb10 f9_u_0
    have f10_u_1 : w11.cell? ⟨w4.heap.size, 1, none⟩ = some (.int .u64 0) := keep hb10 f9_u_1
    have f10_v_0 : w11.cell? ⟨w5.heap.size, 0, none⟩ = some (.int .u64 18446744073709551615) := keep hb10 f9_v_0
    have f10_v_1 : w11.cell? ⟨w5.heap.size, 1, none⟩ = some (.int .u64 3) := keep hb10 f9_v_1
    have l10_w : w.heap.size < w11.heap.size := lt_of f10_w_0
    have l10_x : w1.heap.size < w11.heap.size := lt_of f10_x_0
    have l10_y : w2.heap.size < w11.heap.size := lt_of f10_y_0
    have l10_z : w3.heap.size < w11.heap.size := lt_of f10_z_0
    have l10_u : w4.heap.size < w11.heap.size := lt_of f10_u_0
    have l10_v : w5.heap.size < w11.heap.size := lt_of f10_v_0
    have hB11 : Below w.heap.size w w11 := below_from hB10 hB10.size hb10
    clear hb10 f9_w_0 f9_w_1 f9_x_0 f9_x_1 f9_y_0 f9_y_1 f9_z_0 f9_z_1 f9_u_0 f9_u_1 f9_v_0 f9_v_1 hB10 l9_w l9_x l9_y l9_z l9_u l9_v
    go_wp2_with fail
    refine (end11 _).mono ?_
    rintro e w12 ⟨rfl, hb11⟩
    have f11_w_0 : w12.cell? ⟨w.heap.size, 0, none⟩ = some (.int .u64 N) := keep hb11 f10_w_0
    have f11_w_1 : w12.cell? ⟨w.heap.size, 1, none⟩ = some (.int .u64 B) := keep hb11 f10_w_1
    have f11_x_0 : w12.cell? ⟨w1.heap.size, 0, none⟩ = some (.int .u64 0) := keep hb11 f10_x_0
    have f11_x_1 : w12.cell? ⟨w1.heap.size, 1, none⟩ = some (.int .u64 0) := keep hb11 f10_x_1
    have f11_y_0 : w12.cell? ⟨w2.heap.size, 0, none⟩ = some (.int .u64 18446744073709551615) := keep hb11 f10_y_0
    have f11_y_1 : w12.cell? ⟨w2.heap.size, 1, none⟩ = some (.int .u64 1) := keep hb11 f10_y_1
    have f11_z_0 : w12.cell? ⟨w3.heap.size, 0, none⟩ = some (.int .u64 0) := keep hb11 f10_z_0
    have f11_z_1 : w12.cell? ⟨w3.heap.size, 1, none⟩ = some (.int .u64 0) := keep hb11 f10_z_1
    have f11_u_0 : w12.cell? ⟨w4.heap.size, 0, none⟩ = some (.int .u64 0) := keep hb11 f10_u_0
    have f11_u_1 : w12.cell? ⟨w4.heap.size, 1, none⟩ = some (.int .u64 0) := keep hb11 f10_u_1
    have f11_v_0 : w12.cell? ⟨w5.heap.size, 0, none⟩ = some (.int .u64 18446744073709551615) := keep hb11 f10_v_0
    have f11_v_1 : w12.cell? ⟨w5.heap.size, 1, none⟩ = some (.int .u64 3) := keep hb11 f10_v_1
    have l11_w : w.heap.size < w12.heap.size := lt_of f11_w_0
    have l11_x : w1.heap.size < w12.heap.size := lt_of f11_x_0
    have l11_y : w2.heap.size < w12.heap.size := lt_of f11_y_0
    have l11_z : w3.heap.size < w12.heap.size := lt_of f11_z_0
    have l11_u : w4.heap.size < w12.heap.size := lt_of f11_u_0
    have l11_v : w5.heap.size < w12.heap.size := lt_of f11_v_0
    have hB12 : Below w.heap.size w w12 := below_from hB11 hB11.size hb11
    clear hb11 f10_w_0 f10_w_1 f10_x_0 f10_x_1 f10_y_0 f10_y_1 f10_z_0 f10_z_1 f10_u_0 f10_u_1 f10_v_0 f10_v_1 hB11 l10_w l10_x l10_y l10_z l10_u l10_v
    go_wp2_with fail
    refine (fixed_any _).mono ?_
    rintro e w13 ⟨rfl, hb12⟩
    have f12_w_0 : w13.cell? ⟨w.heap.size, 0, none⟩ = some (.int .u64 N) := keep hb12 f11_w_0
    have f12_w_1 : w13.cell? ⟨w.heap.size, 1, none⟩ = some (.int .u64 B) := keep hb12 f11_w_1
    have f12_x_0 : w13.cell? ⟨w1.heap.size, 0, none⟩ = some (.int .u64 0) := keep hb12 f11_x_0
    have f12_x_1 : w13.cell? ⟨w1.heap.size, 1, none⟩ = some (.int .u64 0) := keep hb12 f11_x_1
    have f12_y_0 : w13.cell? ⟨w2.heap.size, 0, none⟩ = some (.int .u64 18446744073709551615) := keep hb12 f11_y_0
    have f12_y_1 : w13.cell? ⟨w2.heap.size, 1, none⟩ = some (.int .u64 1) := keep hb12 f11_y_1
    have f12_z_0 : w13.cell? ⟨w3.heap.size, 0, none⟩ = some (.int .u64 0) := keep hb12 f11_z_0
    have f12_z_1 : w13.cell? ⟨w3.heap.size, 1, none⟩ = some (.int .u64 0) := keep hb12 f11_z_1
    have f12_u_0 : w13.cell? ⟨w4.heap.size, 0, none⟩ = some (.int .u64 0) := keep hb12 f11_u_0
    have f12_u_1 : w13.cell? ⟨w4.heap.size, 1, none⟩ = some (.int .u64 0) := keep hb12 f11_u_1
    have f12_v_0 : w13.cell? ⟨w5.heap.size, 0, none⟩ = some (.int .u64 18446744073709551615) := keep hb12 f11_v_0
    have f12_v_1 : w13.cell? ⟨w5.heap.size, 1, none⟩ = some (.int .u64 3) := keep hb12 f11_v_1
    have l12_w : w.heap.size < w13.heap.size := lt_of f12_w_0
    have l12_x : w1.heap.size < w13.heap.size := lt_of f12_x_0
    have l12_y : w2.heap.size < w13.heap.size := lt_of f12_y_0
    have l12_z : w3.heap.size < w13.heap.size := lt_of f12_z_0
    have l12_u : w4.heap.size < w13.heap.size := lt_of f12_u_0
    have l12_v : w5.heap.size < w13.heap.size := lt_of f12_v_0
    have hB13 : Below w.heap.size w w13 := below_from hB12 hB12.size hb12
    clear hb12 f11_w_0 f11_w_1 f11_x_0 f11_x_1 f11_y_0 f11_y_1 f11_z_0 f11_z_1 f11_u_0 f11_u_1 f11_v_0 f11_v_1 hB12 l11_w l11_x l11_y l11_z l11_u l11_v
    go_wp2
    go_ret
    exact ⟨rfl, by assumption⟩
end Go.Proofs.Ytpjckfpoeiljbaa
