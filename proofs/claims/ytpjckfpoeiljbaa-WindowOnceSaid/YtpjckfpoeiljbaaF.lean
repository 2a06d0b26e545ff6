/- The contract of fixed: the calls whose answers the document fixes answer so. -/
import Derived.Test.YtpjckfpoeiljbaaA
namespace Go.Proofs.Ytpjckfpoeiljbaa
open Go.RowKit
set_option maxHeartbeats 800000
set_option linter.unusedVariables false

theorem t0 (w : World) : Calls Try.prog 9 #[.agg #[.int .u64 0, .int .u64 0], .int .u64 5] w fun e w' => e = .returned (.tuple #[.agg #[.int .u64 6, .int .u64 1], .int .i64 0]) ∧ Below w.heap.size w w' := by
  have h := take_any 0 0 5 w (by omega) (by omega) (by omega)
  rw [show takeNext 0 0 5 = 6 from by decide, show takeBits 0 0 5 = 1 from by decide, show takeErr 0 0 5 = 0 from by decide] at h
  exact h

theorem t1 (w : World) : Calls Try.prog 9 #[.agg #[.int .u64 6, .int .u64 1], .int .u64 3] w fun e w' => e = .returned (.tuple #[.agg #[.int .u64 6, .int .u64 5], .int .i64 0]) ∧ Below w.heap.size w w' := by
  have h := take_any 6 1 3 w (by omega) (by omega) (by omega)
  rw [show takeNext 6 1 3 = 6 from by decide, show takeBits 6 1 3 = 5 from by decide, show takeErr 6 1 3 = 0 from by decide] at h
  exact h

theorem t2 (w : World) : Calls Try.prog 9 #[.agg #[.int .u64 6, .int .u64 5], .int .u64 5] w fun e w' => e = .returned (.tuple #[.agg #[.int .u64 0, .int .u64 0], .int .i64 12]) ∧ Below w.heap.size w w' := by
  have h := take_any 6 5 5 w (by omega) (by omega) (by omega)
  rw [show takeNext 6 5 5 = 0 from by decide, show takeBits 6 5 5 = 0 from by decide, show takeErr 6 5 5 = 12 from by decide] at h
  exact h

theorem t3 (w : World) : Calls Try.prog 9 #[.agg #[.int .u64 6, .int .u64 5], .int .u64 7] w fun e w' => e = .returned (.tuple #[.agg #[.int .u64 8, .int .u64 21], .int .i64 0]) ∧ Below w.heap.size w w' := by
  have h := take_any 6 5 7 w (by omega) (by omega) (by omega)
  rw [show takeNext 6 5 7 = 8 from by decide, show takeBits 6 5 7 = 21 from by decide, show takeErr 6 5 7 = 0 from by decide] at h
  exact h

theorem t4 (w : World) : Calls Try.prog 9 #[.agg #[.int .u64 8, .int .u64 21], .int .u64 100] w fun e w' => e = .returned (.tuple #[.agg #[.int .u64 101, .int .u64 1], .int .i64 0]) ∧ Below w.heap.size w w' := by
  have h := take_any 8 21 100 w (by omega) (by omega) (by omega)
  rw [show takeNext 8 21 100 = 101 from by decide, show takeBits 8 21 100 = 1 from by decide, show takeErr 8 21 100 = 0 from by decide] at h
  exact h

theorem t5 (w : World) : Calls Try.prog 9 #[.agg #[.int .u64 101, .int .u64 1], .int .u64 36] w fun e w' => e = .returned (.tuple #[.agg #[.int .u64 0, .int .u64 0], .int .i64 12]) ∧ Below w.heap.size w w' := by
  have h := take_any 101 1 36 w (by omega) (by omega) (by omega)
  rw [show takeNext 101 1 36 = 0 from by decide, show takeBits 101 1 36 = 0 from by decide, show takeErr 101 1 36 = 12 from by decide] at h
  exact h

theorem t6 (w : World) : Calls Try.prog 9 #[.agg #[.int .u64 101, .int .u64 1], .int .u64 18446744073709551615] w fun e w' => e = .returned (.tuple #[.agg #[.int .u64 0, .int .u64 0], .int .i64 1]) ∧ Below w.heap.size w w' := by
  have h := take_any 101 1 18446744073709551615 w (by omega) (by omega) (by omega)
  rw [show takeNext 101 1 18446744073709551615 = 0 from by decide, show takeBits 101 1 18446744073709551615 = 0 from by decide, show takeErr 101 1 18446744073709551615 = 1 from by decide] at h
  exact h

theorem c0 (w : World) : Calls Try.prog 12 #[.agg #[.int .u64 101, .int .u64 1], .int .u64 37] w fun e w' => e = .returned (.bool true) ∧ Below w.heap.size w w' := by
  have h := can_any 101 1 37 w (by omega) (by omega) (by omega)
  rw [show canB 101 1 37 = true from by decide] at h
  exact h

theorem c1 (w : World) : Calls Try.prog 12 #[.agg #[.int .u64 101, .int .u64 1], .int .u64 36] w fun e w' => e = .returned (.bool false) ∧ Below w.heap.size w w' := by
  have h := can_any 101 1 36 w (by omega) (by omega) (by omega)
  rw [show canB 101 1 36 = false from by decide] at h
  exact h

theorem c2 (w : World) : Calls Try.prog 12 #[.agg #[.int .u64 0, .int .u64 0], .int .u64 0] w fun e w' => e = .returned (.bool true) ∧ Below w.heap.size w w' := by
  have h := can_any 0 0 0 w (by omega) (by omega) (by omega)
  rw [show canB 0 0 0 = true from by decide] at h
  exact h

theorem h0 (w : World) : Calls Try.prog 14 #[.agg #[.int .u64 8, .int .u64 21], .int .u64 5] w fun e w' => e = .returned (.bool true) ∧ Below w.heap.size w w' := by
  have h := has_any 8 21 5 w (by omega) (by omega)
  rw [show hasB 8 21 5 = true from by decide] at h
  exact h

theorem h1 (w : World) : Calls Try.prog 14 #[.agg #[.int .u64 8, .int .u64 21], .int .u64 4] w fun e w' => e = .returned (.bool false) ∧ Below w.heap.size w w' := by
  have h := has_any 8 21 4 w (by omega) (by omega)
  rw [show hasB 8 21 4 = false from by decide] at h
  exact h

theorem h2 (w : World) : Calls Try.prog 14 #[.agg #[.int .u64 0, .int .u64 0], .int .u64 0] w fun e w' => e = .returned (.bool false) ∧ Below w.heap.size w w' := by
  have h := has_any 0 0 0 w (by omega) (by omega)
  rw [show hasB 0 0 0 = false from by decide] at h
  exact h

theorem fixed_any (w : World) : Calls Try.prog 16 #[] w fun e w' => e = .returned (.bool true) ∧ Below w.heap.size w w' := by
  go_enter Try.func16, Try.ntmps16
  go_wp2_with fail
  refine (t0 _).mono ?_
  rintro e w0 ⟨rfl, hb0⟩
  have hB0 : Below w.heap.size w w0 := hb0
  clear hb0
  go_wp2_with fail
  refine (t1 _).mono ?_
  rintro e w1 ⟨rfl, hb1⟩
  have f1_0_0 : w1.cell? ⟨w0.heap.size, 0, none⟩ = some (.int .u64 6) := keep hb1 (by simp [go_sem] : (World.alloc w0 (Obj.cells #[.int .u64 6, .int .u64 1] 24)).cell? ⟨w0.heap.size, 0, none⟩ = some (.int .u64 6))
  have f1_0_1 : w1.cell? ⟨w0.heap.size, 1, none⟩ = some (.int .u64 1) := keep hb1 (by simp [go_sem] : (World.alloc w0 (Obj.cells #[.int .u64 6, .int .u64 1] 24)).cell? ⟨w0.heap.size, 1, none⟩ = some (.int .u64 1))
  have l1_0 : w0.heap.size < w1.heap.size := lt_of f1_0_0
  have hB1 : Below w.heap.size w w1 := below_from hB0 hB0.size (below_of hb1)
  clear hb1 hB0
  go_wp2_with fail
  refine (t2 _).mono ?_
  rintro e w2 ⟨rfl, hb2⟩
  have f2_0_0 : w2.cell? ⟨w0.heap.size, 0, none⟩ = some (.int .u64 6) := keep hb2 (keepA _ f1_0_0)
  have f2_0_1 : w2.cell? ⟨w0.heap.size, 1, none⟩ = some (.int .u64 1) := keep hb2 (keepA _ f1_0_1)
  have l2_0 : w0.heap.size < w2.heap.size := lt_of f2_0_0
  have f2_1_0 : w2.cell? ⟨w1.heap.size, 0, none⟩ = some (.int .u64 6) := keep hb2 (by simp [go_sem] : (World.alloc w1 (Obj.cells #[.int .u64 6, .int .u64 5] 24)).cell? ⟨w1.heap.size, 0, none⟩ = some (.int .u64 6))
  have f2_1_1 : w2.cell? ⟨w1.heap.size, 1, none⟩ = some (.int .u64 5) := keep hb2 (by simp [go_sem] : (World.alloc w1 (Obj.cells #[.int .u64 6, .int .u64 5] 24)).cell? ⟨w1.heap.size, 1, none⟩ = some (.int .u64 5))
  have l2_1 : w1.heap.size < w2.heap.size := lt_of f2_1_0
  have hB2 : Below w.heap.size w w2 := below_from hB1 hB1.size (below_of hb2)
  clear hb2 hB1 f1_0_0 f1_0_1 l1_0
  go_wp2_with fail
  refine (t3 _).mono ?_
  rintro e w3 ⟨rfl, hb3⟩
  have f3_0_0 : w3.cell? ⟨w0.heap.size, 0, none⟩ = some (.int .u64 6) := keep hb3 (keepA _ f2_0_0)
  have f3_0_1 : w3.cell? ⟨w0.heap.size, 1, none⟩ = some (.int .u64 1) := keep hb3 (keepA _ f2_0_1)
  have l3_0 : w0.heap.size < w3.heap.size := lt_of f3_0_0
  have f3_1_0 : w3.cell? ⟨w1.heap.size, 0, none⟩ = some (.int .u64 6) := keep hb3 (keepA _ f2_1_0)
  have f3_1_1 : w3.cell? ⟨w1.heap.size, 1, none⟩ = some (.int .u64 5) := keep hb3 (keepA _ f2_1_1)
  have l3_1 : w1.heap.size < w3.heap.size := lt_of f3_1_0
  have hB3 : Below w.heap.size w w3 := below_from hB2 hB2.size (below_of hb3)
  clear hb3 hB2 f2_0_0 f2_0_1 l2_0 f2_1_0 f2_1_1 l2_1
  go_wp2_with fail
  refine (t4 _).mono ?_
  rintro e w4 ⟨rfl, hb4⟩
  have f4_0_0 : w4.cell? ⟨w0.heap.size, 0, none⟩ = some (.int .u64 6) := keep hb4 (keepA _ f3_0_0)
  have f4_0_1 : w4.cell? ⟨w0.heap.size, 1, none⟩ = some (.int .u64 1) := keep hb4 (keepA _ f3_0_1)
  have l4_0 : w0.heap.size < w4.heap.size := lt_of f4_0_0
  have f4_1_0 : w4.cell? ⟨w1.heap.size, 0, none⟩ = some (.int .u64 6) := keep hb4 (keepA _ f3_1_0)
  have f4_1_1 : w4.cell? ⟨w1.heap.size, 1, none⟩ = some (.int .u64 5) := keep hb4 (keepA _ f3_1_1)
  have l4_1 : w1.heap.size < w4.heap.size := lt_of f4_1_0
  have f4_3_0 : w4.cell? ⟨w3.heap.size, 0, none⟩ = some (.int .u64 8) := keep hb4 (by simp [go_sem] : (World.alloc w3 (Obj.cells #[.int .u64 8, .int .u64 21] 24)).cell? ⟨w3.heap.size, 0, none⟩ = some (.int .u64 8))
  have f4_3_1 : w4.cell? ⟨w3.heap.size, 1, none⟩ = some (.int .u64 21) := keep hb4 (by simp [go_sem] : (World.alloc w3 (Obj.cells #[.int .u64 8, .int .u64 21] 24)).cell? ⟨w3.heap.size, 1, none⟩ = some (.int .u64 21))
  have l4_3 : w3.heap.size < w4.heap.size := lt_of f4_3_0
  have hB4 : Below w.heap.size w w4 := below_from hB3 hB3.size (below_of hb4)
  clear hb4 hB3 f3_0_0 f3_0_1 l3_0 f3_1_0 f3_1_1 l3_1
  go_wp2_with fail
  refine (t5 _).mono ?_
  rintro e w5 ⟨rfl, hb5⟩
  have f5_0_0 : w5.cell? ⟨w0.heap.size, 0, none⟩ = some (.int .u64 6) := keep hb5 (keepA _ f4_0_0)
  have f5_0_1 : w5.cell? ⟨w0.heap.size, 1, none⟩ = some (.int .u64 1) := keep hb5 (keepA _ f4_0_1)
  have l5_0 : w0.heap.size < w5.heap.size := lt_of f5_0_0
  have f5_1_0 : w5.cell? ⟨w1.heap.size, 0, none⟩ = some (.int .u64 6) := keep hb5 (keepA _ f4_1_0)
  have f5_1_1 : w5.cell? ⟨w1.heap.size, 1, none⟩ = some (.int .u64 5) := keep hb5 (keepA _ f4_1_1)
  have l5_1 : w1.heap.size < w5.heap.size := lt_of f5_1_0
  have f5_3_0 : w5.cell? ⟨w3.heap.size, 0, none⟩ = some (.int .u64 8) := keep hb5 (keepA _ f4_3_0)
  have f5_3_1 : w5.cell? ⟨w3.heap.size, 1, none⟩ = some (.int .u64 21) := keep hb5 (keepA _ f4_3_1)
  have l5_3 : w3.heap.size < w5.heap.size := lt_of f5_3_0
  have f5_4_0 : w5.cell? ⟨w4.heap.size, 0, none⟩ = some (.int .u64 101) := keep hb5 (by simp [go_sem] : (World.alloc w4 (Obj.cells #[.int .u64 101, .int .u64 1] 24)).cell? ⟨w4.heap.size, 0, none⟩ = some (.int .u64 101))
  have f5_4_1 : w5.cell? ⟨w4.heap.size, 1, none⟩ = some (.int .u64 1) := keep hb5 (by simp [go_sem] : (World.alloc w4 (Obj.cells #[.int .u64 101, .int .u64 1] 24)).cell? ⟨w4.heap.size, 1, none⟩ = some (.int .u64 1))
  have l5_4 : w4.heap.size < w5.heap.size := lt_of f5_4_0
  have hB5 : Below w.heap.size w w5 := below_from hB4 hB4.size (below_of hb5)
  clear hb5 hB4 f4_0_0 f4_0_1 l4_0 f4_1_0 f4_1_1 l4_1 f4_3_0 f4_3_1 l4_3
  go_wp2_with fail
  refine (t6 _).mono ?_
  rintro e w6 ⟨rfl, hb6⟩
  have f6_0_0 : w6.cell? ⟨w0.heap.size, 0, none⟩ = some (.int .u64 6) := keep hb6 (keepA _ f5_0_0)
  have f6_0_1 : w6.cell? ⟨w0.heap.size, 1, none⟩ = some (.int .u64 1) := keep hb6 (keepA _ f5_0_1)
  have l6_0 : w0.heap.size < w6.heap.size := lt_of f6_0_0
  have f6_1_0 : w6.cell? ⟨w1.heap.size, 0, none⟩ = some (.int .u64 6) := keep hb6 (keepA _ f5_1_0)
  have f6_1_1 : w6.cell? ⟨w1.heap.size, 1, none⟩ = some (.int .u64 5) := keep hb6 (keepA _ f5_1_1)
  have l6_1 : w1.heap.size < w6.heap.size := lt_of f6_1_0
  have f6_3_0 : w6.cell? ⟨w3.heap.size, 0, none⟩ = some (.int .u64 8) := keep hb6 (keepA _ f5_3_0)
  have f6_3_1 : w6.cell? ⟨w3.heap.size, 1, none⟩ = some (.int .u64 21) := keep hb6 (keepA _ f5_3_1)
  have l6_3 : w3.heap.size < w6.heap.size := lt_of f6_3_0
  have f6_4_0 : w6.cell? ⟨w4.heap.size, 0, none⟩ = some (.int .u64 101) := keep hb6 (keepA _ f5_4_0)
  have f6_4_1 : w6.cell? ⟨w4.heap.size, 1, none⟩ = some (.int .u64 1) := keep hb6 (keepA _ f5_4_1)
  have l6_4 : w4.heap.size < w6.heap.size := lt_of f6_4_0
  have hB6 : Below w.heap.size w w6 := below_from hB5 hB5.size (below_of hb6)
  clear hb6 hB5 f5_0_0 f5_0_1 l5_0 f5_1_0 f5_1_1 l5_1 f5_3_0 f5_3_1 l5_3 f5_4_0 f5_4_1 l5_4
  go_wp2_with fail
  refine (c0 _).mono ?_
  rintro e w7 ⟨rfl, hb7⟩
  have f7_0_0 : w7.cell? ⟨w0.heap.size, 0, none⟩ = some (.int .u64 6) := keep hb7 (keepA _ f6_0_0)
  have f7_0_1 : w7.cell? ⟨w0.heap.size, 1, none⟩ = some (.int .u64 1) := keep hb7 (keepA _ f6_0_1)
  have l7_0 : w0.heap.size < w7.heap.size := lt_of f7_0_0
  have f7_1_0 : w7.cell? ⟨w1.heap.size, 0, none⟩ = some (.int .u64 6) := keep hb7 (keepA _ f6_1_0)
  have f7_1_1 : w7.cell? ⟨w1.heap.size, 1, none⟩ = some (.int .u64 5) := keep hb7 (keepA _ f6_1_1)
  have l7_1 : w1.heap.size < w7.heap.size := lt_of f7_1_0
  have f7_3_0 : w7.cell? ⟨w3.heap.size, 0, none⟩ = some (.int .u64 8) := keep hb7 (keepA _ f6_3_0)
  have f7_3_1 : w7.cell? ⟨w3.heap.size, 1, none⟩ = some (.int .u64 21) := keep hb7 (keepA _ f6_3_1)
  have l7_3 : w3.heap.size < w7.heap.size := lt_of f7_3_0
  have f7_4_0 : w7.cell? ⟨w4.heap.size, 0, none⟩ = some (.int .u64 101) := keep hb7 (keepA _ f6_4_0)
  have f7_4_1 : w7.cell? ⟨w4.heap.size, 1, none⟩ = some (.int .u64 1) := keep hb7 (keepA _ f6_4_1)
  have l7_4 : w4.heap.size < w7.heap.size := lt_of f7_4_0
  have hB7 : Below w.heap.size w w7 := below_from hB6 hB6.size (below_of hb7)
  clear hb7 hB6 f6_0_0 f6_0_1 l6_0 f6_1_0 f6_1_1 l6_1 f6_3_0 f6_3_1 l6_3 f6_4_0 f6_4_1 l6_4
  go_wp2_with fail
  refine (c1 _).mono ?_
  rintro e w8 ⟨rfl, hb8⟩
  have f8_0_0 : w8.cell? ⟨w0.heap.size, 0, none⟩ = some (.int .u64 6) := keep hb8 f7_0_0
  have f8_0_1 : w8.cell? ⟨w0.heap.size, 1, none⟩ = some (.int .u64 1) := keep hb8 f7_0_1
  have l8_0 : w0.heap.size < w8.heap.size := lt_of f8_0_0
  have f8_1_0 : w8.cell? ⟨w1.heap.size, 0, none⟩ = some (.int .u64 6) := keep hb8 f7_1_0
  have f8_1_1 : w8.cell? ⟨w1.heap.size, 1, none⟩ = some (.int .u64 5) := keep hb8 f7_1_1
  have l8_1 : w1.heap.size < w8.heap.size := lt_of f8_1_0
  have f8_3_0 : w8.cell? ⟨w3.heap.size, 0, none⟩ = some (.int .u64 8) := keep hb8 f7_3_0
  have f8_3_1 : w8.cell? ⟨w3.heap.size, 1, none⟩ = some (.int .u64 21) := keep hb8 f7_3_1
  have l8_3 : w3.heap.size < w8.heap.size := lt_of f8_3_0
  have f8_4_0 : w8.cell? ⟨w4.heap.size, 0, none⟩ = some (.int .u64 101) := keep hb8 f7_4_0
  have f8_4_1 : w8.cell? ⟨w4.heap.size, 1, none⟩ = some (.int .u64 1) := keep hb8 f7_4_1
  have l8_4 : w4.heap.size < w8.heap.size := lt_of f8_4_0
  have hB8 : Below w.heap.size w w8 := below_from hB7 hB7.size hb8
  clear hb8 hB7 f7_0_0 f7_0_1 l7_0 f7_1_0 f7_1_1 l7_1 f7_3_0 f7_3_1 l7_3 f7_4_0 f7_4_1 l7_4
  go_wp2_with fail
  refine (h0 _).mono ?_
  rintro e w9 ⟨rfl, hb9⟩
  have f9_0_0 : w9.cell? ⟨w0.heap.size, 0, none⟩ = some (.int .u64 6) := keep hb9 f8_0_0
  have f9_0_1 : w9.cell? ⟨w0.heap.size, 1, none⟩ = some (.int .u64 1) := keep hb9 f8_0_1
  have l9_0 : w0.heap.size < w9.heap.size := lt_of f9_0_0
  have f9_1_0 : w9.cell? ⟨w1.heap.size, 0, none⟩ = some (.int .u64 6) := keep hb9 f8_1_0
  have f9_1_1 : w9.cell? ⟨w1.heap.size, 1, none⟩ = some (.int .u64 5) := keep hb9 f8_1_1
  have l9_1 : w1.heap.size < w9.heap.size := lt_of f9_1_0
  have f9_3_0 : w9.cell? ⟨w3.heap.size, 0, none⟩ = some (.int .u64 8) := keep hb9 f8_3_0
  have f9_3_1 : w9.cell? ⟨w3.heap.size, 1, none⟩ = some (.int .u64 21) := keep hb9 f8_3_1
  have l9_3 : w3.heap.size < w9.heap.size := lt_of f9_3_0
  have f9_4_0 : w9.cell? ⟨w4.heap.size, 0, none⟩ = some (.int .u64 101) := keep hb9 f8_4_0
  have f9_4_1 : w9.cell? ⟨w4.heap.size, 1, none⟩ = some (.int .u64 1) := keep hb9 f8_4_1
  have l9_4 : w4.heap.size < w9.heap.size := lt_of f9_4_0
  have hB9 : Below w.heap.size w w9 := below_from hB8 hB8.size hb9
  clear hb9 hB8 f8_0_0 f8_0_1 l8_0 f8_1_0 f8_1_1 l8_1 f8_3_0 f8_3_1 l8_3 f8_4_0 f8_4_1 l8_4
  go_wp2_with fail
  refine (h1 _).mono ?_
  rintro e w10 ⟨rfl, hb10⟩
  have f10_0_0 : w10.cell? ⟨w0.heap.size, 0, none⟩ = some (.int .u64 6) := keep hb10 f9_0_0
  have f10_0_1 : w10.cell? ⟨w0.heap.size, 1, none⟩ = some (.int .u64 1) := keep hb10 f9_0_1
  have l10_0 : w0.heap.size < w10.heap.size := lt_of f10_0_0
  have f10_1_0 : w10.cell? ⟨w1.heap.size, 0, none⟩ = some (.int .u64 6) := keep hb10 f9_1_0
  have f10_1_1 : w10.cell? ⟨w1.heap.size, 1, none⟩ = some (.int .u64 5) := keep hb10 f9_1_1
  have l10_1 : w1.heap.size < w10.heap.size := lt_of f10_1_0
  have f10_3_0 : w10.cell? ⟨w3.heap.size, 0, none⟩ = some (.int .u64 8) := keep hb10 f9_3_0
  have f10_3_1 : w10.cell? ⟨w3.heap.size, 1, none⟩ = some (.int .u64 21) := keep hb10 f9_3_1
  have l10_3 : w3.heap.size < w10.heap.size := lt_of f10_3_0
  have f10_4_0 : w10.cell? ⟨w4.heap.size, 0, none⟩ = some (.int .u64 101) := keep hb10 f9_4_0
  have f10_4_1 : w10.cell? ⟨w4.heap.size, 1, none⟩ = some (.int .u64 1) := keep hb10 f9_4_1
  have l10_4 : w4.heap.size < w10.heap.size := lt_of f10_4_0
  have hB10 : Below w.heap.size w w10 := below_from hB9 hB9.size hb10
  clear hb10 hB9 f9_0_0 f9_0_1 l9_0 f9_1_0 f9_1_1 l9_1 f9_3_0 f9_3_1 l9_3 f9_4_0 f9_4_1 l9_4
  go_wp2_with fail
  refine (h2 _).mono ?_
  rintro e w11 ⟨rfl, hb11⟩
  have f11_0_0 : w11.cell? ⟨w0.heap.size, 0, none⟩ = some (.int .u64 6) := keep hb11 f10_0_0
  have f11_0_1 : w11.cell? ⟨w0.heap.size, 1, none⟩ = some (.int .u64 1) := keep hb11 f10_0_1
  have l11_0 : w0.heap.size < w11.heap.size := lt_of f11_0_0
  have f11_1_0 : w11.cell? ⟨w1.heap.size, 0, none⟩ = some (.int .u64 6) := keep hb11 f10_1_0
  have f11_1_1 : w11.cell? ⟨w1.heap.size, 1, none⟩ = some (.int .u64 5) := keep hb11 f10_1_1
  have l11_1 : w1.heap.size < w11.heap.size := lt_of f11_1_0
  have f11_3_0 : w11.cell? ⟨w3.heap.size, 0, none⟩ = some (.int .u64 8) := keep hb11 f10_3_0
  have f11_3_1 : w11.cell? ⟨w3.heap.size, 1, none⟩ = some (.int .u64 21) := keep hb11 f10_3_1
  have l11_3 : w3.heap.size < w11.heap.size := lt_of f11_3_0
  have f11_4_0 : w11.cell? ⟨w4.heap.size, 0, none⟩ = some (.int .u64 101) := keep hb11 f10_4_0
  have f11_4_1 : w11.cell? ⟨w4.heap.size, 1, none⟩ = some (.int .u64 1) := keep hb11 f10_4_1
  have l11_4 : w4.heap.size < w11.heap.size := lt_of f11_4_0
  have hB11 : Below w.heap.size w w11 := below_from hB10 hB10.size hb11
  clear hb11 hB10 f10_0_0 f10_0_1 l10_0 f10_1_0 f10_1_1 l10_1 f10_3_0 f10_3_1 l10_3 f10_4_0 f10_4_1 l10_4
  go_wp2_with fail
  refine (c2 _).mono ?_
  rintro e w12 ⟨rfl, hb12⟩
  have f12_0_0 : w12.cell? ⟨w0.heap.size, 0, none⟩ = some (.int .u64 6) := keep hb12 f11_0_0
  have f12_0_1 : w12.cell? ⟨w0.heap.size, 1, none⟩ = some (.int .u64 1) := keep hb12 f11_0_1
  have l12_0 : w0.heap.size < w12.heap.size := lt_of f12_0_0
  have f12_1_0 : w12.cell? ⟨w1.heap.size, 0, none⟩ = some (.int .u64 6) := keep hb12 f11_1_0
  have f12_1_1 : w12.cell? ⟨w1.heap.size, 1, none⟩ = some (.int .u64 5) := keep hb12 f11_1_1
  have l12_1 : w1.heap.size < w12.heap.size := lt_of f12_1_0
  have f12_3_0 : w12.cell? ⟨w3.heap.size, 0, none⟩ = some (.int .u64 8) := keep hb12 f11_3_0
  have f12_3_1 : w12.cell? ⟨w3.heap.size, 1, none⟩ = some (.int .u64 21) := keep hb12 f11_3_1
  have l12_3 : w3.heap.size < w12.heap.size := lt_of f12_3_0
  have f12_4_0 : w12.cell? ⟨w4.heap.size, 0, none⟩ = some (.int .u64 101) := keep hb12 f11_4_0
  have f12_4_1 : w12.cell? ⟨w4.heap.size, 1, none⟩ = some (.int .u64 1) := keep hb12 f11_4_1
  have l12_4 : w4.heap.size < w12.heap.size := lt_of f12_4_0
  have hB12 : Below w.heap.size w w12 := below_from hB11 hB11.size hb12
  clear hb12 hB11 f11_0_0 f11_0_1 l11_0 f11_1_0 f11_1_1 l11_1 f11_3_0 f11_3_1 l11_3 f11_4_0 f11_4_1 l11_4
  go_wp2
  go_ret
  exact ⟨rfl, by assumption⟩

end Go.Proofs.Ytpjckfpoeiljbaa
