/- The walk of SlotsMoves. -/
import Derived.Test.YtnogfgpdgodalaaF
namespace Go.Proofs.Ytnogfgpdgodalaa
open Go.RowKit
set_option maxHeartbeats 4000000
set_option maxRecDepth 100000
set_option linter.unusedVariables false

theorem or_one (a : Int) (h : (Lit.int .u64 a).wf = true) : ∃ A : Int, bits .or .u64 a 1 = A ∧ (A == 0) = false ∧ (A != 0) = true := by
  obtain ⟨n, rfl, hn⟩ := nat_u64 h
  have e := u64_or_nat n 1 hn (by omega)
  have h1 : (n ||| 1) ≠ 0 := fun h0 => by
    have := congrArg (fun x => Nat.testBit x 0) h0
    simp at this
  refine ⟨((n ||| 1 : Nat) : Int), e, ?_, ?_⟩
  · rw [beq_eq_false_iff_ne]; omega
  · rw [bne_iff_ne]; omega

theorem at_new2 (w : World) (o o2 : Obj) (t : TypeId) (C : Array Value) : At (((w.alloc o).alloc o2).alloc (.cells C t)) (w.heap.size + 1 + 1) t C := by
  have h := At.new ((w.alloc o).alloc o2) t C
  rw [World.size_alloc, World.size_alloc] at h
  exact h
theorem moves_core (a b c d e f g h i : Int) (w : World) (wa : (Lit.int .u64 a).wf = true) (wd : (Lit.int .u64 d).wf = true) (wg : (Lit.int .u64 g).wf = true) :
    Calls Try.prog 6 #[.agg #[.int .u64 a, .int .u64 b, .int .u64 c], .agg #[.int .u64 d, .int .u64 e, .int .u64 f], .agg #[.int .u64 g, .int .u64 h, .int .u64 i]] w fun en w' => en = .returned (.bool true) ∧ Below w.heap.size w w' := by
  obtain ⟨A, hA, hA0, hA1⟩ := or_one a wa
  obtain ⟨D, hD, hD0, hD1⟩ := or_one d wd
  obtain ⟨G, hG, hG0, hG1⟩ := or_one g wg
  go_enter Try.func6, Try.ntmps6
  have hB : Below w.heap.size w w := Below.refl _ _
  go_wp2_with fail
  clear hA hD hG
  refine (mine_no 0 0 0 0 0 0 0 0 A b c _).mono ?_
  rintro e x1 ⟨rfl, hb0⟩
  have A0_one : At x1 (w.heap.size) 25 #[.int .u64 A, .int .u64 b, .int .u64 c] := (((At.new w 25 #[.int .u64 A, .int .u64 b, .int .u64 c]).alloc _).alloc _).keep hb0
  have A0_two : At x1 (w.heap.size + 1) 25 #[.int .u64 D, .int .u64 e, .int .u64 f] := ((at_new1 w _ 25 #[.int .u64 D, .int .u64 e, .int .u64 f]).alloc _).keep hb0
  have A0_three : At x1 (w.heap.size + 1 + 1) 25 #[.int .u64 G, .int .u64 h, .int .u64 i] := (at_new2 w _ _ 25 #[.int .u64 G, .int .u64 h, .int .u64 i]).keep hb0
  have hB0 : Below w.heap.size w x1 := below_from hB hB.size (below_of (below_of (below_of hb0)))
  have r0_one := A0_one.rd
  have l0_one := A0_one.lt
  have r0_two := A0_two.rd
  have l0_two := A0_two.lt
  have r0_three := A0_three.rd
  have l0_three := A0_three.lt
  clear hb0 hB
  go_wp2_with fail
  refine (mine_no 0 0 0 A b c 0 0 D e f _).mono ?_
  rintro e x2 ⟨rfl, hb1⟩
  have A1_one : At x2 (w.heap.size) 25 #[.int .u64 A, .int .u64 b, .int .u64 c] := (A0_one.alloc _).keep hb1
  have A1_two : At x2 (w.heap.size + 1) 25 #[.int .u64 D, .int .u64 e, .int .u64 f] := (A0_two.alloc _).keep hb1
  have A1_three : At x2 (w.heap.size + 1 + 1) 25 #[.int .u64 G, .int .u64 h, .int .u64 i] := (A0_three.alloc _).keep hb1
  have A1_a : At x2 (x1.heap.size) 27 #[.int .u64 0, .int .u64 0, .int .u64 0, .int .u64 A, .int .u64 b, .int .u64 c, .int .u64 0, .int .u64 0, .int .u64 0] := (At.new x1 27 #[.int .u64 0, .int .u64 0, .int .u64 0, .int .u64 A, .int .u64 b, .int .u64 c, .int .u64 0, .int .u64 0, .int .u64 0]).keep hb1
  have hB1 : Below w.heap.size w x2 := below_from hB0 hB0.size (below_of hb1)
  have r1_one := A1_one.rd
  have l1_one := A1_one.lt
  have r1_two := A1_two.rd
  have l1_two := A1_two.lt
  have r1_three := A1_three.rd
  have l1_three := A1_three.lt
  have r1_a := A1_a.rd
  have l1_a := A1_a.lt
  clear A0_one A0_two A0_three hb1 hB0 r0_one l0_one r0_two l0_two r0_three l0_three
  go_wp2_with fail
  refine (mine_no A b c D e f 0 0 G h i _).mono ?_
  rintro e x3 ⟨rfl, hb2⟩
  have A2_one : At x3 (w.heap.size) 25 #[.int .u64 A, .int .u64 b, .int .u64 c] := (A1_one.alloc _).keep hb2
  have A2_two : At x3 (w.heap.size + 1) 25 #[.int .u64 D, .int .u64 e, .int .u64 f] := (A1_two.alloc _).keep hb2
  have A2_three : At x3 (w.heap.size + 1 + 1) 25 #[.int .u64 G, .int .u64 h, .int .u64 i] := (A1_three.alloc _).keep hb2
  have A2_a : At x3 (x1.heap.size) 27 #[.int .u64 0, .int .u64 0, .int .u64 0, .int .u64 A, .int .u64 b, .int .u64 c, .int .u64 0, .int .u64 0, .int .u64 0] := (A1_a.alloc _).keep hb2
  have A2_b : At x3 (x2.heap.size) 27 #[.int .u64 A, .int .u64 b, .int .u64 c, .int .u64 D, .int .u64 e, .int .u64 f, .int .u64 0, .int .u64 0, .int .u64 0] := (At.new x2 27 #[.int .u64 A, .int .u64 b, .int .u64 c, .int .u64 D, .int .u64 e, .int .u64 f, .int .u64 0, .int .u64 0, .int .u64 0]).keep hb2
  have hB2 : Below w.heap.size w x3 := below_from hB1 hB1.size (below_of hb2)
  have r2_one := A2_one.rd
  have l2_one := A2_one.lt
  have r2_two := A2_two.rd
  have l2_two := A2_two.lt
  have r2_three := A2_three.rd
  have l2_three := A2_three.lt
  have r2_a := A2_a.rd
  have l2_a := A2_a.lt
  have r2_b := A2_b.rd
  have l2_b := A2_b.lt
  clear A1_one A1_two A1_three A1_a hb2 hB1 r1_one l1_one r1_two l1_two r1_three l1_three r1_a l1_a
  go_wp2_with fail
  refine (theirs_any 0 0 0 A b c 0 0 0 D e f _).mono ?_
  rintro e x4 ⟨rfl, hb3⟩
  have A3_one : At x4 (w.heap.size) 25 #[.int .u64 A, .int .u64 b, .int .u64 c] := (A2_one.alloc _).keep hb3
  have A3_two : At x4 (w.heap.size + 1) 25 #[.int .u64 D, .int .u64 e, .int .u64 f] := (A2_two.alloc _).keep hb3
  have A3_three : At x4 (w.heap.size + 1 + 1) 25 #[.int .u64 G, .int .u64 h, .int .u64 i] := (A2_three.alloc _).keep hb3
  have A3_a : At x4 (x1.heap.size) 27 #[.int .u64 0, .int .u64 0, .int .u64 0, .int .u64 A, .int .u64 b, .int .u64 c, .int .u64 0, .int .u64 0, .int .u64 0] := (A2_a.alloc _).keep hb3
  have A3_b : At x4 (x2.heap.size) 27 #[.int .u64 A, .int .u64 b, .int .u64 c, .int .u64 D, .int .u64 e, .int .u64 f, .int .u64 0, .int .u64 0, .int .u64 0] := (A2_b.alloc _).keep hb3
  have A3_c : At x4 (x3.heap.size) 27 #[.int .u64 D, .int .u64 e, .int .u64 f, .int .u64 G, .int .u64 h, .int .u64 i, .int .u64 0, .int .u64 0, .int .u64 0] := (At.new x3 27 #[.int .u64 D, .int .u64 e, .int .u64 f, .int .u64 G, .int .u64 h, .int .u64 i, .int .u64 0, .int .u64 0, .int .u64 0]).keep hb3
  have hB3 : Below w.heap.size w x4 := below_from hB2 hB2.size (below_of hb3)
  have r3_one := A3_one.rd
  have l3_one := A3_one.lt
  have r3_two := A3_two.rd
  have l3_two := A3_two.lt
  have r3_three := A3_three.rd
  have l3_three := A3_three.lt
  have r3_a := A3_a.rd
  have l3_a := A3_a.lt
  have r3_b := A3_b.rd
  have l3_b := A3_b.lt
  have r3_c := A3_c.rd
  have l3_c := A3_c.lt
  clear A2_one A2_two A2_three A2_a A2_b hb3 hB2 r2_one l2_one r2_two l2_two r2_three l2_three r2_a l2_a r2_b l2_b
  go_wp2_with fail
  refine (theirs_any 0 0 0 A b c D e f G h i _).mono ?_
  rintro e x5 ⟨rfl, hb4⟩
  have A4_one : At x5 (w.heap.size) 25 #[.int .u64 A, .int .u64 b, .int .u64 c] := (A3_one.alloc _).keep hb4
  have A4_two : At x5 (w.heap.size + 1) 25 #[.int .u64 D, .int .u64 e, .int .u64 f] := (A3_two.alloc _).keep hb4
  have A4_three : At x5 (w.heap.size + 1 + 1) 25 #[.int .u64 G, .int .u64 h, .int .u64 i] := (A3_three.alloc _).keep hb4
  have A4_a : At x5 (x1.heap.size) 27 #[.int .u64 0, .int .u64 0, .int .u64 0, .int .u64 A, .int .u64 b, .int .u64 c, .int .u64 0, .int .u64 0, .int .u64 0] := (A3_a.alloc _).keep hb4
  have A4_b : At x5 (x2.heap.size) 27 #[.int .u64 A, .int .u64 b, .int .u64 c, .int .u64 D, .int .u64 e, .int .u64 f, .int .u64 0, .int .u64 0, .int .u64 0] := (A3_b.alloc _).keep hb4
  have A4_c : At x5 (x3.heap.size) 27 #[.int .u64 D, .int .u64 e, .int .u64 f, .int .u64 G, .int .u64 h, .int .u64 i, .int .u64 0, .int .u64 0, .int .u64 0] := (A3_c.alloc _).keep hb4
  have A4_d : At x5 (x4.heap.size) 27 #[.int .u64 0, .int .u64 0, .int .u64 0, .int .u64 A, .int .u64 b, .int .u64 c, .int .u64 D, .int .u64 e, .int .u64 f] := (At.new x4 27 #[.int .u64 0, .int .u64 0, .int .u64 0, .int .u64 A, .int .u64 b, .int .u64 c, .int .u64 D, .int .u64 e, .int .u64 f]).keep hb4
  have hB4 : Below w.heap.size w x5 := below_from hB3 hB3.size (below_of hb4)
  have r4_one := A4_one.rd
  have l4_one := A4_one.lt
  have r4_two := A4_two.rd
  have l4_two := A4_two.lt
  have r4_three := A4_three.rd
  have l4_three := A4_three.lt
  have r4_a := A4_a.rd
  have l4_a := A4_a.lt
  have r4_b := A4_b.rd
  have l4_b := A4_b.lt
  have r4_c := A4_c.rd
  have l4_c := A4_c.lt
  have r4_d := A4_d.rd
  have l4_d := A4_d.lt
  clear A3_one A3_two A3_three A3_a A3_b A3_c hb4 hB3 r3_one l3_one r3_two l3_two r3_three l3_three r3_a l3_a r3_b l3_b r3_c l3_c
  go_wp2_with fail
  refine (heard_yes 0 0 0 A b c G h i hG0 _).mono ?_
  rintro e x6 ⟨rfl, hb5⟩
  have A5_one : At x6 (w.heap.size) 25 #[.int .u64 A, .int .u64 b, .int .u64 c] := (A4_one.alloc _).keep hb5
  have A5_two : At x6 (w.heap.size + 1) 25 #[.int .u64 D, .int .u64 e, .int .u64 f] := (A4_two.alloc _).keep hb5
  have A5_three : At x6 (w.heap.size + 1 + 1) 25 #[.int .u64 G, .int .u64 h, .int .u64 i] := (A4_three.alloc _).keep hb5
  have A5_a : At x6 (x1.heap.size) 27 #[.int .u64 0, .int .u64 0, .int .u64 0, .int .u64 A, .int .u64 b, .int .u64 c, .int .u64 0, .int .u64 0, .int .u64 0] := (A4_a.alloc _).keep hb5
  have A5_b : At x6 (x2.heap.size) 27 #[.int .u64 A, .int .u64 b, .int .u64 c, .int .u64 D, .int .u64 e, .int .u64 f, .int .u64 0, .int .u64 0, .int .u64 0] := (A4_b.alloc _).keep hb5
  have A5_c : At x6 (x3.heap.size) 27 #[.int .u64 D, .int .u64 e, .int .u64 f, .int .u64 G, .int .u64 h, .int .u64 i, .int .u64 0, .int .u64 0, .int .u64 0] := (A4_c.alloc _).keep hb5
  have A5_d : At x6 (x4.heap.size) 27 #[.int .u64 0, .int .u64 0, .int .u64 0, .int .u64 A, .int .u64 b, .int .u64 c, .int .u64 D, .int .u64 e, .int .u64 f] := (A4_d.alloc _).keep hb5
  have A5_e : At x6 (x5.heap.size) 27 #[.int .u64 0, .int .u64 0, .int .u64 0, .int .u64 A, .int .u64 b, .int .u64 c, .int .u64 G, .int .u64 h, .int .u64 i] := (At.new x5 27 #[.int .u64 0, .int .u64 0, .int .u64 0, .int .u64 A, .int .u64 b, .int .u64 c, .int .u64 G, .int .u64 h, .int .u64 i]).keep hb5
  have hB5 : Below w.heap.size w x6 := below_from hB4 hB4.size (below_of hb5)
  have r5_one := A5_one.rd
  have l5_one := A5_one.lt
  have r5_two := A5_two.rd
  have l5_two := A5_two.lt
  have r5_three := A5_three.rd
  have l5_three := A5_three.lt
  have r5_a := A5_a.rd
  have l5_a := A5_a.lt
  have r5_b := A5_b.rd
  have l5_b := A5_b.lt
  have r5_c := A5_c.rd
  have l5_c := A5_c.lt
  have r5_d := A5_d.rd
  have l5_d := A5_d.lt
  have r5_e := A5_e.rd
  have l5_e := A5_e.lt
  clear A4_one A4_two A4_three A4_a A4_b A4_c A4_d hb5 hB4 r4_one l4_one r4_two l4_two r4_three l4_three r4_a l4_a r4_b l4_b r4_c l4_c r4_d l4_d
  go_wp2_with fail
  refine (heard_no A b c G h i 0 0 0 G hG0 hG1 _).mono ?_
  rintro e x7 ⟨rfl, hb6⟩
  have A6_one : At x7 (w.heap.size) 25 #[.int .u64 A, .int .u64 b, .int .u64 c] := (A5_one.alloc _).keep hb6
  have A6_two : At x7 (w.heap.size + 1) 25 #[.int .u64 D, .int .u64 e, .int .u64 f] := (A5_two.alloc _).keep hb6
  have A6_three : At x7 (w.heap.size + 1 + 1) 25 #[.int .u64 G, .int .u64 h, .int .u64 i] := (A5_three.alloc _).keep hb6
  have A6_a : At x7 (x1.heap.size) 27 #[.int .u64 0, .int .u64 0, .int .u64 0, .int .u64 A, .int .u64 b, .int .u64 c, .int .u64 0, .int .u64 0, .int .u64 0] := (A5_a.alloc _).keep hb6
  have A6_b : At x7 (x2.heap.size) 27 #[.int .u64 A, .int .u64 b, .int .u64 c, .int .u64 D, .int .u64 e, .int .u64 f, .int .u64 0, .int .u64 0, .int .u64 0] := (A5_b.alloc _).keep hb6
  have A6_c : At x7 (x3.heap.size) 27 #[.int .u64 D, .int .u64 e, .int .u64 f, .int .u64 G, .int .u64 h, .int .u64 i, .int .u64 0, .int .u64 0, .int .u64 0] := (A5_c.alloc _).keep hb6
  have A6_d : At x7 (x4.heap.size) 27 #[.int .u64 0, .int .u64 0, .int .u64 0, .int .u64 A, .int .u64 b, .int .u64 c, .int .u64 D, .int .u64 e, .int .u64 f] := (A5_d.alloc _).keep hb6
  have A6_e : At x7 (x5.heap.size) 27 #[.int .u64 0, .int .u64 0, .int .u64 0, .int .u64 A, .int .u64 b, .int .u64 c, .int .u64 G, .int .u64 h, .int .u64 i] := (A5_e.alloc _).keep hb6
  have A6_f : At x7 (x6.heap.size) 27 #[.int .u64 A, .int .u64 b, .int .u64 c, .int .u64 G, .int .u64 h, .int .u64 i, .int .u64 0, .int .u64 0, .int .u64 0] := (At.new x6 27 #[.int .u64 A, .int .u64 b, .int .u64 c, .int .u64 G, .int .u64 h, .int .u64 i, .int .u64 0, .int .u64 0, .int .u64 0]).keep hb6
  have hB6 : Below w.heap.size w x7 := below_from hB5 hB5.size (below_of hb6)
  have r6_one := A6_one.rd
  have l6_one := A6_one.lt
  have r6_two := A6_two.rd
  have l6_two := A6_two.lt
  have r6_three := A6_three.rd
  have l6_three := A6_three.lt
  have r6_a := A6_a.rd
  have l6_a := A6_a.lt
  have r6_b := A6_b.rd
  have l6_b := A6_b.lt
  have r6_c := A6_c.rd
  have l6_c := A6_c.lt
  have r6_d := A6_d.rd
  have l6_d := A6_d.lt
  have r6_e := A6_e.rd
  have l6_e := A6_e.lt
  have r6_f := A6_f.rd
  have l6_f := A6_f.lt
  clear A5_one A5_two A5_three A5_a A5_b A5_c A5_d A5_e hb6 hB5 r5_one l5_one r5_two l5_two r5_three l5_three r5_a l5_a r5_b l5_b r5_c l5_c r5_d l5_d r5_e l5_e
  go_wp2_with fail
  refine (mine_yes 0 0 0 A b c D e f G h i hD1 _).mono ?_
  rintro e x8 ⟨rfl, hb7⟩
  have A7_one : At x8 (w.heap.size) 25 #[.int .u64 A, .int .u64 b, .int .u64 c] := (A6_one.alloc _).keep hb7
  have A7_two : At x8 (w.heap.size + 1) 25 #[.int .u64 D, .int .u64 e, .int .u64 f] := (A6_two.alloc _).keep hb7
  have A7_three : At x8 (w.heap.size + 1 + 1) 25 #[.int .u64 G, .int .u64 h, .int .u64 i] := (A6_three.alloc _).keep hb7
  have A7_a : At x8 (x1.heap.size) 27 #[.int .u64 0, .int .u64 0, .int .u64 0, .int .u64 A, .int .u64 b, .int .u64 c, .int .u64 0, .int .u64 0, .int .u64 0] := (A6_a.alloc _).keep hb7
  have A7_b : At x8 (x2.heap.size) 27 #[.int .u64 A, .int .u64 b, .int .u64 c, .int .u64 D, .int .u64 e, .int .u64 f, .int .u64 0, .int .u64 0, .int .u64 0] := (A6_b.alloc _).keep hb7
  have A7_c : At x8 (x3.heap.size) 27 #[.int .u64 D, .int .u64 e, .int .u64 f, .int .u64 G, .int .u64 h, .int .u64 i, .int .u64 0, .int .u64 0, .int .u64 0] := (A6_c.alloc _).keep hb7
  have A7_d : At x8 (x4.heap.size) 27 #[.int .u64 0, .int .u64 0, .int .u64 0, .int .u64 A, .int .u64 b, .int .u64 c, .int .u64 D, .int .u64 e, .int .u64 f] := (A6_d.alloc _).keep hb7
  have A7_e : At x8 (x5.heap.size) 27 #[.int .u64 0, .int .u64 0, .int .u64 0, .int .u64 A, .int .u64 b, .int .u64 c, .int .u64 G, .int .u64 h, .int .u64 i] := (A6_e.alloc _).keep hb7
  have A7_f : At x8 (x6.heap.size) 27 #[.int .u64 A, .int .u64 b, .int .u64 c, .int .u64 G, .int .u64 h, .int .u64 i, .int .u64 0, .int .u64 0, .int .u64 0] := (A6_f.alloc _).keep hb7
  have A7_g : At x8 (x7.heap.size) 27 #[.int .u64 A, .int .u64 b, .int .u64 c, .int .u64 G, .int .u64 h, .int .u64 i, .int .u64 0, .int .u64 0, .int .u64 0] := (At.new x7 27 #[.int .u64 A, .int .u64 b, .int .u64 c, .int .u64 G, .int .u64 h, .int .u64 i, .int .u64 0, .int .u64 0, .int .u64 0]).keep hb7
  have hB7 : Below w.heap.size w x8 := below_from hB6 hB6.size (below_of hb7)
  have r7_one := A7_one.rd
  have l7_one := A7_one.lt
  have r7_two := A7_two.rd
  have l7_two := A7_two.lt
  have r7_three := A7_three.rd
  have l7_three := A7_three.lt
  have r7_a := A7_a.rd
  have l7_a := A7_a.lt
  have r7_b := A7_b.rd
  have l7_b := A7_b.lt
  have r7_c := A7_c.rd
  have l7_c := A7_c.lt
  have r7_d := A7_d.rd
  have l7_d := A7_d.lt
  have r7_e := A7_e.rd
  have l7_e := A7_e.lt
  have r7_f := A7_f.rd
  have l7_f := A7_f.lt
  have r7_g := A7_g.rd
  have l7_g := A7_g.lt
  clear A6_one A6_two A6_three A6_a A6_b A6_c A6_d A6_e A6_f hb7 hB6 r6_one l6_one r6_two l6_two r6_three l6_three r6_a l6_a r6_b l6_b r6_c l6_c r6_d l6_d r6_e l6_e r6_f l6_f
  go_wp2_with fail
  refine (fixed_any _).mono ?_
  rintro e x9 ⟨rfl, hb8⟩
  have A8_one : At x9 (w.heap.size) 25 #[.int .u64 A, .int .u64 b, .int .u64 c] := (A7_one.alloc _).keep hb8
  have A8_two : At x9 (w.heap.size + 1) 25 #[.int .u64 D, .int .u64 e, .int .u64 f] := (A7_two.alloc _).keep hb8
  have A8_three : At x9 (w.heap.size + 1 + 1) 25 #[.int .u64 G, .int .u64 h, .int .u64 i] := (A7_three.alloc _).keep hb8
  have A8_a : At x9 (x1.heap.size) 27 #[.int .u64 0, .int .u64 0, .int .u64 0, .int .u64 A, .int .u64 b, .int .u64 c, .int .u64 0, .int .u64 0, .int .u64 0] := (A7_a.alloc _).keep hb8
  have A8_b : At x9 (x2.heap.size) 27 #[.int .u64 A, .int .u64 b, .int .u64 c, .int .u64 D, .int .u64 e, .int .u64 f, .int .u64 0, .int .u64 0, .int .u64 0] := (A7_b.alloc _).keep hb8
  have A8_c : At x9 (x3.heap.size) 27 #[.int .u64 D, .int .u64 e, .int .u64 f, .int .u64 G, .int .u64 h, .int .u64 i, .int .u64 0, .int .u64 0, .int .u64 0] := (A7_c.alloc _).keep hb8
  have A8_d : At x9 (x4.heap.size) 27 #[.int .u64 0, .int .u64 0, .int .u64 0, .int .u64 A, .int .u64 b, .int .u64 c, .int .u64 D, .int .u64 e, .int .u64 f] := (A7_d.alloc _).keep hb8
  have A8_e : At x9 (x5.heap.size) 27 #[.int .u64 0, .int .u64 0, .int .u64 0, .int .u64 A, .int .u64 b, .int .u64 c, .int .u64 G, .int .u64 h, .int .u64 i] := (A7_e.alloc _).keep hb8
  have A8_f : At x9 (x6.heap.size) 27 #[.int .u64 A, .int .u64 b, .int .u64 c, .int .u64 G, .int .u64 h, .int .u64 i, .int .u64 0, .int .u64 0, .int .u64 0] := (A7_f.alloc _).keep hb8
  have A8_g : At x9 (x7.heap.size) 27 #[.int .u64 A, .int .u64 b, .int .u64 c, .int .u64 G, .int .u64 h, .int .u64 i, .int .u64 0, .int .u64 0, .int .u64 0] := (A7_g.alloc _).keep hb8
  have A8_h : At x9 (x8.heap.size) 27 #[.int .u64 D, .int .u64 e, .int .u64 f, .int .u64 G, .int .u64 h, .int .u64 i, .int .u64 0, .int .u64 0, .int .u64 0] := (At.new x8 27 #[.int .u64 D, .int .u64 e, .int .u64 f, .int .u64 G, .int .u64 h, .int .u64 i, .int .u64 0, .int .u64 0, .int .u64 0]).keep hb8
  have hB8 : Below w.heap.size w x9 := below_from hB7 hB7.size (below_of hb8)
  have r8_one := A8_one.rd
  have l8_one := A8_one.lt
  have r8_two := A8_two.rd
  have l8_two := A8_two.lt
  have r8_three := A8_three.rd
  have l8_three := A8_three.lt
  have r8_a := A8_a.rd
  have l8_a := A8_a.lt
  have r8_b := A8_b.rd
  have l8_b := A8_b.lt
  have r8_c := A8_c.rd
  have l8_c := A8_c.lt
  have r8_d := A8_d.rd
  have l8_d := A8_d.lt
  have r8_e := A8_e.rd
  have l8_e := A8_e.lt
  have r8_f := A8_f.rd
  have l8_f := A8_f.lt
  have r8_g := A8_g.rd
  have l8_g := A8_g.lt
  have r8_h := A8_h.rd
  have l8_h := A8_h.lt
  clear A7_one A7_two A7_three A7_a A7_b A7_c A7_d A7_e A7_f A7_g hb8 hB7 r7_one l7_one r7_two l7_two r7_three l7_three r7_a l7_a r7_b l7_b r7_c l7_c r7_d l7_d r7_e l7_e r7_f l7_f r7_g l7_g
  go_wp2
  go_ret
  exact ⟨rfl, hB8⟩
end Go.Proofs.Ytnogfgpdgodalaa
