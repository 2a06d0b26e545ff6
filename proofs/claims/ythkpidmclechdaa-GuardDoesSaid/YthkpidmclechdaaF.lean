/- The contract of fixed. -/
import Derived.Test.YthkpidmclechdaaA
namespace Go.Proofs.Ythkpidmclechdaa
open Go.RowKit
set_option maxHeartbeats 2000000
set_option linter.unusedVariables false

theorem fixed_any (w : World) : Calls Try.prog 15 #[] w fun e w' => e = .returned (.bool true) ∧ Below w.heap.size w w' := by
  go_enter Try.func15, Try.ntmps15
  go_wp2_with fail
  refine (new_ok 2 _ (by omega)).mono ?_
  rintro e w1 ⟨rfl, g1_g, hb0, hlt_g⟩
  have le_g : w.heap.size ≤ w.heap.size := Nat.le_refl _
  have hB1 : Below w.heap.size w w1 := hb0
  clear hb0 hlt_g
  go_wp2_with fail
  refine (new_bad 9 _ (by omega)).mono ?_
  rintro e _ ⟨rfl, rfl⟩
  go_wp2_with fail
  refine (take_is (i := 0) (s := 5) g1_g (by decide)).mono ?_
  rintro e w2 ⟨rfl, g2_g, hg1⟩
  have hB2 : Below w.heap.size w w2 := hB1.grown hg1 hB1.size (fun k e => by cases e; exact le_g)
  clear g1_g hB1 hg1
  go_wp2_with fail
  refine (take_not (i := 0) (s := 5) g2_g 12 (by decide) (by decide)).mono ?_
  rintro e w3 ⟨rfl, hb2⟩
  have g3_g := g2_g.keep hb2
  have hB3 : Below w.heap.size w w3 := below_from hB2 hB2.size hb2
  clear g2_g hB2 hb2
  go_wp2_with fail
  refine (take_is (i := 1) (s := 5) g3_g (by decide)).mono ?_
  rintro e w4 ⟨rfl, g4_g, hg3⟩
  have hB4 : Below w.heap.size w w4 := hB3.grown hg3 hB3.size (fun k e => by cases e; exact le_g)
  clear g3_g hB3 hg3
  go_wp2_with fail
  refine (take_not (i := 2) (s := 5) g4_g 5 (by decide) (by decide)).mono ?_
  rintro e w5 ⟨rfl, hb4⟩
  have g5_g := g4_g.keep hb4
  have hB5 : Below w.heap.size w w5 := below_from hB4 hB4.size hb4
  clear g4_g hB4 hb4
  go_wp2_with fail
  refine (can_is (i := 0) (s := 6) g5_g 0 (by decide)).mono ?_
  rintro e w6 ⟨rfl, hb5⟩
  have g6_g := g5_g.keep hb5
  have hB6 : Below w.heap.size w w6 := below_from hB5 hB5.size hb5
  clear g5_g hB5 hb5
  go_wp2_with fail
  refine (take_not (i := 0) (s := 4) g6_g 12 (by decide) (by decide)).mono ?_
  rintro e w7 ⟨rfl, hb6⟩
  have g7_g := g6_g.keep hb6
  have hB7 : Below w.heap.size w w7 := below_from hB6 hB6.size hb6
  clear g6_g hB6 hb6
  go_wp2_with fail
  refine (last_is (i := 0) g7_g 5 (by decide)).mono ?_
  rintro e w8 ⟨rfl, hb7⟩
  have g8_g := g7_g.keep hb7
  have hB8 : Below w.heap.size w w8 := below_from hB7 hB7.size hb7
  clear g7_g hB7 hb7
  go_wp2_with fail
  refine (take_is (i := 0) (s := 6) g8_g (by decide)).mono ?_
  rintro e w9 ⟨rfl, g9_g, hg8⟩
  have hB9 : Below w.heap.size w w9 := hB8.grown hg8 hB8.size (fun k e => by cases e; exact le_g)
  clear g8_g hB8 hg8
  go_wp2_with fail
  refine (last_is (i := 0) g9_g 6 (by decide)).mono ?_
  rintro e w10 ⟨rfl, hb9⟩
  have g10_g := g9_g.keep hb9
  have hB10 : Below w.heap.size w w10 := below_from hB9 hB9.size hb9
  clear g9_g hB9 hb9
  go_wp2_with fail
  refine (last_not (i := 7) g10_g (by decide)).mono ?_
  rintro e w11 ⟨rfl, hb10⟩
  have g11_g := g10_g.keep hb10
  have hB11 : Below w.heap.size w w11 := below_from hB10 hB10.size hb10
  clear g10_g hB10 hb10
  go_wp2_with fail
  refine (new_ok 1 _ (by omega)).mono ?_
  rintro e w12 ⟨rfl, g12_k, hb11, hlt_k⟩
  have g12_g := g11_g.keep hb11
  have ne_g_k : w.heap.size ≠ w11.heap.size := Nat.ne_of_lt (lt_of g11_g.hp)
  have le_k : w.heap.size ≤ w11.heap.size := hB11.size
  have hB12 : Below w.heap.size w w12 := below_from hB11 hB11.size hb11
  clear g11_g hB11 hb11 hlt_k
  go_wp2_with fail
  refine (take_is (i := 0) (s := 0) g12_k (by decide)).mono ?_
  rintro e w13 ⟨rfl, g13_k, hg12⟩
  have g13_g := g12_g.other g12_k ne_g_k hg12
  have hB13 : Below w.heap.size w w13 := hB12.grown hg12 hB12.size (fun k e => by cases e; exact le_k)
  clear g12_g g12_k hB12 hg12
  go_wp2_with fail
  refine (can_is (i := 0) (s := 0) g13_k 12 (by decide)).mono ?_
  rintro e w14 ⟨rfl, hb13⟩
  have g14_g := g13_g.keep hb13
  have g14_k := g13_k.keep hb13
  have hB14 : Below w.heap.size w w14 := below_from hB13 hB13.size hb13
  clear g13_g g13_k hB13 hb13
  go_wp2
  go_ret
  exact ⟨rfl, hB14⟩

end Go.Proofs.Ythkpidmclechdaa
