/- The contract of fixed. -/
import Derived.Test.YtnogfgpdgodalaaG
import Derived.Deep.DeepCutAuto
namespace Go.Proofs.Ytnogfgpdgodalaa
open Go.RowKit
set_option maxHeartbeats 2000000
set_option maxRecDepth 100000
set_option linter.unusedVariables false

theorem fx_find2 (w : World) : Calls Try.prog 10 #[.agg #[.int .u64 0, .int .u64 0, .int .u64 0, .int .u64 1, .int .u64 0, .int .u64 5, .int .u64 2, .int .u64 9, .int .u64 6], .int .u64 2] w fun e w' => e = .returned (.tuple #[.agg #[.int .u64 2, .int .u64 9, .int .u64 6], .bool true]) ∧ Below w.heap.size w w' :=
  (find_any ⟨0, 0, 0⟩ ⟨1, 0, 5⟩ ⟨2, 9, 6⟩ 2 w).mono fun e w' h => ⟨h.1, h.2⟩
theorem fx_find0 (w : World) : Calls Try.prog 10 #[.agg #[.int .u64 0, .int .u64 0, .int .u64 0, .int .u64 1, .int .u64 0, .int .u64 5, .int .u64 2, .int .u64 9, .int .u64 6], .int .u64 0] w fun e w' => e = .returned (.tuple #[.agg #[.int .u64 0, .int .u64 0, .int .u64 0], .bool false]) ∧ Below w.heap.size w w' :=
  (find_any ⟨0, 0, 0⟩ ⟨1, 0, 5⟩ ⟨2, 9, 6⟩ 0 w).mono fun e w' h => ⟨h.1, h.2⟩
theorem fx_exp (w : World) : Calls Try.prog 13 #[.agg #[.int .u64 0, .int .u64 0, .int .u64 0, .int .u64 1, .int .u64 0, .int .u64 5, .int .u64 2, .int .u64 9, .int .u64 6], .int .u64 16, .int .u64 10] w fun e w' => e = .returned (.agg #[.int .u64 0, .int .u64 0, .int .u64 0, .int .u64 0, .int .u64 0, .int .u64 0, .int .u64 2, .int .u64 9, .int .u64 6]) ∧ Below w.heap.size w w' :=
  (expire_any ⟨0, 0, 0⟩ ⟨1, 0, 5⟩ ⟨2, 9, 6⟩ 16 10 w (by decide) (by decide) (by decide) (by decide) (by decide)).mono fun e w' h => ⟨h.1, h.2⟩
def FxAll (w : World) (e : Ending) (w' : World) : Prop := ∃ a cap, e = .returned (.slice a 2 cap) ∧ Reads w' a [⟨2, 9, 6⟩, ⟨1, 0, 5⟩] ∧ Below w.heap.size w w'
theorem fx_all (w : World) : Calls Try.prog 11 #[.agg #[.int .u64 1, .int .u64 0, .int .u64 5, .int .u64 2, .int .u64 9, .int .u64 6, .int .u64 0, .int .u64 0, .int .u64 0]] w (FxAll w) :=
  (all_any ⟨1, 0, 5⟩ ⟨2, 9, 6⟩ ⟨0, 0, 0⟩ w).mono fun e w' h => by
    obtain ⟨v, he, hown, hb⟩ := h
    obtain ⟨a, cap, rfl, hr⟩ := reads_of hown
    exact ⟨a, cap, he, hr, hb⟩
theorem fx_refs (a : Option Addr) (cap : Nat) (w : World) (r : Reads w a [⟨2, 9, 6⟩, ⟨1, 0, 5⟩]) : Calls Try.prog 17 #[.slice a 2 cap] w (FxAll w) :=
  (refs_any a cap [⟨2, 9, 6⟩, ⟨1, 0, 5⟩] w r (by decide)).mono fun e w' h => by
    obtain ⟨v, he, hown, hb⟩ := h
    obtain ⟨a, cap, rfl, hr⟩ := reads_of hown
    exact ⟨a, cap, he, hr, hb⟩

theorem fx_lit (W : World) : Reads (W.alloc (Obj.cells #[.int .u64 2, .int .u64 9, .int .u64 6, .int .u64 1, .int .u64 0, .int .u64 5] 45)) (some ⟨W.heap.size, 0, none⟩) [⟨2, 9, 6⟩, ⟨1, 0, 5⟩] := by
  intro k hk
  have h := (At.new W 45 #[.int .u64 2, .int .u64 9, .int .u64 6, .int .u64 1, .int .u64 0, .int .u64 5]).rd
  refine ⟨W.heap.size, rfl, by simp, ?_⟩
  rcases (by simp at hk; omega : k = 0 ∨ k = 1) with rfl | rfl
  · exact ⟨h 0, h 1, h 2⟩
  · exact ⟨h 3, h 4, h 5⟩
theorem fx_same (a : Option Addr) (cap : Nat) (W : World) (r : Reads W a [⟨2, 9, 6⟩, ⟨1, 0, 5⟩]) :
    Calls Try.prog 16 #[.slice a 2 cap, .slice (some ⟨W.heap.size, 0, none⟩) 2 2] (W.alloc (Obj.cells #[.int .u64 2, .int .u64 9, .int .u64 6, .int .u64 1, .int .u64 0, .int .u64 5] 45)) fun e w' => e = .returned (.bool true) ∧ Below (W.alloc (Obj.cells #[.int .u64 2, .int .u64 9, .int .u64 6, .int .u64 1, .int .u64 0, .int .u64 5] 45)).heap.size (W.alloc (Obj.cells #[.int .u64 2, .int .u64 9, .int .u64 6, .int .u64 1, .int .u64 0, .int .u64 5] 45)) w' :=
  same_yes a _ cap 2 [⟨2, 9, 6⟩, ⟨1, 0, 5⟩] _ (r.keep ((Below.refl _ _).alloc (Nat.le_refl _) _)) (fx_lit W) (by decide)
def fxL (w : World) : List (Nat × TypeId × Array Value) := [(w.heap.size, 25, #[.int .u64 1, .int .u64 0, .int .u64 5]), (w.heap.size + 1, 25, #[.int .u64 2, .int .u64 9, .int .u64 6]), (w.heap.size + 1 + 1, 25, #[.int .u64 3, .int .u64 0, .int .u64 7])]
theorem fx_start (w : World) : Mem w.heap.size w (((w.alloc (Obj.cells #[.int .u64 1, .int .u64 0, .int .u64 5] 25)).alloc (Obj.cells #[.int .u64 2, .int .u64 9, .int .u64 6] 25)).alloc (Obj.cells #[.int .u64 3, .int .u64 0, .int .u64 7] 25)) (fxL w) ∧
    (((w.alloc (Obj.cells #[.int .u64 1, .int .u64 0, .int .u64 5] 25)).alloc (Obj.cells #[.int .u64 2, .int .u64 9, .int .u64 6] 25)).alloc (Obj.cells #[.int .u64 3, .int .u64 0, .int .u64 7] 25)).heap.size = w.heap.size + 3 := by
  refine ⟨.cons (((At.new _ _ _).alloc _).alloc _) (.cons ((at_new1 _ _ _ _).alloc _) (.cons ?_ (.nil (by go_grown)))), by simp⟩
  have h := At.new ((w.alloc (Obj.cells #[.int .u64 1, .int .u64 0, .int .u64 5] 25)).alloc (Obj.cells #[.int .u64 2, .int .u64 9, .int .u64 6] 25)) 25 #[.int .u64 3, .int .u64 0, .int .u64 7]
  simp only [World.size_alloc] at h
  exact h
theorem fx_far (w : World) (b : Nat) (h : w.heap.size + 3 ≤ b) : ∀ x ∈ fxL w, x.1 ≠ b := by
  intro x hx
  simp only [fxL, List.mem_cons, List.not_mem_nil, or_false] at hx
  rcases hx with rfl | rfl | rfl <;> simp only [] <;> omega
theorem fx_S {w W : World} (m : Mem w.heap.size w W (fxL w)) : W.cell? ⟨w.heap.size, 0, none⟩ = some (.int .u64 1) ∧ W.cell? ⟨w.heap.size, 1, none⟩ = some (.int .u64 0) ∧ W.cell? ⟨w.heap.size, 2, none⟩ = some (.int .u64 5) ∧ W.cell? ⟨w.heap.size + 1, 0, none⟩ = some (.int .u64 2) ∧ W.cell? ⟨w.heap.size + 1, 1, none⟩ = some (.int .u64 9) ∧ W.cell? ⟨w.heap.size + 1, 2, none⟩ = some (.int .u64 6) :=
  ⟨m.hd.rd 0, m.hd.rd 1, m.hd.rd 2, m.tl.hd.rd 0, m.tl.hd.rd 1, m.tl.hd.rd 2⟩

theorem fixed_any (w : World) : Calls Try.prog 12 #[] w fun e w' => e = .returned (.bool true) ∧ Below w.heap.size w w' := by
  go_enter Try.func12, Try.ntmps12
  go_upto_region 2 with (fail)
  go_cut [4] (fun s4 wx => ∃ p : Nat, s4 = .pointer (some ⟨p, 0, none⟩) ∧ w.heap.size + 3 ≤ p ∧ At wx p 27 #[.int .u64 0, .int .u64 0, .int .u64 0, .int .u64 1, .int .u64 0, .int .u64 5, .int .u64 2, .int .u64 9, .int .u64 6] ∧ Mem w.heap.size w wx (fxL w))
  case first =>
    have hM := fx_start w
    generalize ((w.alloc (Obj.cells #[.int .u64 1, .int .u64 0, .int .u64 5] 25)).alloc (Obj.cells #[.int .u64 2, .int .u64 9, .int .u64 6] 25)).alloc (Obj.cells #[.int .u64 3, .int .u64 0, .int .u64 7] 25) = wr at hM ⊢
    obtain ⟨hM, hz⟩ := hM
    obtain ⟨s0, s1, s2, s3, s4, s5⟩ := fx_S hM
    have n0 : w.heap.size ≠ wr.heap.size := by omega
    have n1 : w.heap.size + 1 ≠ wr.heap.size := by omega
    have hz' : w.heap.size + 3 ≤ wr.heap.size := by omega
    clear hz
    go_region_held3 (fun W => W.cell? ⟨w.heap.size, 0, none⟩ = some (.int .u64 1) ∧ W.cell? ⟨w.heap.size, 1, none⟩ = some (.int .u64 0) ∧ W.cell? ⟨w.heap.size, 2, none⟩ = some (.int .u64 5) ∧ W.cell? ⟨w.heap.size + 1, 0, none⟩ = some (.int .u64 2) ∧ W.cell? ⟨w.heap.size + 1, 1, none⟩ = some (.int .u64 9) ∧ W.cell? ⟨w.heap.size + 1, 2, none⟩ = some (.int .u64 6) ∧ Below wr.heap.size wr W ∧ wr.heap.size ≤ W.heap.size)
      (((repeat (first | (with_reducible assumption) | (with_reducible exact ⟨s0, s1, s2, s3, s4, s5, Below.refl _ _, Nat.le_refl _⟩) | (with_reducible refine hold6D ?_) | (with_reducible refine hold6A ?_ _) | ((with_reducible refine hold6S ?_ ?_ ?_ ?_ ?_ ?_ ?_ ?_); rotate_left 1; iterate 7 (first | omega | (simp only [World.size_alloc, World.size_drew]; omega))))); done))
      (first
        | (go_at_call 7; (with_reducible refine (mine_no _ _ _ _ _ _ _ _ _ _ _ _).mono ?_); rintro e w1 ⟨rfl, hb1⟩; obtain ⟨hc1, hf1⟩ := bcell hb1; have p1 := hb1.size; (try simp only [World.size_alloc, World.size_drew] at p1); (first | (have z1 : wr.heap.size < w1.heap.size := by omega) | skip); have hs1 := hold6 (by with_reducible assumption) hb1; have q1 := hs1.2.2.2.2.2.2.2)
        | (go_at_call 8; (with_reducible refine (theirs_any _ _ _ _ _ _ _ _ _ _ _ _ _).mono ?_); rintro e w2 ⟨rfl, hb2⟩; obtain ⟨hc2, hf2⟩ := bcell hb2; have p2 := hb2.size; (try simp only [World.size_alloc] at p2); (first | (have z2 : w1.heap.size < w2.heap.size := by omega) | skip); (first | (have z3 : wr.heap.size < w2.heap.size := by omega) | skip); have hs2 := hold6 (by with_reducible assumption) hb2; have q2 := hs2.2.2.2.2.2.2.2))
    · go_wp2_with fail
      go_meet
      exact ⟨w2.heap.size, rfl, by omega, At.new _ _ _, (((hM.drew).keep hb1).keep hb2).alloc _⟩
    · go_wp2_with fail
      go_meet
      refine ⟨w1.heap.size, rfl, by omega, by simpa using ((((((((((At.new w1 27 #[.int .u64 0, .int .u64 0, .int .u64 0, .int .u64 0, .int .u64 0, .int .u64 0, .int .u64 0, .int .u64 0, .int .u64 0]).keep hb2).set (o := 0) (v := .int .u64 0)).set (o := 1) (v := .int .u64 0)).set (o := 2) (v := .int .u64 0)).set (o := 3) (v := .int .u64 1)).set (o := 4) (v := .int .u64 0)).set (o := 5) (v := .int .u64 5)).set (o := 6) (v := .int .u64 2)).set (o := 7) (v := .int .u64 9)).set (o := 8) (v := .int .u64 6), ?_⟩
      have hfar := fx_far w w1.heap.size (by omega)
      repeat (refine Mem.far ?_ (by omega) hfar)
      exact ((((hM.drew).keep hb1).alloc _).keep hb2)
    · go_wp2_with fail
      go_meet
      refine ⟨wr.heap.size, rfl, by omega, ?_, ?_⟩
      · have h0 : At w2 wr.heap.size 27 #[.int .u64 0, .int .u64 0, .int .u64 0, .int .u64 0, .int .u64 0, .int .u64 0, .int .u64 0, .int .u64 0, .int .u64 0] := by
          refine At.keep (At.keep ?_ hb1) hb2
          first | exact At.new _ _ _ | exact (At.new _ _ _).keep ((Below.refl _ _).drew)
        simpa using (((((((((h0).set (o := 0) (v := .int .u64 0)).set (o := 1) (v := .int .u64 0)).set (o := 2) (v := .int .u64 0)).set (o := 3) (v := .int .u64 1)).set (o := 4) (v := .int .u64 0)).set (o := 5) (v := .int .u64 5)).set (o := 6) (v := .int .u64 2)).set (o := 7) (v := .int .u64 9)).set (o := 8) (v := .int .u64 6)
      · have hfar := fx_far w wr.heap.size (by omega)
        repeat (refine Mem.far ?_ (by omega) hfar)
        refine Mem.keep (Mem.keep ?_ hb1) hb2
        first | exact hM.drew.alloc _ | exact (hM.alloc _).drew
  case rest =>
    obtain ⟨p, rfl, hp, A_a, hM⟩ := hcut
    have A_one := hM.hd
    have A_two := hM.tl.hd
    have A_three := hM.tl.tl.hd
    have hB := hM.below
    clear hM hp
    have r_one := A_one.rd
    have r_two := A_two.rd
    have r_three := A_three.rd
    have r_a := A_a.rd
    have l_one := A_one.lt
    have l_two := A_two.lt
    have l_three := A_three.lt
    have l_a := A_a.lt
    go_wp2_with fail
    refine (heard_yes 0 0 0 1 0 5 2 9 6 (by decide) _).mono ?_
    rintro e x1 ⟨rfl, hb0⟩
    have A0_one : At x1 (w.heap.size) 25 #[.int .u64 1, .int .u64 0, .int .u64 5] := A_one.keep hb0
    have A0_two : At x1 (w.heap.size + 1) 25 #[.int .u64 2, .int .u64 9, .int .u64 6] := A_two.keep hb0
    have A0_three : At x1 (w.heap.size + 1 + 1) 25 #[.int .u64 3, .int .u64 0, .int .u64 7] := A_three.keep hb0
    have A0_a : At x1 (p) 27 #[.int .u64 0, .int .u64 0, .int .u64 0, .int .u64 1, .int .u64 0, .int .u64 5, .int .u64 2, .int .u64 9, .int .u64 6] := A_a.keep hb0
    have hB0 : Below w.heap.size w x1 := below_from hB hB.size hb0
    have r0_one := A0_one.rd
    have l0_one := A0_one.lt
    have r0_two := A0_two.rd
    have l0_two := A0_two.lt
    have r0_three := A0_three.rd
    have l0_three := A0_three.lt
    have r0_a := A0_a.rd
    have l0_a := A0_a.lt
    clear A_one A_two A_three A_a hb0 hB r_one r_two r_three r_a l_one l_two l_three l_a
    go_wp2_with fail
    refine (mine_no 1 0 5 2 9 6 0 0 3 0 7 _).mono ?_
    rintro e x2 ⟨rfl, hb1⟩
    have A1_one : At x2 (w.heap.size) 25 #[.int .u64 1, .int .u64 0, .int .u64 5] := (A0_one.alloc _).keep hb1
    have A1_two : At x2 (w.heap.size + 1) 25 #[.int .u64 2, .int .u64 9, .int .u64 6] := (A0_two.alloc _).keep hb1
    have A1_three : At x2 (w.heap.size + 1 + 1) 25 #[.int .u64 3, .int .u64 0, .int .u64 7] := (A0_three.alloc _).keep hb1
    have A1_a : At x2 (p) 27 #[.int .u64 0, .int .u64 0, .int .u64 0, .int .u64 1, .int .u64 0, .int .u64 5, .int .u64 2, .int .u64 9, .int .u64 6] := (A0_a.alloc _).keep hb1
    have A1_b : At x2 (x1.heap.size) 27 #[.int .u64 1, .int .u64 0, .int .u64 5, .int .u64 2, .int .u64 9, .int .u64 6, .int .u64 0, .int .u64 0, .int .u64 0] := (At.new x1 27 #[.int .u64 1, .int .u64 0, .int .u64 5, .int .u64 2, .int .u64 9, .int .u64 6, .int .u64 0, .int .u64 0, .int .u64 0]).keep hb1
    have hB1 : Below w.heap.size w x2 := below_from hB0 hB0.size (below_of hb1)
    have r1_one := A1_one.rd
    have l1_one := A1_one.lt
    have r1_two := A1_two.rd
    have l1_two := A1_two.lt
    have r1_three := A1_three.rd
    have l1_three := A1_three.lt
    have r1_a := A1_a.rd
    have l1_a := A1_a.lt
    have r1_b := A1_b.rd
    have l1_b := A1_b.lt
    clear A0_one A0_two A0_three A0_a hb1 hB0 r0_one l0_one r0_two l0_two r0_three l0_three r0_a l0_a
    go_wp2_with fail
    refine (mine_yes 0 0 0 1 0 5 2 9 6 3 0 7 (by decide) _).mono ?_
    rintro e x3 ⟨rfl, hb2⟩
    have A2_one : At x3 (w.heap.size) 25 #[.int .u64 1, .int .u64 0, .int .u64 5] := (A1_one.alloc _).keep hb2
    have A2_two : At x3 (w.heap.size + 1) 25 #[.int .u64 2, .int .u64 9, .int .u64 6] := (A1_two.alloc _).keep hb2
    have A2_three : At x3 (w.heap.size + 1 + 1) 25 #[.int .u64 3, .int .u64 0, .int .u64 7] := (A1_three.alloc _).keep hb2
    have A2_a : At x3 (p) 27 #[.int .u64 0, .int .u64 0, .int .u64 0, .int .u64 1, .int .u64 0, .int .u64 5, .int .u64 2, .int .u64 9, .int .u64 6] := (A1_a.alloc _).keep hb2
    have A2_b : At x3 (x1.heap.size) 27 #[.int .u64 1, .int .u64 0, .int .u64 5, .int .u64 2, .int .u64 9, .int .u64 6, .int .u64 0, .int .u64 0, .int .u64 0] := (A1_b.alloc _).keep hb2
    have A2_c : At x3 (x2.heap.size) 27 #[.int .u64 2, .int .u64 9, .int .u64 6, .int .u64 3, .int .u64 0, .int .u64 7, .int .u64 0, .int .u64 0, .int .u64 0] := (At.new x2 27 #[.int .u64 2, .int .u64 9, .int .u64 6, .int .u64 3, .int .u64 0, .int .u64 7, .int .u64 0, .int .u64 0, .int .u64 0]).keep hb2
    have hB2 : Below w.heap.size w x3 := below_from hB1 hB1.size (below_of hb2)
    have r2_one := A2_one.rd
    have l2_one := A2_one.lt
    have r2_two := A2_two.rd
    have l2_two := A2_two.lt
    have r2_three := A2_three.rd
    have l2_three := A2_three.lt
    have r2_a := A2_a.rd
    have l2_a := A2_a.lt
    have r2_b := A2_b.rd
    have l2_b := A2_b.lt
    have r2_c := A2_c.rd
    have l2_c := A2_c.lt
    clear A1_one A1_two A1_three A1_a A1_b hb2 hB1 r1_one l1_one r1_two l1_two r1_three l1_three r1_a l1_a r1_b l1_b
    go_wp2_with fail
    refine (fx_find2 _).mono ?_
    rintro e x4 ⟨rfl, hb3⟩
    have A3_one : At x4 (w.heap.size) 25 #[.int .u64 1, .int .u64 0, .int .u64 5] := (A2_one.alloc _).keep hb3
    have A3_two : At x4 (w.heap.size + 1) 25 #[.int .u64 2, .int .u64 9, .int .u64 6] := (A2_two.alloc _).keep hb3
    have A3_three : At x4 (w.heap.size + 1 + 1) 25 #[.int .u64 3, .int .u64 0, .int .u64 7] := (A2_three.alloc _).keep hb3
    have A3_a : At x4 (p) 27 #[.int .u64 0, .int .u64 0, .int .u64 0, .int .u64 1, .int .u64 0, .int .u64 5, .int .u64 2, .int .u64 9, .int .u64 6] := (A2_a.alloc _).keep hb3
    have A3_b : At x4 (x1.heap.size) 27 #[.int .u64 1, .int .u64 0, .int .u64 5, .int .u64 2, .int .u64 9, .int .u64 6, .int .u64 0, .int .u64 0, .int .u64 0] := (A2_b.alloc _).keep hb3
    have A3_c : At x4 (x2.heap.size) 27 #[.int .u64 2, .int .u64 9, .int .u64 6, .int .u64 3, .int .u64 0, .int .u64 7, .int .u64 0, .int .u64 0, .int .u64 0] := (A2_c.alloc _).keep hb3
    have A3_d : At x4 (x3.heap.size) 27 #[.int .u64 2, .int .u64 9, .int .u64 6, .int .u64 3, .int .u64 0, .int .u64 7, .int .u64 0, .int .u64 0, .int .u64 0] := (At.new x3 27 #[.int .u64 2, .int .u64 9, .int .u64 6, .int .u64 3, .int .u64 0, .int .u64 7, .int .u64 0, .int .u64 0, .int .u64 0]).keep hb3
    have hB3 : Below w.heap.size w x4 := below_from hB2 hB2.size (below_of hb3)
    have r3_one := A3_one.rd
    have l3_one := A3_one.lt
    have r3_two := A3_two.rd
    have l3_two := A3_two.lt
    have r3_three := A3_three.rd
    have l3_three := A3_three.lt
    have r3_a := A3_a.rd
    have l3_a := A3_a.lt
    have r3_b := A3_b.rd
    have l3_b := A3_b.lt
    have r3_c := A3_c.rd
    have l3_c := A3_c.lt
    have r3_d := A3_d.rd
    have l3_d := A3_d.lt
    clear A2_one A2_two A2_three A2_a A2_b A2_c hb3 hB2 r2_one l2_one r2_two l2_two r2_three l2_three r2_a l2_a r2_b l2_b r2_c l2_c
    go_wp2_with fail
    refine (fx_find0 _).mono ?_
    rintro e x5 ⟨rfl, hb4⟩
    have A4_one : At x5 (w.heap.size) 25 #[.int .u64 1, .int .u64 0, .int .u64 5] := (A3_one.alloc _).keep hb4
    have A4_two : At x5 (w.heap.size + 1) 25 #[.int .u64 2, .int .u64 9, .int .u64 6] := (A3_two.alloc _).keep hb4
    have A4_three : At x5 (w.heap.size + 1 + 1) 25 #[.int .u64 3, .int .u64 0, .int .u64 7] := (A3_three.alloc _).keep hb4
    have A4_a : At x5 (p) 27 #[.int .u64 0, .int .u64 0, .int .u64 0, .int .u64 1, .int .u64 0, .int .u64 5, .int .u64 2, .int .u64 9, .int .u64 6] := (A3_a.alloc _).keep hb4
    have A4_b : At x5 (x1.heap.size) 27 #[.int .u64 1, .int .u64 0, .int .u64 5, .int .u64 2, .int .u64 9, .int .u64 6, .int .u64 0, .int .u64 0, .int .u64 0] := (A3_b.alloc _).keep hb4
    have A4_c : At x5 (x2.heap.size) 27 #[.int .u64 2, .int .u64 9, .int .u64 6, .int .u64 3, .int .u64 0, .int .u64 7, .int .u64 0, .int .u64 0, .int .u64 0] := (A3_c.alloc _).keep hb4
    have A4_d : At x5 (x3.heap.size) 27 #[.int .u64 2, .int .u64 9, .int .u64 6, .int .u64 3, .int .u64 0, .int .u64 7, .int .u64 0, .int .u64 0, .int .u64 0] := (A3_d.alloc _).keep hb4
    have A4_x : At x5 (x4.heap.size) 25 #[.int .u64 2, .int .u64 9, .int .u64 6] := (At.new x4 25 #[.int .u64 2, .int .u64 9, .int .u64 6]).keep hb4
    have hB4 : Below w.heap.size w x5 := below_from hB3 hB3.size (below_of hb4)
    have r4_one := A4_one.rd
    have l4_one := A4_one.lt
    have r4_two := A4_two.rd
    have l4_two := A4_two.lt
    have r4_three := A4_three.rd
    have l4_three := A4_three.lt
    have r4_a := A4_a.rd
    have l4_a := A4_a.lt
    have r4_b := A4_b.rd
    have l4_b := A4_b.lt
    have r4_c := A4_c.rd
    have l4_c := A4_c.lt
    have r4_d := A4_d.rd
    have l4_d := A4_d.lt
    have r4_x := A4_x.rd
    have l4_x := A4_x.lt
    clear A3_one A3_two A3_three A3_a A3_b A3_c A3_d hb4 hB3 r3_one l3_one r3_two l3_two r3_three l3_three r3_a l3_a r3_b l3_b r3_c l3_c r3_d l3_d
    go_wp2_with fail
    refine (fx_exp _).mono ?_
    rintro e x6 ⟨rfl, hb5⟩
    have A5_one : At x6 (w.heap.size) 25 #[.int .u64 1, .int .u64 0, .int .u64 5] := (A4_one.alloc _).keep hb5
    have A5_two : At x6 (w.heap.size + 1) 25 #[.int .u64 2, .int .u64 9, .int .u64 6] := (A4_two.alloc _).keep hb5
    have A5_three : At x6 (w.heap.size + 1 + 1) 25 #[.int .u64 3, .int .u64 0, .int .u64 7] := (A4_three.alloc _).keep hb5
    have A5_a : At x6 (p) 27 #[.int .u64 0, .int .u64 0, .int .u64 0, .int .u64 1, .int .u64 0, .int .u64 5, .int .u64 2, .int .u64 9, .int .u64 6] := (A4_a.alloc _).keep hb5
    have A5_b : At x6 (x1.heap.size) 27 #[.int .u64 1, .int .u64 0, .int .u64 5, .int .u64 2, .int .u64 9, .int .u64 6, .int .u64 0, .int .u64 0, .int .u64 0] := (A4_b.alloc _).keep hb5
    have A5_c : At x6 (x2.heap.size) 27 #[.int .u64 2, .int .u64 9, .int .u64 6, .int .u64 3, .int .u64 0, .int .u64 7, .int .u64 0, .int .u64 0, .int .u64 0] := (A4_c.alloc _).keep hb5
    have A5_d : At x6 (x3.heap.size) 27 #[.int .u64 2, .int .u64 9, .int .u64 6, .int .u64 3, .int .u64 0, .int .u64 7, .int .u64 0, .int .u64 0, .int .u64 0] := (A4_d.alloc _).keep hb5
    have A5_x : At x6 (x4.heap.size) 25 #[.int .u64 2, .int .u64 9, .int .u64 6] := (A4_x.alloc _).keep hb5
    have A5_y : At x6 (x5.heap.size) 25 #[.int .u64 0, .int .u64 0, .int .u64 0] := (At.new x5 25 #[.int .u64 0, .int .u64 0, .int .u64 0]).keep hb5
    have hB5 : Below w.heap.size w x6 := below_from hB4 hB4.size (below_of hb5)
    have r5_one := A5_one.rd
    have l5_one := A5_one.lt
    have r5_two := A5_two.rd
    have l5_two := A5_two.lt
    have r5_three := A5_three.rd
    have l5_three := A5_three.lt
    have r5_a := A5_a.rd
    have l5_a := A5_a.lt
    have r5_b := A5_b.rd
    have l5_b := A5_b.lt
    have r5_c := A5_c.rd
    have l5_c := A5_c.lt
    have r5_d := A5_d.rd
    have l5_d := A5_d.lt
    have r5_x := A5_x.rd
    have l5_x := A5_x.lt
    have r5_y := A5_y.rd
    have l5_y := A5_y.lt
    clear A4_one A4_two A4_three A4_a A4_b A4_c A4_d A4_x hb5 hB4 r4_one l4_one r4_two l4_two r4_three l4_three r4_a l4_a r4_b l4_b r4_c l4_c r4_d l4_d r4_x l4_x
    go_wp2_with fail
    have mm : Mem w.heap.size w (x6.alloc (Obj.cells #[.int .u64 0, .int .u64 0, .int .u64 0, .int .u64 0, .int .u64 0, .int .u64 0, .int .u64 2, .int .u64 9, .int .u64 6] 27)) [(w.heap.size, 25, #[.int .u64 1, .int .u64 0, .int .u64 5]), (w.heap.size + 1, 25, #[.int .u64 2, .int .u64 9, .int .u64 6]), (w.heap.size + 1 + 1, 25, #[.int .u64 3, .int .u64 0, .int .u64 7]), (p, 27, #[.int .u64 0, .int .u64 0, .int .u64 0, .int .u64 1, .int .u64 0, .int .u64 5, .int .u64 2, .int .u64 9, .int .u64 6]), (x1.heap.size, 27, #[.int .u64 1, .int .u64 0, .int .u64 5, .int .u64 2, .int .u64 9, .int .u64 6, .int .u64 0, .int .u64 0, .int .u64 0]), (x2.heap.size, 27, #[.int .u64 2, .int .u64 9, .int .u64 6, .int .u64 3, .int .u64 0, .int .u64 7, .int .u64 0, .int .u64 0, .int .u64 0]), (x3.heap.size, 27, #[.int .u64 2, .int .u64 9, .int .u64 6, .int .u64 3, .int .u64 0, .int .u64 7, .int .u64 0, .int .u64 0, .int .u64 0]), (x4.heap.size, 25, #[.int .u64 2, .int .u64 9, .int .u64 6]), (x5.heap.size, 25, #[.int .u64 0, .int .u64 0, .int .u64 0]), (x6.heap.size, 27, #[.int .u64 0, .int .u64 0, .int .u64 0, .int .u64 0, .int .u64 0, .int .u64 0, .int .u64 2, .int .u64 9, .int .u64 6])] := Mem.cons (A5_one.alloc _) (Mem.cons (A5_two.alloc _) (Mem.cons (A5_three.alloc _) (Mem.cons (A5_a.alloc _) (Mem.cons (A5_b.alloc _) (Mem.cons (A5_c.alloc _) (Mem.cons (A5_d.alloc _) (Mem.cons (A5_x.alloc _) (Mem.cons (A5_y.alloc _) (Mem.cons (At.new x6 27 #[.int .u64 0, .int .u64 0, .int .u64 0, .int .u64 0, .int .u64 0, .int .u64 0, .int .u64 2, .int .u64 9, .int .u64 6]) (Mem.nil (hB5.alloc hB5.size (Obj.cells #[.int .u64 0, .int .u64 0, .int .u64 0, .int .u64 0, .int .u64 0, .int .u64 0, .int .u64 2, .int .u64 9, .int .u64 6] 27))))))))))))
    clear r5_one l5_one r5_two l5_two r5_three l5_three r5_a l5_a r5_b l5_b r5_c l5_c r5_d l5_d r5_x l5_x r5_y l5_y A5_one A5_two A5_three A5_a A5_b A5_c A5_d A5_x A5_y hB5
    generalize x6.alloc (Obj.cells #[.int .u64 0, .int .u64 0, .int .u64 0, .int .u64 0, .int .u64 0, .int .u64 0, .int .u64 2, .int .u64 9, .int .u64 6] 27) = W0 at mm ⊢
    have r0 := (mm.hd).rd
    have r1 := (mm.tl.hd).rd
    have r2 := (mm.tl.tl.hd).rd
    have r3 := (mm.tl.tl.tl.hd).rd
    have r4 := (mm.tl.tl.tl.tl.hd).rd
    have r5 := (mm.tl.tl.tl.tl.tl.hd).rd
    have r6 := (mm.tl.tl.tl.tl.tl.tl.hd).rd
    have r7 := (mm.tl.tl.tl.tl.tl.tl.tl.hd).rd
    have r8 := (mm.tl.tl.tl.tl.tl.tl.tl.tl.hd).rd
    have r9 := (mm.tl.tl.tl.tl.tl.tl.tl.tl.tl.hd).rd
    simp only [List.append]
    go_region_held3 (fun W => (∀ o, W.cell? ⟨w.heap.size, o, none⟩ = (#[.int .u64 1, .int .u64 0, .int .u64 5] : Array Value)[o]?) ∧ (∀ o, W.cell? ⟨w.heap.size + 1, o, none⟩ = (#[.int .u64 2, .int .u64 9, .int .u64 6] : Array Value)[o]?) ∧ (∀ o, W.cell? ⟨w.heap.size + 1 + 1, o, none⟩ = (#[.int .u64 3, .int .u64 0, .int .u64 7] : Array Value)[o]?) ∧ (∀ o, W.cell? ⟨p, o, none⟩ = (#[.int .u64 0, .int .u64 0, .int .u64 0, .int .u64 1, .int .u64 0, .int .u64 5, .int .u64 2, .int .u64 9, .int .u64 6] : Array Value)[o]?) ∧ (∀ o, W.cell? ⟨x1.heap.size, o, none⟩ = (#[.int .u64 1, .int .u64 0, .int .u64 5, .int .u64 2, .int .u64 9, .int .u64 6, .int .u64 0, .int .u64 0, .int .u64 0] : Array Value)[o]?) ∧ (∀ o, W.cell? ⟨x2.heap.size, o, none⟩ = (#[.int .u64 2, .int .u64 9, .int .u64 6, .int .u64 3, .int .u64 0, .int .u64 7, .int .u64 0, .int .u64 0, .int .u64 0] : Array Value)[o]?) ∧ (∀ o, W.cell? ⟨x3.heap.size, o, none⟩ = (#[.int .u64 2, .int .u64 9, .int .u64 6, .int .u64 3, .int .u64 0, .int .u64 7, .int .u64 0, .int .u64 0, .int .u64 0] : Array Value)[o]?) ∧ (∀ o, W.cell? ⟨x4.heap.size, o, none⟩ = (#[.int .u64 2, .int .u64 9, .int .u64 6] : Array Value)[o]?) ∧ (∀ o, W.cell? ⟨x5.heap.size, o, none⟩ = (#[.int .u64 0, .int .u64 0, .int .u64 0] : Array Value)[o]?) ∧ (∀ o, W.cell? ⟨x6.heap.size, o, none⟩ = (#[.int .u64 0, .int .u64 0, .int .u64 0, .int .u64 0, .int .u64 0, .int .u64 0, .int .u64 2, .int .u64 9, .int .u64 6] : Array Value)[o]?))
      (first | exact ⟨r0, r1, r2, r3, r4, r5, r6, r7, r8, r9⟩ | exact ⟨(mm.hd).rd, (mm.tl.hd).rd, (mm.tl.tl.hd).rd, (mm.tl.tl.tl.hd).rd, (mm.tl.tl.tl.tl.hd).rd, (mm.tl.tl.tl.tl.tl.hd).rd, (mm.tl.tl.tl.tl.tl.tl.hd).rd, (mm.tl.tl.tl.tl.tl.tl.tl.hd).rd, (mm.tl.tl.tl.tl.tl.tl.tl.tl.hd).rd, (mm.tl.tl.tl.tl.tl.tl.tl.tl.tl.hd).rd⟩ | exact ⟨(mm.drew.hd).rd, (mm.drew.tl.hd).rd, (mm.drew.tl.tl.hd).rd, (mm.drew.tl.tl.tl.hd).rd, (mm.drew.tl.tl.tl.tl.hd).rd, (mm.drew.tl.tl.tl.tl.tl.hd).rd, (mm.drew.tl.tl.tl.tl.tl.tl.hd).rd, (mm.drew.tl.tl.tl.tl.tl.tl.tl.hd).rd, (mm.drew.tl.tl.tl.tl.tl.tl.tl.tl.hd).rd, (mm.drew.tl.tl.tl.tl.tl.tl.tl.tl.tl.hd).rd⟩ | exact ⟨((mm.alloc _).hd).rd, ((mm.alloc _).tl.hd).rd, ((mm.alloc _).tl.tl.hd).rd, ((mm.alloc _).tl.tl.tl.hd).rd, ((mm.alloc _).tl.tl.tl.tl.hd).rd, ((mm.alloc _).tl.tl.tl.tl.tl.hd).rd, ((mm.alloc _).tl.tl.tl.tl.tl.tl.hd).rd, ((mm.alloc _).tl.tl.tl.tl.tl.tl.tl.hd).rd, ((mm.alloc _).tl.tl.tl.tl.tl.tl.tl.tl.hd).rd, ((mm.alloc _).tl.tl.tl.tl.tl.tl.tl.tl.tl.hd).rd⟩)
      (first
        | (go_at_call 9; (with_reducible refine (heard_no 0 0 0 1 0 5 2 9 6 1 (by decide) (by decide) _).mono ?_); rintro e v ⟨rfl, hb⟩; replace mm := (by first | exact mm.keep hb | exact mm.drew.keep hb))
        | (go_at_call 9; (with_reducible refine (heard_zero 0 0 0 1 0 5 2 9 6 _).mono ?_); rintro e v ⟨rfl, hb⟩; replace mm := (by first | exact mm.keep hb | exact mm.drew.keep hb))
        | (go_at_call 11; (with_reducible refine (fx_all _).mono ?_); rintro e v ⟨a1, c1, rfl, hr1, hb⟩; replace mm := (by first | exact mm.keep hb | exact mm.drew.keep hb))
        | (go_at_call 17; (with_reducible refine (fx_refs _ _ _ hr1).mono ?_); rintro e v ⟨a2, c2, rfl, hr2, hb⟩; replace mm := (by first | exact mm.keep hb | exact mm.drew.keep hb))
        | (go_at_call 18; (with_reducible refine (one_any _ _ _ _).mono ?_); rintro e v ⟨rfl, hb⟩; replace mm := (by first | exact mm.keep hb | exact mm.drew.keep hb); replace hr2 := hr2.keep hb)
        | (go_at_call 16; (refine (fx_same _ _ _ hr2).mono ?_); rintro e v ⟨rfl, hb⟩; replace mm := mm.keep (below_of hb)))
    go_wp2_with fail
    go_ret
    exact ⟨rfl, mm.below⟩
end Go.Proofs.Ytnogfgpdgodalaa
