/- The walk of GuardPeers. -/
import Derived.Test.YthkpidmclechdaaF
namespace Go.Proofs.Ythkpidmclechdaa
open Go.RowKit
set_option maxHeartbeats 2000000
set_option maxRecDepth 100000
set_option linter.unusedVariables false

theorem canE_out {P s : Nat} {f : Nat → Option Nat} {i : Int} (h : i < 0 ∨ (P : Int) ≤ i) : canE P f i s = 5 := by unfold canE; rw [if_pos h]
theorem canE_first {P s : Nat} {f : Nat → Option Nat} {i : Int} (h : ¬ (i < 0 ∨ (P : Int) ≤ i)) (hf : f i.toNat = none) : canE P f i s = 0 := by unfold canE; rw [if_neg h, hf]
theorem canE_upd {P s t : Nat} {f : Nat → Option Nat} {i : Int} (h : ¬ (i < 0 ∨ (P : Int) ≤ i)) : canE P (upd f i.toNat s) i t = if t ≤ s then 12 else 0 := by unfold canE; rw [if_neg h]; simp [upd]
theorem lastN_upd {P s : Nat} {f : Nat → Option Nat} {i : Int} (h : ¬ (i < 0 ∨ (P : Int) ≤ i)) : lastN P (upd f i.toNat s) i = some s := by unfold lastN; rw [if_neg h]; simp [upd]
theorem lastN_out {P : Nat} {f : Nat → Option Nat} {i : Int} (h : i < 0 ∨ (P : Int) ≤ i) : lastN P f i = none := by unfold lastN; rw [if_pos h]

theorem take_isM {G P : Nat} {i : Int} {w : World} {f : Nat → Option Nat} (g : GuardAt w G P f) (hE : canE P f i 18446744073709551615 = 0) :
    Calls Try.prog 11 #[.pointer (some ⟨G, 0, none⟩), .int .i64 i, .int .u64 18446744073709551615] w (TakeOk G P f i.toNat 18446744073709551615 w) := by
  have h := take_is (s := 18446744073709551615) g hE
  exact h
theorem take_notM {G P : Nat} {i : Int} {w : World} {f : Nat → Option Nat} (g : GuardAt w G P f) (E : Int) (hE : canE P f i 18446744073709551615 = E) (h : (E != 0) = true) :
    Calls Try.prog 11 #[.pointer (some ⟨G, 0, none⟩), .int .i64 i, .int .u64 18446744073709551615] w fun e w' => e = .returned (.int .i64 E) ∧ Below w.heap.size w w' := by
  have h := take_not (s := 18446744073709551615) g E hE h
  exact h
theorem last_isM {G P : Nat} {i : Int} {w : World} {f : Nat → Option Nat} (g : GuardAt w G P f) (h : lastN P f i = some 18446744073709551615) :
    Calls Try.prog 13 #[.pointer (some ⟨G, 0, none⟩), .int .i64 i] w fun e w' => e = .returned (.tuple #[.int .u64 18446744073709551615, .bool true]) ∧ Below w.heap.size w w' := by
  have h := last_is g 18446744073709551615 h
  exact h


theorem peers_neg (p who : Int) (s : Nat) (hp0 : p < 0) (w : World) :
    Calls Try.prog 6 #[.int .i64 p, .int .i64 who, .int .u64 s] w fun e w' => e = .returned (.bool true) ∧ Below w.heap.size w w' := by
  go_enter Try.func6, Try.ntmps6
  go_wp2_with fail
  refine (new_bad _ _ (by omega)).mono ?_
  rintro e _ ⟨rfl, rfl⟩
  go_wp2_with fail
  refine (fixed_any _).mono ?_
  rintro e w1 ⟨rfl, hb0⟩
  have hB1 : Below w.heap.size w w1 := hb0
  clear hb0
  go_wp2
  go_ret
  exact ⟨rfl, hB1⟩

theorem peers_big (p who : Int) (s : Nat) (hp0 : ¬ p < 0) (hp8 : 8 < p) (w : World) :
    Calls Try.prog 6 #[.int .i64 p, .int .i64 who, .int .u64 s] w fun e w' => e = .returned (.bool true) ∧ Below w.heap.size w w' := by
  go_enter Try.func6, Try.ntmps6
  go_wp2_with fail
  refine (new_bad _ _ (by omega)).mono ?_
  rintro e _ ⟨rfl, rfl⟩
  go_wp2_with fail
  refine (fixed_any _).mono ?_
  rintro e w1 ⟨rfl, hb0⟩
  have hB1 : Below w.heap.size w w1 := hb0
  clear hb0
  go_wp2
  go_ret
  exact ⟨rfl, hB1⟩

theorem peers_outneg (P s : Nat) (who : Int) (hP : P ≤ 8) (hw0 : who < 0) (w : World) :
    Calls Try.prog 6 #[.int .i64 (P : Nat), .int .i64 who, .int .u64 (s : Nat)] w fun e w' => e = .returned (.bool true) ∧ Below w.heap.size w w' := by
  have e1 := Lib.hid (canE_out (P := P) (s := s) (f := fun _ => none) (i := who) (.inl hw0))
  have e2 := Lib.hid (lastN_out (P := P) (f := fun _ => none) (i := who) (.inl hw0))
  go_enter Try.func6, Try.ntmps6
  go_wp2_with fail
  refine (new_ok P _ hP).mono ?_
  rintro e w1 ⟨rfl, g1_g, hb0, hlt_g⟩
  have le_g : w.heap.size ≤ w.heap.size := Nat.le_refl _
  have hB1 : Below w.heap.size w w1 := hb0
  clear hb0 hlt_g
  go_wp2_with fail
  refine (take_not g1_g 5 e1.out (by decide)).mono ?_
  rintro e w2 ⟨rfl, hb1⟩
  have g2_g := g1_g.keep hb1
  have hB2 : Below w.heap.size w w2 := below_from hB1 hB1.size hb1
  clear g1_g hB1 hb1
  go_wp2_with fail
  refine (last_not g2_g e2.out).mono ?_
  rintro e w3 ⟨rfl, hb2⟩
  have g3_g := g2_g.keep hb2
  have hB3 : Below w.heap.size w w3 := below_from hB2 hB2.size hb2
  clear g2_g hB2 hb2
  go_wp2_with fail
  refine (fixed_any _).mono ?_
  rintro e w4 ⟨rfl, hb3⟩
  have g4_g := g3_g.keep hb3
  have hB4 : Below w.heap.size w w4 := below_from hB3 hB3.size hb3
  clear g3_g hB3 hb3
  go_wp2
  go_ret
  exact ⟨rfl, hB4⟩

theorem peers_outbig (P s : Nat) (who : Int) (hP : P ≤ 8) (hw0 : ¬ who < 0) (hwP : (P : Int) ≤ who) (w : World) :
    Calls Try.prog 6 #[.int .i64 (P : Nat), .int .i64 who, .int .u64 (s : Nat)] w fun e w' => e = .returned (.bool true) ∧ Below w.heap.size w w' := by
  have e1 := Lib.hid (canE_out (P := P) (s := s) (f := fun _ => none) (i := who) (.inr hwP))
  have e2 := Lib.hid (lastN_out (P := P) (f := fun _ => none) (i := who) (.inr hwP))
  go_enter Try.func6, Try.ntmps6
  go_wp2_with fail
  refine (new_ok P _ hP).mono ?_
  rintro e w1 ⟨rfl, g1_g, hb0, hlt_g⟩
  have le_g : w.heap.size ≤ w.heap.size := Nat.le_refl _
  have hB1 : Below w.heap.size w w1 := hb0
  clear hb0 hlt_g
  go_wp2_with fail
  refine (take_not g1_g 5 e1.out (by decide)).mono ?_
  rintro e w2 ⟨rfl, hb1⟩
  have g2_g := g1_g.keep hb1
  have hB2 : Below w.heap.size w w2 := below_from hB1 hB1.size hb1
  clear g1_g hB1 hb1
  go_wp2_with fail
  refine (last_not g2_g e2.out).mono ?_
  rintro e w3 ⟨rfl, hb2⟩
  have g3_g := g2_g.keep hb2
  have hB3 : Below w.heap.size w w3 := below_from hB2 hB2.size hb2
  clear g2_g hB2 hb2
  go_wp2_with fail
  refine (fixed_any _).mono ?_
  rintro e w4 ⟨rfl, hb3⟩
  have g4_g := g3_g.keep hb3
  have hB4 : Below w.heap.size w w4 := below_from hB3 hB3.size hb3
  clear g3_g hB3 hb3
  go_wp2
  go_ret
  exact ⟨rfl, hB4⟩

theorem peers_new (P s : Nat) (who : Int) (hP : P ≤ 8) (hw0 : ¬ who < 0) (hwP : ¬ (P : Int) ≤ who) (hsm : s < 18446744073709551615) (w : World) :
    Calls Try.prog 6 #[.int .i64 (P : Nat), .int .i64 who, .int .u64 (s : Nat)] w fun e w' => e = .returned (.bool true) ∧ Below w.heap.size w w' := by
  have hin : ¬ (who < 0 ∨ (P : Int) ≤ who) := by omega
  have e1 := Lib.hid (canE_first (P := P) (s := s) (f := fun _ => none) hin rfl)
  have e2 := canE_upd (P := P) (s := s) (t := s) (f := fun _ => none) hin
  rw [if_pos (Nat.le_refl _)] at e2
  have E2 := Lib.hid e2
  have e3 := Lib.hid (lastN_upd (P := P) (s := s) (f := fun _ => none) hin)
  have e4 := canE_upd (P := P) (s := s) (t := 18446744073709551615) (f := fun _ => none) hin
  rw [if_neg (by omega)] at e4
  have E4 := Lib.hid e4
  have e5 := canE_upd (P := P) (s := 18446744073709551615) (t := 18446744073709551615) (f := upd (fun _ => none) who.toNat s) hin
  rw [if_pos (Nat.le_refl _)] at e5
  have E5 := Lib.hid e5
  have E6 := Lib.hid (lastN_upd (P := P) (s := 18446744073709551615) (f := upd (fun _ => none) who.toNat s) hin)
  have hin' := Lib.hid hin
  generalize hsa : ((s : Nat) : Int) = a
  have t1 := fun (w : World) (G : Nat) (g : GuardAt w G P (fun _ => none)) => take_is g e1.out
  have t2 := fun (w : World) (G : Nat) (g : GuardAt w G P (upd (fun _ => none) who.toNat s)) => last_is g s e3.out
  have t3 := fun (w : World) (G : Nat) (g : GuardAt w G P (upd (fun _ => none) who.toNat s)) => take_not g 12 E2.out (by decide)
  simp only [hsa] at t1 t2 t3
  have T1 := Lib.hid t1
  have T2 := Lib.hid t2
  have T3 := Lib.hid t3
  have hsm1 : a < 18446744073709551615 := by omega
  clear e2 e4 e5 hin hsm t1 t2 t3 hsa
  go_enter Try.func6, Try.ntmps6
  go_wp2_with fail
  refine (new_ok P _ hP).mono ?_
  rintro e w1 ⟨rfl, g1_g, hb0, hlt_g⟩
  have le_g : w.heap.size ≤ w.heap.size := Nat.le_refl _
  have hB1 : Below w.heap.size w w1 := hb0
  clear hb0 hlt_g
  go_wp2_with fail
  refine (T1.out _ _ g1_g).mono ?_
  rintro e w2 ⟨rfl, g2_g, hg1⟩
  have hB2 : Below w.heap.size w w2 := hB1.grown hg1 hB1.size (fun k e => by cases e; exact le_g)
  clear g1_g hB1 hg1
  go_wp2_with fail
  refine (T2.out _ _ g2_g).mono ?_
  rintro e w3 ⟨rfl, hb2⟩
  have g3_g := g2_g.keep hb2
  have hB3 : Below w.heap.size w w3 := below_from hB2 hB2.size hb2
  clear g2_g hB2 hb2
  go_wp2_with fail
  refine (T3.out _ _ g3_g).mono ?_
  rintro e w4 ⟨rfl, hb3⟩
  have g4_g := g3_g.keep hb3
  have hB4 : Below w.heap.size w w4 := below_from hB3 hB3.size hb3
  clear g3_g hB3 hb3
  go_wp2_with fail
  refine (take_isM g4_g E4.out).mono ?_
  rintro e w5 ⟨rfl, g5_g, hg4⟩
  have hB5 : Below w.heap.size w w5 := hB4.grown hg4 hB4.size (fun k e => by cases e; exact le_g)
  clear g4_g hB4 hg4
  go_wp2_with fail
  refine (take_notM g5_g 12 E5.out (by decide)).mono ?_
  rintro e w6 ⟨rfl, hb5⟩
  have g6_g := g5_g.keep hb5
  have hB6 : Below w.heap.size w w6 := below_from hB5 hB5.size hb5
  clear g5_g hB5 hb5
  go_wp2_with fail
  refine (last_isM g6_g E6.out).mono ?_
  rintro e w7 ⟨rfl, hb6⟩
  have g7_g := g6_g.keep hb6
  have hB7 : Below w.heap.size w w7 := below_from hB6 hB6.size hb6
  clear g6_g hB6 hb6
  go_wp2_with fail
  refine (fixed_any _).mono ?_
  rintro e w8 ⟨rfl, hb7⟩
  have g8_g := g7_g.keep hb7
  have hB8 : Below w.heap.size w w8 := below_from hB7 hB7.size hb7
  clear g7_g hB7 hb7
  go_wp2
  go_ret
  exact ⟨rfl, hB8⟩

theorem peers_max (P s : Nat) (who : Int) (hP : P ≤ 8) (hw0 : ¬ who < 0) (hwP : ¬ (P : Int) ≤ who) (hsm : 18446744073709551615 ≤ s) (hs : s < 18446744073709551616) (w : World) :
    Calls Try.prog 6 #[.int .i64 (P : Nat), .int .i64 who, .int .u64 (s : Nat)] w fun e w' => e = .returned (.bool true) ∧ Below w.heap.size w w' := by
  have hin : ¬ (who < 0 ∨ (P : Int) ≤ who) := by omega
  have e1 := Lib.hid (canE_first (P := P) (s := s) (f := fun _ => none) hin rfl)
  have e2 := canE_upd (P := P) (s := s) (t := s) (f := fun _ => none) hin
  rw [if_pos (Nat.le_refl _)] at e2
  have E2 := Lib.hid e2
  have e3 := Lib.hid (lastN_upd (P := P) (s := s) (f := fun _ => none) hin)
  have e4 := canE_upd (P := P) (s := s) (t := 18446744073709551615) (f := fun _ => none) hin
  rw [if_pos hsm] at e4
  have E4 := Lib.hid e4
  have hin' := Lib.hid hin
  generalize hsa : ((s : Nat) : Int) = a
  have t1 := fun (w : World) (G : Nat) (g : GuardAt w G P (fun _ => none)) => take_is g e1.out
  have t2 := fun (w : World) (G : Nat) (g : GuardAt w G P (upd (fun _ => none) who.toNat s)) => last_is g s e3.out
  have t3 := fun (w : World) (G : Nat) (g : GuardAt w G P (upd (fun _ => none) who.toNat s)) => take_not g 12 E2.out (by decide)
  simp only [hsa] at t1 t2 t3
  have T1 := Lib.hid t1
  have T2 := Lib.hid t2
  have T3 := Lib.hid t3
  have hM0 : a = 18446744073709551615 := by omega
  have hM1 : (a == 18446744073709551615) = true := beq_iff_eq.mpr hM0
  have hM2 : decide (a < 18446744073709551615) = false := decide_eq_false (Int.not_lt.mpr (Int.le_of_eq hM0.symm))
  clear e2 e4 hin hsm hs t1 t2 t3 hsa hM0
  go_enter Try.func6, Try.ntmps6
  go_wp2_with fail
  refine (new_ok P _ hP).mono ?_
  rintro e w1 ⟨rfl, g1_g, hb0, hlt_g⟩
  have le_g : w.heap.size ≤ w.heap.size := Nat.le_refl _
  have hB1 : Below w.heap.size w w1 := hb0
  clear hb0 hlt_g
  go_wp2_with fail
  refine (T1.out _ _ g1_g).mono ?_
  rintro e w2 ⟨rfl, g2_g, hg1⟩
  have hB2 : Below w.heap.size w w2 := hB1.grown hg1 hB1.size (fun k e => by cases e; exact le_g)
  clear g1_g hB1 hg1
  go_wp2_with fail
  refine (T2.out _ _ g2_g).mono ?_
  rintro e w3 ⟨rfl, hb2⟩
  have g3_g := g2_g.keep hb2
  have hB3 : Below w.heap.size w w3 := below_from hB2 hB2.size hb2
  clear g2_g hB2 hb2
  go_wp2_with fail
  refine (T3.out _ _ g3_g).mono ?_
  rintro e w4 ⟨rfl, hb3⟩
  have g4_g := g3_g.keep hb3
  have hB4 : Below w.heap.size w w4 := below_from hB3 hB3.size hb3
  clear g3_g hB3 hb3
  go_wp2_with fail
  refine (take_notM g4_g 12 E4.out (by decide)).mono ?_
  rintro e w5 ⟨rfl, hb4⟩
  have g5_g := g4_g.keep hb4
  have hB5 : Below w.heap.size w w5 := below_from hB4 hB4.size hb4
  clear g4_g hB4 hb4
  go_wp2_with fail
  refine (take_notM g5_g 12 E4.out (by decide)).mono ?_
  rintro e w6 ⟨rfl, hb5⟩
  have g6_g := g5_g.keep hb5
  have hB6 : Below w.heap.size w w6 := below_from hB5 hB5.size hb5
  clear g5_g hB5 hb5
  go_wp2_with fail
  refine (T2.out _ _ g6_g).mono ?_
  rintro e w7 ⟨rfl, hb6⟩
  have g7_g := g6_g.keep hb6
  have hB7 : Below w.heap.size w w7 := below_from hB6 hB6.size hb6
  clear g6_g hB6 hb6
  go_wp2_with fail
  refine (fixed_any _).mono ?_
  rintro e w8 ⟨rfl, hb7⟩
  have g8_g := g7_g.keep hb7
  have hB8 : Below w.heap.size w w8 := below_from hB7 hB7.size hb7
  clear g7_g hB7 hb7
  go_wp2
  go_ret
  exact ⟨rfl, hB8⟩

theorem peers_core (p who : Int) (s : Nat) (w : World) (hs : s < 18446744073709551616) :
    Calls Try.prog 6 #[.int .i64 p, .int .i64 who, .int .u64 s] w fun e w' => e = .returned (.bool true) ∧ Below w.heap.size w w' := by
  by_cases hp0 : p < 0
  · exact peers_neg p who s hp0 w
  · by_cases hp8 : 8 < p
    · exact peers_big p who s hp0 hp8 w
    · obtain ⟨P, rfl⟩ : ∃ P : Nat, p = P := ⟨p.toNat, by omega⟩
      by_cases hw0 : who < 0
      · exact peers_outneg P s who (by omega) hw0 w
      · by_cases hwP : (P : Int) ≤ who
        · exact peers_outbig P s who (by omega) hw0 hwP w
        · by_cases hsm : s < 18446744073709551615
          · exact peers_new P s who (by omega) hw0 hwP hsm w
          · exact peers_max P s who (by omega) hw0 hwP (Nat.le_of_not_lt hsm) hs w
end Go.Proofs.Ythkpidmclechdaa
