/- The walk of SlotsBounds. -/
import Derived.Test.YtnogfgpdgodalaaAge
namespace Go.Proofs.Ytnogfgpdgodalaa
open Go.RowKit
set_option maxHeartbeats 4000000
set_option maxRecDepth 100000
set_option linter.unusedVariables false

theorem all_len (p c n : O) : (allL p c n).length ≤ 3 := by unfold allL; exact Nat.le_trans (List.length_filter_le _ _) (by simp)
theorem all_any3 (p c n : O) (w : World) : Calls Try.prog 11 #[.agg #[.int .u64 p.a, .int .u64 p.b, .int .u64 p.c, .int .u64 c.a, .int .u64 c.b, .int .u64 c.c, .int .u64 n.a, .int .u64 n.b, .int .u64 n.c]] w (fun e w' => ∃ (a : Option Addr) (cap l : Nat), (l : Int) ≤ 3 ∧ e = .returned (.slice a l cap) ∧ Below w.heap.size w w') :=
  (all_form p c n w).mono fun e w' h => by
    obtain ⟨a, cap, he, _, hb⟩ := h
    exact ⟨a, cap, _, by have := all_len p c n; omega, he, hb⟩
theorem find_first (p c n : O) (h : (c.a != 0) = true) : findR p c n c.a = (c, true) := by
  unfold findR
  have : findB c.a c = true := by unfold findB; rw [h]; simp
  simp [List.find?, this]
theorem find_second (p c n : O) (h : (n.a != 0) = true) (h2 : ¬ c.a = n.a) : findR p c n n.a = (n, true) := by
  unfold findR
  have h3 : findB n.a n = true := by unfold findB; rw [h]; simp
  simp [List.find?, findB_no h2, h3]
theorem find_zero (p c n : O) : findR p c n 0 = (O.z, false) := by
  unfold findR
  have h : ∀ o, findB 0 o = false := fun o => by unfold findB; simp
  simp [List.find?, h]
def FindAt (a b c : Int) (is : Bool) (w : World) (e : Ending) (w' : World) : Prop := e = .returned (.tuple #[.agg #[.int .u64 a, .int .u64 b, .int .u64 c], .bool is]) ∧ Below w.heap.size w w'
theorem find_at (p c n : O) (id : Int) (q : O) (is : Bool) (h : findR p c n id = (q, is)) (w : World) :
    Calls Try.prog 10 #[.agg #[.int .u64 p.a, .int .u64 p.b, .int .u64 p.c, .int .u64 c.a, .int .u64 c.b, .int .u64 c.c, .int .u64 n.a, .int .u64 n.b, .int .u64 n.c], .int .u64 id] w (FindAt q.a q.b q.c is w) :=
  (find_any p c n id w).mono fun e w' r => ⟨by rw [r.1, h], r.2⟩

theorem bounds_core (a : Option Addr) (len cap : Nat) (g : Nat → Nat) (w : World) (hr : URow .u8 256 w a len g) :
    Calls Try.prog 3 #[.slice a len cap] w fun e w' => e = .returned (.bool true) ∧ Below w.heap.size w w' := by
  obtain ⟨hlen, hcell, hlt⟩ := hr
  have HC := Lib.hid hcell
  have HL := Lib.hid hlt
  clear hcell hlt
  go_enter Try.func3, Try.ntmps3
  go_wp2_with fail
  go_loopw [4] (fun i wr => ∃ (k : Nat) (p c n : O), k ≤ len ∧ k ≤ 40 ∧ i = .int .i64 k ∧ c.a ≤ k ∧ n.a ≤ k ∧ (n.a = 0 → n = O.z) ∧ At wr w.heap.size 27 #[.int .u64 p.a, .int .u64 p.b, .int .u64 p.c, .int .u64 c.a, .int .u64 c.b, .int .u64 c.c, .int .u64 n.a, .int .u64 n.b, .int .u64 n.c] ∧ Below w.heap.size w wr) (fun i _ => 40 - (intOf i).toNat)
  case atStart => exact ⟨0, O.z, O.z, O.z, Nat.zero_le _, Nat.zero_le _, rfl, by decide, by decide, fun _ => rfl, At.new _ _ _, by go_grown⟩
  case round =>
    obtain ⟨k, p, c, n, hk1, hk2, rfl, hca, hna, hnz, hA, hB⟩ := hrel
    by_cases hin : k < len ∧ k < 40
    · obtain ⟨hkl, hk40⟩ := hin
      obtain ⟨blk, off, rfl, hci⟩ := HC.out k hkl
      have hgk := HL.out k hkl
      have c2 := keep hB hci
      have l2 : blk < wr.heap.size := lt_of c2
      generalize g k = x at c2 hgk
      clear hci
      have hkl' : (k : Int) < (len : Int) := by omega
      have hk0 : (0 : Int) ≤ (k : Int) := by omega
      have hk1' : ((k : Int) + 1 != 0) = true := by rw [bne_iff_ne]; omega
      have hk1'' : ((k : Int) + 1 == 0) = false := by rw [beq_eq_false_iff_ne]; omega
      have l0 := hA.lt
      rcases (by omega : x % 3 = 0 ∨ x % 3 = 1 ∨ x % 3 = 2) with hx3 | hx3 | hx3
      · have hm0 : ((x : Int) % 3 == 0) = true := beq_iff_eq.2 (by omega)
        have hm1 : ((x : Int) % 3 == 1) = false := beq_eq_false_iff_ne.2 (by omega)
        have hm2 : ((x : Int) % 3 == 2) = false := beq_eq_false_iff_ne.2 (by omega)
        clear hx3
        by_cases h0 : n.a = 0
        · have hz := hnz h0
          subst hz
          simp only [O.z] at hA
          clear h0 hnz hna

          have rS := hA.rd
          go_wp2_with fail
          refine (mine_no (p.a) (p.b) (p.c) (c.a) (c.b) (c.c) (0) (0) (((k : Int) + 1)) ((x : Int)) ((k : Int)) _).mono ?_
          rintro e v ⟨rfl, hb⟩
          have B0 := ((hA.alloc (Obj.cells #[.int .u64 ((k : Int) + 1), .int .u64 (x : Int), .int .u64 (k : Int)] 25)).alloc (Obj.cells #[.int .u64 p.a, .int .u64 p.b, .int .u64 p.c, .int .u64 c.a, .int .u64 c.b, .int .u64 c.c, .int .u64 0, .int .u64 0, .int .u64 0] 27)).keep hb
          have BO := ((At.new wr 25 #[.int .u64 ((k : Int) + 1), .int .u64 (x : Int), .int .u64 (k : Int)]).alloc (Obj.cells #[.int .u64 p.a, .int .u64 p.b, .int .u64 p.c, .int .u64 c.a, .int .u64 c.b, .int .u64 c.c, .int .u64 0, .int .u64 0, .int .u64 0] 27)).keep hb
          have BW := (at_new1 wr (Obj.cells #[.int .u64 ((k : Int) + 1), .int .u64 (x : Int), .int .u64 (k : Int)] 25) 27 #[.int .u64 p.a, .int .u64 p.b, .int .u64 p.c, .int .u64 c.a, .int .u64 c.b, .int .u64 c.c, .int .u64 0, .int .u64 0, .int .u64 0]).keep hb
          have hBv : Below w.heap.size w v := below_from hB hB.size (below_of2 hb)
          have lv := BO.lt
          have lw := BW.lt
          have l0v := B0.lt
          have r0 := B0.rd
          have f0 := B0.fr
          have rO := BO.rd
          have rW := BW.rd
          clear hb rS hA hB c2
          go_wp2_with fail
          refine (find_at c ⟨(k : Int) + 1, (x : Int), (k : Int)⟩ O.z ((k : Int) + 1) ⟨(k : Int) + 1, (x : Int), (k : Int)⟩ true (find_first _ _ _ hk1') _).mono ?_
          rintro e v2 ⟨rfl, hb⟩
          have D0 : At v2 w.heap.size 27 #[.int .u64 c.a, .int .u64 c.b, .int .u64 c.c, .int .u64 ((k : Int) + 1), .int .u64 (x : Int), .int .u64 (k : Int), .int .u64 0, .int .u64 0, .int .u64 0] := At.keep (by simpa using (((((((((B0).set (o := 0) (v := .int .u64 c.a)).set (o := 1) (v := .int .u64 c.b)).set (o := 2) (v := .int .u64 c.c)).set (o := 3) (v := .int .u64 ((k : Int) + 1))).set (o := 4) (v := .int .u64 (x : Int))).set (o := 5) (v := .int .u64 (k : Int))).set (o := 6) (v := .int .u64 0)).set (o := 7) (v := .int .u64 0)).set (o := 8) (v := .int .u64 0)) hb
          have DO : At v2 wr.heap.size 25 #[.int .u64 ((k : Int) + 1), .int .u64 (x : Int), .int .u64 (k : Int)] := At.keep ((((((((((BO).other (b2 := w.heap.size) (o := 0) (v := .int .u64 c.a) (by omega)).other (b2 := w.heap.size) (o := 1) (v := .int .u64 c.b) (by omega)).other (b2 := w.heap.size) (o := 2) (v := .int .u64 c.c) (by omega)).other (b2 := w.heap.size) (o := 3) (v := .int .u64 ((k : Int) + 1)) (by omega)).other (b2 := w.heap.size) (o := 4) (v := .int .u64 (x : Int)) (by omega)).other (b2 := w.heap.size) (o := 5) (v := .int .u64 (k : Int)) (by omega)).other (b2 := w.heap.size) (o := 6) (v := .int .u64 0) (by omega)).other (b2 := w.heap.size) (o := 7) (v := .int .u64 0) (by omega)).other (b2 := w.heap.size) (o := 8) (v := .int .u64 0) (by omega)) hb
          have hB2 : Below w.heap.size w v2 := below_from (by go_grown) (by simpa [World.setCell] using hBv.size) hb
          have lo2 := DO.lt
          have l02 := D0.lt
          have rd0 := D0.rd
          have rdO := DO.rd
          clear hb r0 f0 rO rW B0 BO BW hBv lv lw l0v
          go_wp2_with fail
          refine (all_any3 c (⟨(k : Int) + 1, (x : Int), (k : Int)⟩) O.z _).mono ?_
          rintro e v3 ⟨a3, c3, n3, hn3, rfl, hb⟩
          have E0 := (D0.alloc (Obj.cells #[.int .u64 ((k : Int) + 1), .int .u64 (x : Int), .int .u64 (k : Int)] 25)).keep hb
          have EO := (DO.alloc (Obj.cells #[.int .u64 ((k : Int) + 1), .int .u64 (x : Int), .int .u64 (k : Int)] 25)).keep hb
          have EX := (At.new v2 25 #[.int .u64 ((k : Int) + 1), .int .u64 (x : Int), .int .u64 (k : Int)]).keep hb
          have hB3 : Below w.heap.size w v3 := below_from hB2 hB2.size (below_of hb)
          have rO3 := EO.rd
          have rX3 := EX.rd
          clear hb rd0 rdO D0 DO hB2 lo2 l02
          go_wp2_with fail
          go_roundw
          case rel => exact ⟨k + 1, c, ⟨(k : Int) + 1, (x : Int), (k : Int)⟩, O.z, by omega, by omega, by go_num, by simp only []; omega, by simp only [O.z]; omega, fun _ => rfl, E0, hB3⟩
          case measure => (simp [intOf] <;> omega)
        · have h0' : (n.a != 0) = true := by simp [h0]
          have h0'' : (n.a == 0) = false := by simp [h0]

          have rS := hA.rd
          go_wp2_with fail
          refine (mine_yes (p.a) (p.b) (p.c) (c.a) (c.b) (c.c) (n.a) (n.b) (n.c) (((k : Int) + 1)) ((x : Int)) ((k : Int)) h0' _).mono ?_
          rintro e v ⟨rfl, hb⟩
          have B0 := ((hA.alloc (Obj.cells #[.int .u64 ((k : Int) + 1), .int .u64 (x : Int), .int .u64 (k : Int)] 25)).alloc (Obj.cells #[.int .u64 p.a, .int .u64 p.b, .int .u64 p.c, .int .u64 c.a, .int .u64 c.b, .int .u64 c.c, .int .u64 n.a, .int .u64 n.b, .int .u64 n.c] 27)).keep hb
          have BO := ((At.new wr 25 #[.int .u64 ((k : Int) + 1), .int .u64 (x : Int), .int .u64 (k : Int)]).alloc (Obj.cells #[.int .u64 p.a, .int .u64 p.b, .int .u64 p.c, .int .u64 c.a, .int .u64 c.b, .int .u64 c.c, .int .u64 n.a, .int .u64 n.b, .int .u64 n.c] 27)).keep hb
          have BW := (at_new1 wr (Obj.cells #[.int .u64 ((k : Int) + 1), .int .u64 (x : Int), .int .u64 (k : Int)] 25) 27 #[.int .u64 p.a, .int .u64 p.b, .int .u64 p.c, .int .u64 c.a, .int .u64 c.b, .int .u64 c.c, .int .u64 n.a, .int .u64 n.b, .int .u64 n.c]).keep hb
          have hBv : Below w.heap.size w v := below_from hB hB.size (below_of2 hb)
          have lv := BO.lt
          have lw := BW.lt
          have l0v := B0.lt
          have r0 := B0.rd
          have f0 := B0.fr
          have rO := BO.rd
          have rW := BW.rd
          clear hb rS hA hB c2
          go_wp2_with fail
          refine (find_at n ⟨(k : Int) + 1, (x : Int), (k : Int)⟩ O.z ((k : Int) + 1) ⟨(k : Int) + 1, (x : Int), (k : Int)⟩ true (find_first _ _ _ hk1') _).mono ?_
          rintro e v2 ⟨rfl, hb⟩
          have D0 : At v2 w.heap.size 27 #[.int .u64 n.a, .int .u64 n.b, .int .u64 n.c, .int .u64 ((k : Int) + 1), .int .u64 (x : Int), .int .u64 (k : Int), .int .u64 0, .int .u64 0, .int .u64 0] := At.keep (by simpa using (((((((((B0).set (o := 0) (v := .int .u64 n.a)).set (o := 1) (v := .int .u64 n.b)).set (o := 2) (v := .int .u64 n.c)).set (o := 3) (v := .int .u64 ((k : Int) + 1))).set (o := 4) (v := .int .u64 (x : Int))).set (o := 5) (v := .int .u64 (k : Int))).set (o := 6) (v := .int .u64 0)).set (o := 7) (v := .int .u64 0)).set (o := 8) (v := .int .u64 0)) hb
          have DO : At v2 wr.heap.size 25 #[.int .u64 ((k : Int) + 1), .int .u64 (x : Int), .int .u64 (k : Int)] := At.keep ((((((((((BO).other (b2 := w.heap.size) (o := 0) (v := .int .u64 n.a) (by omega)).other (b2 := w.heap.size) (o := 1) (v := .int .u64 n.b) (by omega)).other (b2 := w.heap.size) (o := 2) (v := .int .u64 n.c) (by omega)).other (b2 := w.heap.size) (o := 3) (v := .int .u64 ((k : Int) + 1)) (by omega)).other (b2 := w.heap.size) (o := 4) (v := .int .u64 (x : Int)) (by omega)).other (b2 := w.heap.size) (o := 5) (v := .int .u64 (k : Int)) (by omega)).other (b2 := w.heap.size) (o := 6) (v := .int .u64 0) (by omega)).other (b2 := w.heap.size) (o := 7) (v := .int .u64 0) (by omega)).other (b2 := w.heap.size) (o := 8) (v := .int .u64 0) (by omega)) hb
          have hB2 : Below w.heap.size w v2 := below_from (by go_grown) (by simpa [World.setCell] using hBv.size) hb
          have lo2 := DO.lt
          have l02 := D0.lt
          have rd0 := D0.rd
          have rdO := DO.rd
          clear hb r0 f0 rO rW B0 BO BW hBv lv lw l0v
          go_wp2_with fail
          refine (all_any3 n (⟨(k : Int) + 1, (x : Int), (k : Int)⟩) O.z _).mono ?_
          rintro e v3 ⟨a3, c3, n3, hn3, rfl, hb⟩
          have E0 := (D0.alloc (Obj.cells #[.int .u64 ((k : Int) + 1), .int .u64 (x : Int), .int .u64 (k : Int)] 25)).keep hb
          have EO := (DO.alloc (Obj.cells #[.int .u64 ((k : Int) + 1), .int .u64 (x : Int), .int .u64 (k : Int)] 25)).keep hb
          have EX := (At.new v2 25 #[.int .u64 ((k : Int) + 1), .int .u64 (x : Int), .int .u64 (k : Int)]).keep hb
          have hB3 : Below w.heap.size w v3 := below_from hB2 hB2.size (below_of hb)
          have rO3 := EO.rd
          have rX3 := EX.rd
          clear hb rd0 rdO D0 DO hB2 lo2 l02
          go_wp2_with fail
          go_roundw
          case rel => exact ⟨k + 1, n, ⟨(k : Int) + 1, (x : Int), (k : Int)⟩, O.z, by omega, by omega, by go_num, by simp only []; omega, by simp only [O.z]; omega, fun _ => rfl, E0, hB3⟩
          case measure => (simp [intOf] <;> omega)
      · have hm0 : ((x : Int) % 3 == 0) = false := beq_eq_false_iff_ne.2 (by omega)
        have hm1 : ((x : Int) % 3 == 1) = true := beq_iff_eq.2 (by omega)
        have hm2 : ((x : Int) % 3 == 2) = false := beq_eq_false_iff_ne.2 (by omega)
        clear hx3

        have rS := hA.rd
        go_wp2_with fail
        refine (theirs_any (p.a) (p.b) (p.c) (c.a) (c.b) (c.c) (n.a) (n.b) (n.c) (((k : Int) + 1)) ((x : Int)) ((k : Int)) _).mono ?_
        rintro e v ⟨rfl, hb⟩
        have B0 := ((hA.alloc (Obj.cells #[.int .u64 ((k : Int) + 1), .int .u64 (x : Int), .int .u64 (k : Int)] 25)).alloc (Obj.cells #[.int .u64 p.a, .int .u64 p.b, .int .u64 p.c, .int .u64 c.a, .int .u64 c.b, .int .u64 c.c, .int .u64 n.a, .int .u64 n.b, .int .u64 n.c] 27)).keep hb
        have BO := ((At.new wr 25 #[.int .u64 ((k : Int) + 1), .int .u64 (x : Int), .int .u64 (k : Int)]).alloc (Obj.cells #[.int .u64 p.a, .int .u64 p.b, .int .u64 p.c, .int .u64 c.a, .int .u64 c.b, .int .u64 c.c, .int .u64 n.a, .int .u64 n.b, .int .u64 n.c] 27)).keep hb
        have BW := (at_new1 wr (Obj.cells #[.int .u64 ((k : Int) + 1), .int .u64 (x : Int), .int .u64 (k : Int)] 25) 27 #[.int .u64 p.a, .int .u64 p.b, .int .u64 p.c, .int .u64 c.a, .int .u64 c.b, .int .u64 c.c, .int .u64 n.a, .int .u64 n.b, .int .u64 n.c]).keep hb
        have hBv : Below w.heap.size w v := below_from hB hB.size (below_of2 hb)
        have lv := BO.lt
        have lw := BW.lt
        have l0v := B0.lt
        have r0 := B0.rd
        have f0 := B0.fr
        have rO := BO.rd
        have rW := BW.rd
        clear hb rS hA hB c2
        go_wp2_with fail
        refine (find_at p c ⟨(k : Int) + 1, (x : Int), (k : Int)⟩ ((k : Int) + 1) ⟨(k : Int) + 1, (x : Int), (k : Int)⟩ true (find_second _ _ _ hk1' (by simp only []; omega)) _).mono ?_
        rintro e v2 ⟨rfl, hb⟩
        have D0 : At v2 w.heap.size 27 #[.int .u64 p.a, .int .u64 p.b, .int .u64 p.c, .int .u64 c.a, .int .u64 c.b, .int .u64 c.c, .int .u64 ((k : Int) + 1), .int .u64 (x : Int), .int .u64 (k : Int)] := At.keep (by simpa using (((((((((B0).set (o := 0) (v := .int .u64 p.a)).set (o := 1) (v := .int .u64 p.b)).set (o := 2) (v := .int .u64 p.c)).set (o := 3) (v := .int .u64 c.a)).set (o := 4) (v := .int .u64 c.b)).set (o := 5) (v := .int .u64 c.c)).set (o := 6) (v := .int .u64 ((k : Int) + 1))).set (o := 7) (v := .int .u64 (x : Int))).set (o := 8) (v := .int .u64 (k : Int))) hb
        have DO : At v2 wr.heap.size 25 #[.int .u64 ((k : Int) + 1), .int .u64 (x : Int), .int .u64 (k : Int)] := At.keep ((((((((((BO).other (b2 := w.heap.size) (o := 0) (v := .int .u64 p.a) (by omega)).other (b2 := w.heap.size) (o := 1) (v := .int .u64 p.b) (by omega)).other (b2 := w.heap.size) (o := 2) (v := .int .u64 p.c) (by omega)).other (b2 := w.heap.size) (o := 3) (v := .int .u64 c.a) (by omega)).other (b2 := w.heap.size) (o := 4) (v := .int .u64 c.b) (by omega)).other (b2 := w.heap.size) (o := 5) (v := .int .u64 c.c) (by omega)).other (b2 := w.heap.size) (o := 6) (v := .int .u64 ((k : Int) + 1)) (by omega)).other (b2 := w.heap.size) (o := 7) (v := .int .u64 (x : Int)) (by omega)).other (b2 := w.heap.size) (o := 8) (v := .int .u64 (k : Int)) (by omega)) hb
        have hB2 : Below w.heap.size w v2 := below_from (by go_grown) (by simpa [World.setCell] using hBv.size) hb
        have lo2 := DO.lt
        have l02 := D0.lt
        have rd0 := D0.rd
        have rdO := DO.rd
        clear hb r0 f0 rO rW B0 BO BW hBv lv lw l0v
        go_wp2_with fail
        refine (all_any3 p c (⟨(k : Int) + 1, (x : Int), (k : Int)⟩) _).mono ?_
        rintro e v3 ⟨a3, c3, n3, hn3, rfl, hb⟩
        have E0 := (D0.alloc (Obj.cells #[.int .u64 ((k : Int) + 1), .int .u64 (x : Int), .int .u64 (k : Int)] 25)).keep hb
        have EO := (DO.alloc (Obj.cells #[.int .u64 ((k : Int) + 1), .int .u64 (x : Int), .int .u64 (k : Int)] 25)).keep hb
        have EX := (At.new v2 25 #[.int .u64 ((k : Int) + 1), .int .u64 (x : Int), .int .u64 (k : Int)]).keep hb
        have hB3 : Below w.heap.size w v3 := below_from hB2 hB2.size (below_of hb)
        have rO3 := EO.rd
        have rX3 := EX.rd
        clear hb rd0 rdO D0 DO hB2 lo2 l02
        go_wp2_with fail
        go_roundw
        case rel => exact ⟨k + 1, p, c, ⟨(k : Int) + 1, (x : Int), (k : Int)⟩, by omega, by omega, by go_num, by omega, by simp only []; omega, fun h => by simp only [] at h; omega, E0, hB3⟩
        case measure => (simp [intOf] <;> omega)
      · have hm0 : ((x : Int) % 3 == 0) = false := beq_eq_false_iff_ne.2 (by omega)
        have hm1 : ((x : Int) % 3 == 1) = false := beq_eq_false_iff_ne.2 (by omega)
        have hm2 : ((x : Int) % 3 == 2) = true := beq_iff_eq.2 (by omega)
        clear hx3
        by_cases h0 : n.a = 0
        · have hz := hnz h0
          subst hz
          simp only [O.z] at hA
          clear h0 hnz hna

          have rS := hA.rd
          go_wp2_with fail
          refine (heard_zero (p.a) (p.b) (p.c) (c.a) (c.b) (c.c) (0) (0) (0) _).mono ?_
          rintro e v ⟨rfl, hb⟩
          have B0 := ((hA.alloc (Obj.cells #[.int .u64 0, .int .u64 0, .int .u64 0] 25)).alloc (Obj.cells #[.int .u64 p.a, .int .u64 p.b, .int .u64 p.c, .int .u64 c.a, .int .u64 c.b, .int .u64 c.c, .int .u64 0, .int .u64 0, .int .u64 0] 27)).keep hb
          have BO := ((At.new wr 25 #[.int .u64 0, .int .u64 0, .int .u64 0]).alloc (Obj.cells #[.int .u64 p.a, .int .u64 p.b, .int .u64 p.c, .int .u64 c.a, .int .u64 c.b, .int .u64 c.c, .int .u64 0, .int .u64 0, .int .u64 0] 27)).keep hb
          have BW := (at_new1 wr (Obj.cells #[.int .u64 0, .int .u64 0, .int .u64 0] 25) 27 #[.int .u64 p.a, .int .u64 p.b, .int .u64 p.c, .int .u64 c.a, .int .u64 c.b, .int .u64 c.c, .int .u64 0, .int .u64 0, .int .u64 0]).keep hb
          have hBv : Below w.heap.size w v := below_from hB hB.size (below_of2 hb)
          have lv := BO.lt
          have lw := BW.lt
          have l0v := B0.lt
          have r0 := B0.rd
          have f0 := B0.fr
          have rO := BO.rd
          have rW := BW.rd
          clear hb rS hA hB c2
          go_wp2_with fail
          refine (find_at p c O.z 0 O.z false (find_zero _ _ _) _).mono ?_
          rintro e v2 ⟨rfl, hb⟩
          have D0 : At v2 w.heap.size 27 #[.int .u64 p.a, .int .u64 p.b, .int .u64 p.c, .int .u64 c.a, .int .u64 c.b, .int .u64 c.c, .int .u64 0, .int .u64 0, .int .u64 0] := At.keep (by simpa using (((((((((B0).set (o := 0) (v := .int .u64 p.a)).set (o := 1) (v := .int .u64 p.b)).set (o := 2) (v := .int .u64 p.c)).set (o := 3) (v := .int .u64 c.a)).set (o := 4) (v := .int .u64 c.b)).set (o := 5) (v := .int .u64 c.c)).set (o := 6) (v := .int .u64 0)).set (o := 7) (v := .int .u64 0)).set (o := 8) (v := .int .u64 0)) hb
          have DO : At v2 wr.heap.size 25 #[.int .u64 0, .int .u64 0, .int .u64 0] := At.keep ((((((((((BO).other (b2 := w.heap.size) (o := 0) (v := .int .u64 p.a) (by omega)).other (b2 := w.heap.size) (o := 1) (v := .int .u64 p.b) (by omega)).other (b2 := w.heap.size) (o := 2) (v := .int .u64 p.c) (by omega)).other (b2 := w.heap.size) (o := 3) (v := .int .u64 c.a) (by omega)).other (b2 := w.heap.size) (o := 4) (v := .int .u64 c.b) (by omega)).other (b2 := w.heap.size) (o := 5) (v := .int .u64 c.c) (by omega)).other (b2 := w.heap.size) (o := 6) (v := .int .u64 0) (by omega)).other (b2 := w.heap.size) (o := 7) (v := .int .u64 0) (by omega)).other (b2 := w.heap.size) (o := 8) (v := .int .u64 0) (by omega)) hb
          have hB2 : Below w.heap.size w v2 := below_from (by go_grown) (by simpa [World.setCell] using hBv.size) hb
          have lo2 := DO.lt
          have l02 := D0.lt
          have rd0 := D0.rd
          have rdO := DO.rd
          clear hb r0 f0 rO rW B0 BO BW hBv lv lw l0v
          go_wp2_with fail
          refine (all_any3 p c O.z _).mono ?_
          rintro e v3 ⟨a3, c3, n3, hn3, rfl, hb⟩
          have E0 := (D0.alloc (Obj.cells #[.int .u64 0, .int .u64 0, .int .u64 0] 25)).keep hb
          have EO := (DO.alloc (Obj.cells #[.int .u64 0, .int .u64 0, .int .u64 0] 25)).keep hb
          have EX := (At.new v2 25 #[.int .u64 0, .int .u64 0, .int .u64 0]).keep hb
          have hB3 : Below w.heap.size w v3 := below_from hB2 hB2.size (below_of hb)
          have rO3 := EO.rd
          have rX3 := EX.rd
          clear hb rd0 rdO D0 DO hB2 lo2 l02
          go_wp2_with fail
          go_roundw
          case rel => exact ⟨k + 1, p, c, O.z, by omega, by omega, by go_num, by omega, by simp only [O.z]; omega, fun _ => rfl, E0, hB3⟩
          case measure => (simp [intOf] <;> omega)
        · have h0' : (n.a != 0) = true := by simp [h0]
          have h0'' : (n.a == 0) = false := by simp [h0]

          have rS := hA.rd
          go_wp2_with fail
          refine (heard_yes (p.a) (p.b) (p.c) (c.a) (c.b) (c.c) (n.a) (n.b) (n.c) h0'' _).mono ?_
          rintro e v ⟨rfl, hb⟩
          have B0 := ((hA.alloc (Obj.cells #[.int .u64 n.a, .int .u64 n.b, .int .u64 n.c] 25)).alloc (Obj.cells #[.int .u64 p.a, .int .u64 p.b, .int .u64 p.c, .int .u64 c.a, .int .u64 c.b, .int .u64 c.c, .int .u64 n.a, .int .u64 n.b, .int .u64 n.c] 27)).keep hb
          have BO := ((At.new wr 25 #[.int .u64 n.a, .int .u64 n.b, .int .u64 n.c]).alloc (Obj.cells #[.int .u64 p.a, .int .u64 p.b, .int .u64 p.c, .int .u64 c.a, .int .u64 c.b, .int .u64 c.c, .int .u64 n.a, .int .u64 n.b, .int .u64 n.c] 27)).keep hb
          have BW := (at_new1 wr (Obj.cells #[.int .u64 n.a, .int .u64 n.b, .int .u64 n.c] 25) 27 #[.int .u64 p.a, .int .u64 p.b, .int .u64 p.c, .int .u64 c.a, .int .u64 c.b, .int .u64 c.c, .int .u64 n.a, .int .u64 n.b, .int .u64 n.c]).keep hb
          have hBv : Below w.heap.size w v := below_from hB hB.size (below_of2 hb)
          have lv := BO.lt
          have lw := BW.lt
          have l0v := B0.lt
          have r0 := B0.rd
          have f0 := B0.fr
          have rO := BO.rd
          have rW := BW.rd
          clear hb rS hA hB c2
          go_wp2_with fail
          refine (find_at c n O.z n.a n true (find_first _ _ _ h0') _).mono ?_
          rintro e v2 ⟨rfl, hb⟩
          have D0 : At v2 w.heap.size 27 #[.int .u64 c.a, .int .u64 c.b, .int .u64 c.c, .int .u64 n.a, .int .u64 n.b, .int .u64 n.c, .int .u64 0, .int .u64 0, .int .u64 0] := At.keep (by simpa using (((((((((B0).set (o := 0) (v := .int .u64 c.a)).set (o := 1) (v := .int .u64 c.b)).set (o := 2) (v := .int .u64 c.c)).set (o := 3) (v := .int .u64 n.a)).set (o := 4) (v := .int .u64 n.b)).set (o := 5) (v := .int .u64 n.c)).set (o := 6) (v := .int .u64 0)).set (o := 7) (v := .int .u64 0)).set (o := 8) (v := .int .u64 0)) hb
          have DO : At v2 wr.heap.size 25 #[.int .u64 n.a, .int .u64 n.b, .int .u64 n.c] := At.keep ((((((((((BO).other (b2 := w.heap.size) (o := 0) (v := .int .u64 c.a) (by omega)).other (b2 := w.heap.size) (o := 1) (v := .int .u64 c.b) (by omega)).other (b2 := w.heap.size) (o := 2) (v := .int .u64 c.c) (by omega)).other (b2 := w.heap.size) (o := 3) (v := .int .u64 n.a) (by omega)).other (b2 := w.heap.size) (o := 4) (v := .int .u64 n.b) (by omega)).other (b2 := w.heap.size) (o := 5) (v := .int .u64 n.c) (by omega)).other (b2 := w.heap.size) (o := 6) (v := .int .u64 0) (by omega)).other (b2 := w.heap.size) (o := 7) (v := .int .u64 0) (by omega)).other (b2 := w.heap.size) (o := 8) (v := .int .u64 0) (by omega)) hb
          have hB2 : Below w.heap.size w v2 := below_from (by go_grown) (by simpa [World.setCell] using hBv.size) hb
          have lo2 := DO.lt
          have l02 := D0.lt
          have rd0 := D0.rd
          have rdO := DO.rd
          clear hb r0 f0 rO rW B0 BO BW hBv lv lw l0v
          go_wp2_with fail
          refine (all_any3 c n O.z _).mono ?_
          rintro e v3 ⟨a3, c3, n3, hn3, rfl, hb⟩
          have E0 := (D0.alloc (Obj.cells #[.int .u64 n.a, .int .u64 n.b, .int .u64 n.c] 25)).keep hb
          have EO := (DO.alloc (Obj.cells #[.int .u64 n.a, .int .u64 n.b, .int .u64 n.c] 25)).keep hb
          have EX := (At.new v2 25 #[.int .u64 n.a, .int .u64 n.b, .int .u64 n.c]).keep hb
          have hB3 : Below w.heap.size w v3 := below_from hB2 hB2.size (below_of hb)
          have rO3 := EO.rd
          have rX3 := EX.rd
          clear hb rd0 rdO D0 DO hB2 lo2 l02
          go_wp2_with fail
          go_roundw
          case rel => exact ⟨k + 1, c, n, O.z, by omega, by omega, by go_num, by omega, by simp only [O.z]; omega, fun _ => rfl, E0, hB3⟩
          case measure => (simp [intOf] <;> omega)
    · have hway : ¬ k < len ∨ (k < len ∧ ¬ k < 40) := by omega
      clear hin hA
      rcases hway with hkl | ⟨hkl, hk40⟩
      all_goals
        go_wp2_with fail
        refine (fixed_any _).mono ?_
        rintro e w1 ⟨rfl, hb1⟩
        have hB1 := below_from hB hB.size hb1
        clear hb1 hB
        go_wp2
        go_ret
        exact ⟨rfl, hB1⟩
end Go.Proofs.Ytnogfgpdgodalaa
