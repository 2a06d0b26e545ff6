/- The contract of slots' Find. -/
import Derived.Test.YtnogfgpdgodalaaB
import Derived.Test.YtnogfgpdgodalaaE
namespace Go.Proofs.Ytnogfgpdgodalaa
open Go.RowKit
set_option maxHeartbeats 1000000
set_option maxRecDepth 100000
set_option linter.unusedVariables false

def findB (id : Int) (o : O) : Bool := o.a != 0 && o.a == id
def findR (p c n : O) (id : Int) : O × Bool := match [c, n, p].find? (findB id) with
  | some o => (o, true)
  | none => (O.z, false)
theorem findB_zero {id : Int} {o : O} (h : o.a = 0) : findB id o = false := by unfold findB; simp [h]
theorem findB_yes {id : Int} {o : O} (h : ¬ o.a = 0) (h2 : o.a = id) : findB id o = true := by unfold findB; simp [h]; exact h2
theorem findB_no {id : Int} {o : O} (h2 : ¬ o.a = id) : findB id o = false := by unfold findB; simp; intro _; exact h2

def FindOk (p c n : O) (id : Int) (w : World) (e : Ending) (w' : World) : Prop :=
  e = .returned (.tuple #[.agg #[.int .u64 (findR p c n id).1.a, .int .u64 (findR p c n id).1.b, .int .u64 (findR p c n id).1.c], .bool (findR p c n id).2]) ∧ Below w.heap.size w w'

theorem find_none (p c n : O) (id : Int) (w : World) (hz : ((c.a == 0 && c.b == 0 && c.c == 0) && (n.a == 0 && n.b == 0 && n.c == 0) && (p.a == 0 && p.b == 0 && p.c == 0)) = true) :
    Calls Try.prog 10 #[.agg #[.int .u64 p.a, .int .u64 p.b, .int .u64 p.c, .int .u64 c.a, .int .u64 c.b, .int .u64 c.c, .int .u64 n.a, .int .u64 n.b, .int .u64 n.c], .int .u64 id] w (FindOk p c n id w) := by
  have hf : findR p c n id = (O.z, false) := by
    simp at hz
    unfold findR
    have h1 := findB_zero (id := id) hz.1.1.1.1
    have h2 := findB_zero (id := id) hz.1.2.1.1
    have h3 := findB_zero (id := id) hz.2.1.1
    simp [List.find?, h1, h2, h3]
  have HF := Lib.hid hf
  clear hf
  go_enter Try.func10, Try.ntmps10
  go_wp2_with fail
  refine (order_any _ _ _ _ _ _ _ _ _ _).mono ?_
  rintro e w1 ⟨rfl, hb⟩
  have hA := (At.new (w.alloc (Obj.cells #[.int .u64 p.a, .int .u64 p.b, .int .u64 p.c, .int .u64 c.a, .int .u64 c.b, .int .u64 c.c, .int .u64 n.a, .int .u64 n.b, .int .u64 n.c] 27)) 25 #[.int .u64 0, .int .u64 0, .int .u64 0]).keep hb
  simp only [World.size_alloc] at hA
  have hB := below_of2 hb
  have hr := hA.rd
  have hf := hA.fr
  clear hb
  have he := fun W => eq40_any c.a c.b c.c n.a n.b n.c p.a p.b p.c 0 0 0 0 0 0 0 0 0 W
  rw [hz] at he
  clear hz
  go_wp2_with fail
  refine bodyPost_ret (v := .tuple #[.agg #[.int .u64 0, .int .u64 0, .int .u64 0], .bool false]) (by simp [results, Try.results10, go_sem, hr]) rfl ⟨by rw [HF.out]; rfl, ?_⟩
  go_grown

theorem find_some (p c n : O) (id : Int) (w : World) (hz : ((c.a == 0 && c.b == 0 && c.c == 0) && (n.a == 0 && n.b == 0 && n.c == 0) && (p.a == 0 && p.b == 0 && p.c == 0)) = false) :
    Calls Try.prog 10 #[.agg #[.int .u64 p.a, .int .u64 p.b, .int .u64 p.c, .int .u64 c.a, .int .u64 c.b, .int .u64 c.c, .int .u64 n.a, .int .u64 n.b, .int .u64 n.c], .int .u64 id] w (FindOk p c n id w) := by
  have he := fun W => eq40_any c.a c.b c.c n.a n.b n.c p.a p.b p.c 0 0 0 0 0 0 0 0 0 W
  rw [hz] at he
  clear hz
  go_enter Try.func10, Try.ntmps10
  go_wp2_with fail
  refine (order_any _ _ _ _ _ _ _ _ _ _).mono ?_
  rintro e w1 ⟨rfl, hb⟩
  have hA := (At.new (w.alloc (Obj.cells #[.int .u64 p.a, .int .u64 p.b, .int .u64 p.c, .int .u64 c.a, .int .u64 c.b, .int .u64 c.c, .int .u64 n.a, .int .u64 n.b, .int .u64 n.c] 27)) 25 #[.int .u64 0, .int .u64 0, .int .u64 0]).keep hb
  have hA2 := ((At.new w 27 #[.int .u64 p.a, .int .u64 p.b, .int .u64 p.c, .int .u64 c.a, .int .u64 c.b, .int .u64 c.c, .int .u64 n.a, .int .u64 n.b, .int .u64 n.c]).alloc (Obj.cells #[.int .u64 0, .int .u64 0, .int .u64 0] 25)).keep hb
  simp only [World.size_alloc] at hA
  have hB := below_of2 hb
  have hr := hA2.rd
  have HA := Lib.hid hA
  clear hb hA
  go_wp2_with fail
  refine (order_any _ _ _ _ _ _ _ _ _ _).mono ?_
  rintro e w2 ⟨rfl, hb⟩
  have HA := Lib.hid (HA.out.keep hb)
  have hB := below_from hB hB.size hb
  clear hr hA2 hb he
  go_wp2_with fail
  go_loopw [15] (fun i wr => ∃ (k : Nat) (x : Int), k ≤ 3 ∧ x = k ∧ i = .int .i64 x ∧ (∀ o ∈ [c, n, p].take k, findB id o = false) ∧ At wr (w.heap.size + 1) 25 #[.int .u64 0, .int .u64 0, .int .u64 0] ∧ Below w.heap.size w wr) (fun i _ => 3 - (intOf i).toNat)
  case atStart => exact ⟨0, 0, by omega, rfl, rfl, fun o ho => by simp at ho, HA.out, hB⟩
  case round =>
    obtain ⟨k, x, hk, hx, rfl, hno, hA, hBr⟩ := hrel
    have HN := Lib.hid hno
    have HA := Lib.hid hA
    have la := hA.lt
    clear hno hA hB
    rcases (by omega : k = 0 ∨ k = 1 ∨ k = 2 ∨ k = 3) with rfl | rfl | rfl | rfl
    · have hx' : x = 0 := by omega
      subst hx'
      clear hx hk
      have ix := fun w => index40_0 c.a c.b c.c n.a n.b n.c p.a p.b p.c w
      by_cases h0 : c.a = 0
      · have HZ := Lib.hid (findB_zero (id := id) h0)
        have ht : ∀ W, Calls Try.prog 14 #[.agg #[.int .u64 c.a, .int .u64 c.b, .int .u64 c.c]] W fun e w' => e = .returned (.bool false) ∧ Below W.heap.size W w' := fun W => by rw [h0]; exact there_no _ _ _
        have HT := Lib.hid ht
        clear ht h0
        go_wp2_with fail
        refine (HT.out _).mono ?_
        rintro e w2 ⟨rfl, hb⟩
        have hB2 := below_from hBr hBr.size (below_of hb)
        have hA2 := (HA.out.alloc (Obj.cells #[.int .u64 c.a, .int .u64 c.b, .int .u64 c.c] 25)).keep hb
        have hA3 := (At.new wr 25 #[.int .u64 c.a, .int .u64 c.b, .int .u64 c.c]).keep hb
        clear hb HT

        clear hA3
        have HA2 := Lib.hid hA2
        clear hA2
        go_wp2_with fail
        go_roundw
        case rel => exact ⟨1, 1, by omega, rfl, rfl, by rw [show [c, n, p].take 1 = [c, n, p].take 0 ++ [c] from rfl]; intro o ho; rcases List.mem_append.1 ho with ho | ho; exact HN.out o ho; simp at ho; subst ho; exact HZ.out, HA2.out, hB2⟩
        case measure => (simp [intOf] <;> omega)
      · have ht : ∀ W, Calls Try.prog 14 #[.agg #[.int .u64 c.a, .int .u64 c.b, .int .u64 c.c]] W fun e w' => e = .returned (.bool true) ∧ Below W.heap.size W w' := fun W => there_yes _ _ _ (by simp [h0]) _
        have HT := Lib.hid ht
        by_cases h1 : c.a = id
        · have h1' : (c.a == id) = true := beq_iff_eq.2 h1
          have hz := findB_yes h0 h1
          have hf : findR p c n id = (c, true) := by unfold findR; simp [List.find?, hz]
          have HF := Lib.hid hf
          clear hf hz ht h0 h1
          go_wp2_with fail
          refine (HT.out _).mono ?_
          rintro e w2 ⟨rfl, hb⟩
          have hB2 := below_from hBr hBr.size (below_of hb)
          have hA2 := (HA.out.alloc (Obj.cells #[.int .u64 c.a, .int .u64 c.b, .int .u64 c.c] 25)).keep hb
          have hA3 := (At.new wr 25 #[.int .u64 c.a, .int .u64 c.b, .int .u64 c.c]).keep hb
          clear hb HT
          have hrd := hA3.rd
          have hrd2 := hA2.fr
          have hrd3 := hA2.rd
          have l2 := hA2.lt
          have l3 := hA3.lt
          go_wp2_with fail
          refine bodyPost_ret (v := .tuple #[.agg #[.int .u64 c.a, .int .u64 c.b, .int .u64 c.c], .bool true]) (by simp [results, Try.results10, go_sem, hrd3]) rfl ⟨by rw [HF.out], ?_⟩
          go_grown
        · have h1' : (c.a == id) = false := beq_eq_false_iff_ne.2 h1
          have HZ := Lib.hid (findB_no h1)
          clear ht h0 h1
          go_wp2_with fail
          refine (HT.out _).mono ?_
          rintro e w2 ⟨rfl, hb⟩
          have hB2 := below_from hBr hBr.size (below_of hb)
          have hA2 := (HA.out.alloc (Obj.cells #[.int .u64 c.a, .int .u64 c.b, .int .u64 c.c] 25)).keep hb
          have hA3 := (At.new wr 25 #[.int .u64 c.a, .int .u64 c.b, .int .u64 c.c]).keep hb
          clear hb HT

          have hrd := hA3.rd
          have l3 := hA3.lt

          have HA2 := Lib.hid hA2
          clear hA2
          go_wp2_with fail
          go_roundw
          case rel => exact ⟨1, 1, by omega, rfl, rfl, by rw [show [c, n, p].take 1 = [c, n, p].take 0 ++ [c] from rfl]; intro o ho; rcases List.mem_append.1 ho with ho | ho; exact HN.out o ho; simp at ho; subst ho; exact HZ.out, HA2.out, hB2⟩
          case measure => (simp [intOf] <;> omega)
    · have hx' : x = 1 := by omega
      subst hx'
      clear hx hk
      have ix := fun w => index40_1 c.a c.b c.c n.a n.b n.c p.a p.b p.c w
      by_cases h0 : n.a = 0
      · have HZ := Lib.hid (findB_zero (id := id) h0)
        have ht : ∀ W, Calls Try.prog 14 #[.agg #[.int .u64 n.a, .int .u64 n.b, .int .u64 n.c]] W fun e w' => e = .returned (.bool false) ∧ Below W.heap.size W w' := fun W => by rw [h0]; exact there_no _ _ _
        have HT := Lib.hid ht
        clear ht h0
        go_wp2_with fail
        refine (HT.out _).mono ?_
        rintro e w2 ⟨rfl, hb⟩
        have hB2 := below_from hBr hBr.size (below_of hb)
        have hA2 := (HA.out.alloc (Obj.cells #[.int .u64 n.a, .int .u64 n.b, .int .u64 n.c] 25)).keep hb
        have hA3 := (At.new wr 25 #[.int .u64 n.a, .int .u64 n.b, .int .u64 n.c]).keep hb
        clear hb HT

        clear hA3
        have HA2 := Lib.hid hA2
        clear hA2
        go_wp2_with fail
        go_roundw
        case rel => exact ⟨2, 2, by omega, rfl, rfl, by rw [show [c, n, p].take 2 = [c, n, p].take 1 ++ [n] from rfl]; intro o ho; rcases List.mem_append.1 ho with ho | ho; exact HN.out o ho; simp at ho; subst ho; exact HZ.out, HA2.out, hB2⟩
        case measure => (simp [intOf] <;> omega)
      · have ht : ∀ W, Calls Try.prog 14 #[.agg #[.int .u64 n.a, .int .u64 n.b, .int .u64 n.c]] W fun e w' => e = .returned (.bool true) ∧ Below W.heap.size W w' := fun W => there_yes _ _ _ (by simp [h0]) _
        have HT := Lib.hid ht
        by_cases h1 : n.a = id
        · have h1' : (n.a == id) = true := beq_iff_eq.2 h1
          have hz := findB_yes h0 h1
          have hf : findR p c n id = (n, true) := by unfold findR; simp [List.find?, hz, HN.out c (by simp)]
          have HF := Lib.hid hf
          clear hf hz ht h0 h1
          go_wp2_with fail
          refine (HT.out _).mono ?_
          rintro e w2 ⟨rfl, hb⟩
          have hB2 := below_from hBr hBr.size (below_of hb)
          have hA2 := (HA.out.alloc (Obj.cells #[.int .u64 n.a, .int .u64 n.b, .int .u64 n.c] 25)).keep hb
          have hA3 := (At.new wr 25 #[.int .u64 n.a, .int .u64 n.b, .int .u64 n.c]).keep hb
          clear hb HT
          have hrd := hA3.rd
          have hrd2 := hA2.fr
          have hrd3 := hA2.rd
          have l2 := hA2.lt
          have l3 := hA3.lt
          go_wp2_with fail
          refine bodyPost_ret (v := .tuple #[.agg #[.int .u64 n.a, .int .u64 n.b, .int .u64 n.c], .bool true]) (by simp [results, Try.results10, go_sem, hrd3]) rfl ⟨by rw [HF.out], ?_⟩
          go_grown
        · have h1' : (n.a == id) = false := beq_eq_false_iff_ne.2 h1
          have HZ := Lib.hid (findB_no h1)
          clear ht h0 h1
          go_wp2_with fail
          refine (HT.out _).mono ?_
          rintro e w2 ⟨rfl, hb⟩
          have hB2 := below_from hBr hBr.size (below_of hb)
          have hA2 := (HA.out.alloc (Obj.cells #[.int .u64 n.a, .int .u64 n.b, .int .u64 n.c] 25)).keep hb
          have hA3 := (At.new wr 25 #[.int .u64 n.a, .int .u64 n.b, .int .u64 n.c]).keep hb
          clear hb HT

          have hrd := hA3.rd
          have l3 := hA3.lt

          have HA2 := Lib.hid hA2
          clear hA2
          go_wp2_with fail
          go_roundw
          case rel => exact ⟨2, 2, by omega, rfl, rfl, by rw [show [c, n, p].take 2 = [c, n, p].take 1 ++ [n] from rfl]; intro o ho; rcases List.mem_append.1 ho with ho | ho; exact HN.out o ho; simp at ho; subst ho; exact HZ.out, HA2.out, hB2⟩
          case measure => (simp [intOf] <;> omega)
    · have hx' : x = 2 := by omega
      subst hx'
      clear hx hk
      have ix := fun w => index40_2 c.a c.b c.c n.a n.b n.c p.a p.b p.c w
      by_cases h0 : p.a = 0
      · have HZ := Lib.hid (findB_zero (id := id) h0)
        have ht : ∀ W, Calls Try.prog 14 #[.agg #[.int .u64 p.a, .int .u64 p.b, .int .u64 p.c]] W fun e w' => e = .returned (.bool false) ∧ Below W.heap.size W w' := fun W => by rw [h0]; exact there_no _ _ _
        have HT := Lib.hid ht
        clear ht h0
        go_wp2_with fail
        refine (HT.out _).mono ?_
        rintro e w2 ⟨rfl, hb⟩
        have hB2 := below_from hBr hBr.size (below_of hb)
        have hA2 := (HA.out.alloc (Obj.cells #[.int .u64 p.a, .int .u64 p.b, .int .u64 p.c] 25)).keep hb
        have hA3 := (At.new wr 25 #[.int .u64 p.a, .int .u64 p.b, .int .u64 p.c]).keep hb
        clear hb HT

        clear hA3
        have HA2 := Lib.hid hA2
        clear hA2
        go_wp2_with fail
        go_roundw
        case rel => exact ⟨3, 3, by omega, rfl, rfl, by rw [show [c, n, p].take 3 = [c, n, p].take 2 ++ [p] from rfl]; intro o ho; rcases List.mem_append.1 ho with ho | ho; exact HN.out o ho; simp at ho; subst ho; exact HZ.out, HA2.out, hB2⟩
        case measure => (simp [intOf] <;> omega)
      · have ht : ∀ W, Calls Try.prog 14 #[.agg #[.int .u64 p.a, .int .u64 p.b, .int .u64 p.c]] W fun e w' => e = .returned (.bool true) ∧ Below W.heap.size W w' := fun W => there_yes _ _ _ (by simp [h0]) _
        have HT := Lib.hid ht
        by_cases h1 : p.a = id
        · have h1' : (p.a == id) = true := beq_iff_eq.2 h1
          have hz := findB_yes h0 h1
          have hf : findR p c n id = (p, true) := by unfold findR; simp [List.find?, hz, HN.out c (by simp), HN.out n (by simp)]
          have HF := Lib.hid hf
          clear hf hz ht h0 h1
          go_wp2_with fail
          refine (HT.out _).mono ?_
          rintro e w2 ⟨rfl, hb⟩
          have hB2 := below_from hBr hBr.size (below_of hb)
          have hA2 := (HA.out.alloc (Obj.cells #[.int .u64 p.a, .int .u64 p.b, .int .u64 p.c] 25)).keep hb
          have hA3 := (At.new wr 25 #[.int .u64 p.a, .int .u64 p.b, .int .u64 p.c]).keep hb
          clear hb HT
          have hrd := hA3.rd
          have hrd2 := hA2.fr
          have hrd3 := hA2.rd
          have l2 := hA2.lt
          have l3 := hA3.lt
          go_wp2_with fail
          refine bodyPost_ret (v := .tuple #[.agg #[.int .u64 p.a, .int .u64 p.b, .int .u64 p.c], .bool true]) (by simp [results, Try.results10, go_sem, hrd3]) rfl ⟨by rw [HF.out], ?_⟩
          go_grown
        · have h1' : (p.a == id) = false := beq_eq_false_iff_ne.2 h1
          have HZ := Lib.hid (findB_no h1)
          clear ht h0 h1
          go_wp2_with fail
          refine (HT.out _).mono ?_
          rintro e w2 ⟨rfl, hb⟩
          have hB2 := below_from hBr hBr.size (below_of hb)
          have hA2 := (HA.out.alloc (Obj.cells #[.int .u64 p.a, .int .u64 p.b, .int .u64 p.c] 25)).keep hb
          have hA3 := (At.new wr 25 #[.int .u64 p.a, .int .u64 p.b, .int .u64 p.c]).keep hb
          clear hb HT

          have hrd := hA3.rd
          have l3 := hA3.lt

          have HA2 := Lib.hid hA2
          clear hA2
          go_wp2_with fail
          go_roundw
          case rel => exact ⟨3, 3, by omega, rfl, rfl, by rw [show [c, n, p].take 3 = [c, n, p].take 2 ++ [p] from rfl]; intro o ho; rcases List.mem_append.1 ho with ho | ho; exact HN.out o ho; simp at ho; subst ho; exact HZ.out, HA2.out, hB2⟩
          case measure => (simp [intOf] <;> omega)
    · have hx' : x = 3 := by omega
      subst hx'
      have hf : findR p c n id = (O.z, false) := by
        unfold findR
        simp [List.find?, HN.out c (by simp), HN.out n (by simp), HN.out p (by simp)]
      have HF := Lib.hid hf
      have hrd2 := HA.out.fr
      have hrd3 := HA.out.rd
      clear hf hx hk
      go_wp2_with fail
      refine bodyPost_ret (v := .tuple #[.agg #[.int .u64 0, .int .u64 0, .int .u64 0], .bool false]) (by simp [results, Try.results10, go_sem, hrd3]) rfl ⟨by rw [HF.out]; rfl, ?_⟩
      go_grown

theorem find_any (p c n : O) (id : Int) (w : World) :
    Calls Try.prog 10 #[.agg #[.int .u64 p.a, .int .u64 p.b, .int .u64 p.c, .int .u64 c.a, .int .u64 c.b, .int .u64 c.c, .int .u64 n.a, .int .u64 n.b, .int .u64 n.c], .int .u64 id] w (FindOk p c n id w) := by
  cases hz : ((c.a == 0 && c.b == 0 && c.c == 0) && (n.a == 0 && n.b == 0 && n.c == 0) && (p.a == 0 && p.b == 0 && p.c == 0))
  · exact find_some p c n id w hz
  · exact find_none p c n id w hz
end Go.Proofs.Ytnogfgpdgodalaa
