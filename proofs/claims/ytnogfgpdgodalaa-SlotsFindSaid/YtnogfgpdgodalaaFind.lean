/- The walk of SlotsFind. -/
import Derived.Test.YtnogfgpdgodalaaAge
namespace Go.Proofs.Ytnogfgpdgodalaa
open Go.RowKit
set_option maxHeartbeats 4000000
set_option maxRecDepth 100000
set_option linter.unusedVariables false

theorem at_new2 (w : World) (o o2 : Obj) (t : TypeId) (C : Array Value) : At (((w.alloc o).alloc o2).alloc (.cells C t)) (w.heap.size + 1 + 1) t C := by
  have h := At.new ((w.alloc o).alloc o2) t C
  rw [World.size_alloc, World.size_alloc] at h
  exact h
theorem Reads.far {W : World} {g b o : Nat} {L : List O} {v : Value} (r : Reads W (some ⟨g, 0, none⟩) L) (hn : g ≠ b) : Reads (W.setCell ⟨b, o, none⟩ v) (some ⟨g, 0, none⟩) L := fun k h => by
  obtain ⟨g', ha, hl, c0, c1, c2⟩ := r k h
  have hg : g = g' := by injection ha with ha; injection ha
  subst hg
  exact ⟨g, rfl, by simpa [World.setCell] using hl, keepS c0 hn, keepS c1 hn, keepS c2 hn⟩
theorem Mem.ne {B : Nat} {a W : World} {L : List (Nat × TypeId × Array Value)} (m : Mem B a W L) : ∀ x ∈ L, x.1 ≠ W.heap.size := fun x hx => Nat.ne_of_lt (m.all x hx).lt
/-- the last one of a number. -/
def wantL (id : Int) : List O → O × Bool := List.foldl (fun a o => if findB id o then (o, true) else a) (O.z, false)
theorem wantL_app (id : Int) (l : List O) (o : O) : wantL id (l ++ [o]) = if findB id o then (o, true) else wantL id l := by
  unfold wantL; rw [List.foldl_append]; rfl
theorem wantL_find (p c n : O) (id : Int) : wantL id [p, n, c] = findR p c n id := by
  unfold wantL findR
  simp only [List.foldl, List.find?]
  cases findB id p <;> cases findB id c <;> cases findB id n <;> rfl
theorem findB_id (id : Int) (o : O) (h : ¬ id = 0) (h2 : o.a = id) : findB id o = true := findB_yes (by omega) h2
theorem findB_id0 (id : Int) (o : O) (h : id = 0) : findB id o = false := by unfold findB; subst h; simp
theorem many_len (p c n : O) : ([p, n, c].filter fun o => o.a != 0).length = (allL p c n).length := by
  unfold allL
  simp only [List.filter_cons, List.filter_nil]
  cases (p.a != 0) <;> cases (c.a != 0) <;> cases (n.a != 0) <;> rfl
theorem find_mem (p c n e : O) (h : e ∈ allL p c n) : (findR p c n e.a).2 = true ∧ (e.a == 0) = false := by
  unfold allL at h
  rw [List.mem_filter] at h
  obtain ⟨hm, hz⟩ := h
  have hb : findB e.a e = true := by unfold findB; rw [hz]; simp
  refine ⟨?_, by simpa using hz⟩
  unfold findR
  simp only [List.find?]
  simp only [List.mem_cons, List.not_mem_nil, or_false] at hm
  rcases hm with rfl | rfl | rfl
  · rw [hb]
  · rw [hb]; cases findB e.a c <;> rfl
  · rw [hb]; cases findB e.a c <;> cases findB e.a n <;> rfl

def FindSome (w : World) (e : Ending) (w' : World) : Prop := ∃ a b c : Int, e = .returned (.tuple #[.agg #[.int .u64 a, .int .u64 b, .int .u64 c], .bool true]) ∧ Below w.heap.size w w'
theorem find_is (p c n : O) (id : Int) (w : World) (h : (findR p c n id).2 = true) :
    Calls Try.prog 10 #[.agg #[.int .u64 p.a, .int .u64 p.b, .int .u64 p.c, .int .u64 c.a, .int .u64 c.b, .int .u64 c.c, .int .u64 n.a, .int .u64 n.b, .int .u64 n.c], .int .u64 id] w (FindSome w) :=
  (find_any p c n id w).mono fun e w' r => ⟨(findR p c n id).1.a, (findR p c n id).1.b, (findR p c n id).1.c, by have h1 := r.1; rw [h] at h1; exact h1, r.2⟩

theorem findlaw_core (p c n : O) (id : Int) (w : World) :
    Calls Try.prog 5 #[.agg #[.int .u64 p.a, .int .u64 p.b, .int .u64 p.c, .int .u64 c.a, .int .u64 c.b, .int .u64 c.c, .int .u64 n.a, .int .u64 n.b, .int .u64 n.c], .int .u64 id] w fun en w' => en = .returned (.bool true) ∧ Below w.heap.size w w' := by
  have t1 := fun W => find_any p c n id W
  unfold FindOk at t1
  have hw := wantL_find p c n id
  generalize hR : findR p c n id = R at t1 hw
  obtain ⟨x, is⟩ := R
  simp only [] at t1
  have T1 := Lib.hid t1
  have HWN := Lib.hid hw
  clear t1 hw hR
  go_enter Try.func5, Try.ntmps5
  go_wp2_with fail
  refine (T1.out _).mono ?_
  rintro e x1 ⟨rfl, hb⟩
  have A2 := (At.new w 27 #[.int .u64 p.a, .int .u64 p.b, .int .u64 p.c, .int .u64 c.a, .int .u64 c.b, .int .u64 c.c, .int .u64 n.a, .int .u64 n.b, .int .u64 n.c]).keep hb
  have hB1 := below_of hb
  have l2 := A2.lt
  have r2 := A2.rd
  clear hb
  go_wp2_with fail
  have B2 := ((A2.alloc (Obj.cells #[.int .u64 x.a, .int .u64 x.b, .int .u64 x.c] 25)).alloc (Obj.cells #[.int .u64 0, .int .u64 0, .int .u64 0] 25)).alloc (Obj.cells #[.int .u64 p.a, .int .u64 p.b, .int .u64 p.c, .int .u64 n.a, .int .u64 n.b, .int .u64 n.c, .int .u64 c.a, .int .u64 c.b, .int .u64 c.c] 25)
  have B5 := ((At.new x1 25 #[.int .u64 x.a, .int .u64 x.b, .int .u64 x.c]).alloc (Obj.cells #[.int .u64 0, .int .u64 0, .int .u64 0] 25)).alloc (Obj.cells #[.int .u64 p.a, .int .u64 p.b, .int .u64 p.c, .int .u64 n.a, .int .u64 n.b, .int .u64 n.c, .int .u64 c.a, .int .u64 c.b, .int .u64 c.c] 25)
  have B7 := (at_new1 x1 (Obj.cells #[.int .u64 x.a, .int .u64 x.b, .int .u64 x.c] 25) 25 #[.int .u64 0, .int .u64 0, .int .u64 0]).alloc (Obj.cells #[.int .u64 p.a, .int .u64 p.b, .int .u64 p.c, .int .u64 n.a, .int .u64 n.b, .int .u64 n.c, .int .u64 c.a, .int .u64 c.b, .int .u64 c.c] 25)
  have B9 := at_new2 x1 (Obj.cells #[.int .u64 x.a, .int .u64 x.b, .int .u64 x.c] 25) (Obj.cells #[.int .u64 0, .int .u64 0, .int .u64 0] 25) 25 #[.int .u64 p.a, .int .u64 p.b, .int .u64 p.c, .int .u64 n.a, .int .u64 n.b, .int .u64 n.c, .int .u64 c.a, .int .u64 c.b, .int .u64 c.c]
  have hB2 : Below w.heap.size w (((x1.alloc (Obj.cells #[.int .u64 x.a, .int .u64 x.b, .int .u64 x.c] 25)).alloc (Obj.cells #[.int .u64 0, .int .u64 0, .int .u64 0] 25)).alloc (Obj.cells #[.int .u64 p.a, .int .u64 p.b, .int .u64 p.c, .int .u64 n.a, .int .u64 n.b, .int .u64 n.c, .int .u64 c.a, .int .u64 c.b, .int .u64 c.c] 25)) := by go_grown
  generalize hxs : x1.heap.size = S at B2 B5 B7 B9 l2 hB2 ⊢
  clear hxs A2 r2
  generalize ((x1.alloc (Obj.cells #[.int .u64 x.a, .int .u64 x.b, .int .u64 x.c] 25)).alloc (Obj.cells #[.int .u64 0, .int .u64 0, .int .u64 0] 25)).alloc (Obj.cells #[.int .u64 p.a, .int .u64 p.b, .int .u64 p.c, .int .u64 n.a, .int .u64 n.b, .int .u64 n.c, .int .u64 c.a, .int .u64 c.b, .int .u64 c.c] 25) = W0 at B2 B5 B7 B9 hB2 ⊢
  clear hB1
  go_loopw [8, 10] (fun h i wr => ∃ (k : Nat) (y : Int) (q : O) (b : Bool), k ≤ 3 ∧ y = k ∧ i = .int .i64 y ∧ (q, b) = wantL id ([p, n, c].take k) ∧ h = .bool b ∧ At wr w.heap.size 27 #[.int .u64 p.a, .int .u64 p.b, .int .u64 p.c, .int .u64 c.a, .int .u64 c.b, .int .u64 c.c, .int .u64 n.a, .int .u64 n.b, .int .u64 n.c] ∧ At wr S 25 #[.int .u64 x.a, .int .u64 x.b, .int .u64 x.c] ∧ At wr (S + 1) 25 #[.int .u64 q.a, .int .u64 q.b, .int .u64 q.c] ∧ At wr (S + 1 + 1) 25 #[.int .u64 p.a, .int .u64 p.b, .int .u64 p.c, .int .u64 n.a, .int .u64 n.b, .int .u64 n.c, .int .u64 c.a, .int .u64 c.b, .int .u64 c.c] ∧ Below w.heap.size w wr) (fun _ i _ => 3 - (intOf i).toNat)
  case atStart => exact ⟨0, 0, O.z, false, by omega, rfl, rfl, rfl, rfl, B2, B5, B7, B9, hB2⟩
  case round =>
    obtain ⟨k, y, q, b, hk, hy, rfl, hq, rfl, C2, C5, C7, C9, hBr⟩ := hrel
    clear B2 B5 B7 B9 hB2
    rcases (by omega : k = 0 ∨ k = 1 ∨ k = 2 ∨ k = 3) with rfl | rfl | rfl | rfl
    · have hy' : y = 0 := by omega
      subst hy'
      clear hy hk
      have r9 := C9.rd
      have l7 := C7.lt
      have f7 := C7.fr
      have r7 := C7.rd
      by_cases h0 : id = 0
      · have hq2 : (q, b) = wantL id ([p, n, c].take 1) := by rw [show [p, n, c].take 1 = [p, n, c].take 0 ++ [p] from rfl, wantL_app, findB_id0 id p h0]; simpa using hq
        have h0' : (id != 0) = false := by simp [h0]
        have h0'' : ¬ (id != 0) = true := by simp [h0]
        have HQ2 := Lib.hid hq2
        clear hq2 hq h0
        go_wp2_with fail
        go_roundw
        case rel => exact ⟨1, 1, q, b, by omega, rfl, rfl, HQ2.out, rfl, C2, C5, C7, C9, hBr⟩
        case measure => (simp [intOf] <;> omega)
      · have h0' : (id != 0) = true := by simp [h0]
        by_cases h1 : p.a = id
        · have hq2 : (p, true) = wantL id ([p, n, c].take 1) := by rw [show [p, n, c].take 1 = [p, n, c].take 0 ++ [p] from rfl, wantL_app, findB_id id p h0 h1]; simp
          have h1' : (p.a == id) = true := beq_iff_eq.2 h1
          have HQ2 := Lib.hid hq2
          clear hq2 hq h0 h1
          go_wp2_with fail
          go_roundw
          case rel => exact ⟨1, 1, p, true, by omega, rfl, rfl, HQ2.out, rfl, ((C2.other (b2 := S + 1) (o := 0) (v := .int .u64 p.a) (by omega)).other (b2 := S + 1) (o := 1) (v := .int .u64 p.b) (by omega)).other (b2 := S + 1) (o := 2) (v := .int .u64 p.c) (by omega), ((C5.other (b2 := S + 1) (o := 0) (v := .int .u64 p.a) (by omega)).other (b2 := S + 1) (o := 1) (v := .int .u64 p.b) (by omega)).other (b2 := S + 1) (o := 2) (v := .int .u64 p.c) (by omega), by simpa using ((C7.set (o := 0) (v := .int .u64 p.a)).set (o := 1) (v := .int .u64 p.b)).set (o := 2) (v := .int .u64 p.c), ((C9.other (b2 := S + 1) (o := 0) (v := .int .u64 p.a) (by omega)).other (b2 := S + 1) (o := 1) (v := .int .u64 p.b) (by omega)).other (b2 := S + 1) (o := 2) (v := .int .u64 p.c) (by omega), by go_grown⟩
          case measure => (simp [intOf] <;> omega)
        · have hq2 : (q, b) = wantL id ([p, n, c].take 1) := by rw [show [p, n, c].take 1 = [p, n, c].take 0 ++ [p] from rfl, wantL_app, findB_no h1]; simpa using hq
          have h1' : (p.a == id) = false := beq_eq_false_iff_ne.2 h1
          have HQ2 := Lib.hid hq2
          clear hq2 hq h0 h1
          go_wp2_with fail
          go_roundw
          case rel => exact ⟨1, 1, q, b, by omega, rfl, rfl, HQ2.out, rfl, C2, C5, C7, C9, hBr⟩
          case measure => (simp [intOf] <;> omega)
    · have hy' : y = 1 := by omega
      subst hy'
      clear hy hk
      have r9 := C9.rd
      have l7 := C7.lt
      have f7 := C7.fr
      have r7 := C7.rd
      by_cases h0 : id = 0
      · have hq2 : (q, b) = wantL id ([p, n, c].take 2) := by rw [show [p, n, c].take 2 = [p, n, c].take 1 ++ [n] from rfl, wantL_app, findB_id0 id n h0]; simpa using hq
        have h0' : (id != 0) = false := by simp [h0]
        have h0'' : ¬ (id != 0) = true := by simp [h0]
        have HQ2 := Lib.hid hq2
        clear hq2 hq h0
        go_wp2_with fail
        go_roundw
        case rel => exact ⟨2, 2, q, b, by omega, rfl, rfl, HQ2.out, rfl, C2, C5, C7, C9, hBr⟩
        case measure => (simp [intOf] <;> omega)
      · have h0' : (id != 0) = true := by simp [h0]
        by_cases h1 : n.a = id
        · have hq2 : (n, true) = wantL id ([p, n, c].take 2) := by rw [show [p, n, c].take 2 = [p, n, c].take 1 ++ [n] from rfl, wantL_app, findB_id id n h0 h1]; simp
          have h1' : (n.a == id) = true := beq_iff_eq.2 h1
          have HQ2 := Lib.hid hq2
          clear hq2 hq h0 h1
          go_wp2_with fail
          go_roundw
          case rel => exact ⟨2, 2, n, true, by omega, rfl, rfl, HQ2.out, rfl, ((C2.other (b2 := S + 1) (o := 0) (v := .int .u64 n.a) (by omega)).other (b2 := S + 1) (o := 1) (v := .int .u64 n.b) (by omega)).other (b2 := S + 1) (o := 2) (v := .int .u64 n.c) (by omega), ((C5.other (b2 := S + 1) (o := 0) (v := .int .u64 n.a) (by omega)).other (b2 := S + 1) (o := 1) (v := .int .u64 n.b) (by omega)).other (b2 := S + 1) (o := 2) (v := .int .u64 n.c) (by omega), by simpa using ((C7.set (o := 0) (v := .int .u64 n.a)).set (o := 1) (v := .int .u64 n.b)).set (o := 2) (v := .int .u64 n.c), ((C9.other (b2 := S + 1) (o := 0) (v := .int .u64 n.a) (by omega)).other (b2 := S + 1) (o := 1) (v := .int .u64 n.b) (by omega)).other (b2 := S + 1) (o := 2) (v := .int .u64 n.c) (by omega), by go_grown⟩
          case measure => (simp [intOf] <;> omega)
        · have hq2 : (q, b) = wantL id ([p, n, c].take 2) := by rw [show [p, n, c].take 2 = [p, n, c].take 1 ++ [n] from rfl, wantL_app, findB_no h1]; simpa using hq
          have h1' : (n.a == id) = false := beq_eq_false_iff_ne.2 h1
          have HQ2 := Lib.hid hq2
          clear hq2 hq h0 h1
          go_wp2_with fail
          go_roundw
          case rel => exact ⟨2, 2, q, b, by omega, rfl, rfl, HQ2.out, rfl, C2, C5, C7, C9, hBr⟩
          case measure => (simp [intOf] <;> omega)
    · have hy' : y = 2 := by omega
      subst hy'
      clear hy hk
      have r9 := C9.rd
      have l7 := C7.lt
      have f7 := C7.fr
      have r7 := C7.rd
      by_cases h0 : id = 0
      · have hq2 : (q, b) = wantL id ([p, n, c].take 3) := by rw [show [p, n, c].take 3 = [p, n, c].take 2 ++ [c] from rfl, wantL_app, findB_id0 id c h0]; simpa using hq
        have h0' : (id != 0) = false := by simp [h0]
        have h0'' : ¬ (id != 0) = true := by simp [h0]
        have HQ2 := Lib.hid hq2
        clear hq2 hq h0
        go_wp2_with fail
        go_roundw
        case rel => exact ⟨3, 3, q, b, by omega, rfl, rfl, HQ2.out, rfl, C2, C5, C7, C9, hBr⟩
        case measure => (simp [intOf] <;> omega)
      · have h0' : (id != 0) = true := by simp [h0]
        by_cases h1 : c.a = id
        · have hq2 : (c, true) = wantL id ([p, n, c].take 3) := by rw [show [p, n, c].take 3 = [p, n, c].take 2 ++ [c] from rfl, wantL_app, findB_id id c h0 h1]; simp
          have h1' : (c.a == id) = true := beq_iff_eq.2 h1
          have HQ2 := Lib.hid hq2
          clear hq2 hq h0 h1
          go_wp2_with fail
          go_roundw
          case rel => exact ⟨3, 3, c, true, by omega, rfl, rfl, HQ2.out, rfl, ((C2.other (b2 := S + 1) (o := 0) (v := .int .u64 c.a) (by omega)).other (b2 := S + 1) (o := 1) (v := .int .u64 c.b) (by omega)).other (b2 := S + 1) (o := 2) (v := .int .u64 c.c) (by omega), ((C5.other (b2 := S + 1) (o := 0) (v := .int .u64 c.a) (by omega)).other (b2 := S + 1) (o := 1) (v := .int .u64 c.b) (by omega)).other (b2 := S + 1) (o := 2) (v := .int .u64 c.c) (by omega), by simpa using ((C7.set (o := 0) (v := .int .u64 c.a)).set (o := 1) (v := .int .u64 c.b)).set (o := 2) (v := .int .u64 c.c), ((C9.other (b2 := S + 1) (o := 0) (v := .int .u64 c.a) (by omega)).other (b2 := S + 1) (o := 1) (v := .int .u64 c.b) (by omega)).other (b2 := S + 1) (o := 2) (v := .int .u64 c.c) (by omega), by go_grown⟩
          case measure => (simp [intOf] <;> omega)
        · have hq2 : (q, b) = wantL id ([p, n, c].take 3) := by rw [show [p, n, c].take 3 = [p, n, c].take 2 ++ [c] from rfl, wantL_app, findB_no h1]; simpa using hq
          have h1' : (c.a == id) = false := beq_eq_false_iff_ne.2 h1
          have HQ2 := Lib.hid hq2
          clear hq2 hq h0 h1
          go_wp2_with fail
          go_roundw
          case rel => exact ⟨3, 3, q, b, by omega, rfl, rfl, HQ2.out, rfl, C2, C5, C7, C9, hBr⟩
          case measure => (simp [intOf] <;> omega)
    · have hy' : y = 3 := by omega
      subst hy'
      clear hy hk
      rw [show [p, n, c].take 3 = [p, n, c] from rfl, HWN.out] at hq
      obtain ⟨rfl, rfl⟩ := Prod.mk.inj hq
      clear hq
      have r2 := C2.rd
      have l9 := C9.lt
      go_wp2_with fail
      refine (all_form p c n _).mono ?_
      rintro e v1 ⟨a, cap, rfl, hr, hb⟩
      have D2 := C2.keep hb
      have D5 := C5.keep hb
      have D7 := C7.keep hb
      have D9 := C9.keep hb
      have hB3 := below_from hBr hBr.size hb
      have hmany := many_len p c n
      have hmem := fun e => find_mem p c n e
      generalize allL p c n = L at hr hmany hmem
      have HR := Lib.hid hr
      have HMY := Lib.hid hmany
      have HME := Lib.hid hmem
      clear C2 C5 C7 C9 hBr hb r2 l9 hr hmany hmem
      have r9 := D9.rd
      go_wp2_with fail
      go_loop [12, 13] (fun m i => ∃ (k : Nat) (y : Int), k ≤ 3 ∧ y = k ∧ i = .int .i64 y ∧ m = .int .i64 (([p, n, c].take k).filter fun o => o.a != 0).length) (fun _ i => 3 - (intOf i).toNat)
      case atStart => exact ⟨0, 0, by omega, rfl, rfl, rfl⟩
      case round =>
        obtain ⟨k, y, hk, hy, rfl, rfl⟩ := hrel
        obtain ⟨m, hm⟩ : ∃ m, (([p, n, c].take k).filter fun o => o.a != 0).length = m := ⟨_, rfl⟩
        have hm3 : m ≤ 3 := by rw [← hm]; exact Nat.le_trans (List.length_filter_le _ _) (by simp; omega)
        rw [hm]
        have HM := Lib.hid hm
        clear hm
        rcases (by omega : k = 0 ∨ k = 1 ∨ k = 2 ∨ k = 3) with rfl | rfl | rfl | rfl
        · have hy' : y = 0 := by omega
          subst hy'
          clear hy hk
          by_cases h0 : p.a = 0
          · have hm2 : (([p, n, c].take 1).filter fun o => o.a != 0).length = m := by rw [show [p, n, c].take 1 = [p, n, c].take 0 ++ [p] from rfl, List.filter_append, List.length_append, HM.out]; simp [h0]
            have HM2 := Lib.hid hm2
            have h0' : (p.a != 0) = false := by simp [h0]
            clear hm2 h0
            go_wp2_with fail
            go_round
            case rel => exact ⟨1, 1, by omega, rfl, rfl, by rw [HM2.out]⟩
            case measure => (simp [intOf] <;> omega)
          · have hm2 : (([p, n, c].take 1).filter fun o => o.a != 0).length = m + 1 := by rw [show [p, n, c].take 1 = [p, n, c].take 0 ++ [p] from rfl, List.filter_append, List.length_append, HM.out]; simp [h0]
            have HM2 := Lib.hid hm2
            have h0' : (p.a != 0) = true := by simp [h0]
            clear hm2 h0
            go_wp2_with fail
            go_round
            case rel => exact ⟨1, 1, by omega, rfl, rfl, by rw [HM2.out]; go_num⟩
            case measure => (simp [intOf] <;> omega)
        · have hy' : y = 1 := by omega
          subst hy'
          clear hy hk
          by_cases h0 : n.a = 0
          · have hm2 : (([p, n, c].take 2).filter fun o => o.a != 0).length = m := by rw [show [p, n, c].take 2 = [p, n, c].take 1 ++ [n] from rfl, List.filter_append, List.length_append, HM.out]; simp [h0]
            have HM2 := Lib.hid hm2
            have h0' : (n.a != 0) = false := by simp [h0]
            clear hm2 h0
            go_wp2_with fail
            go_round
            case rel => exact ⟨2, 2, by omega, rfl, rfl, by rw [HM2.out]⟩
            case measure => (simp [intOf] <;> omega)
          · have hm2 : (([p, n, c].take 2).filter fun o => o.a != 0).length = m + 1 := by rw [show [p, n, c].take 2 = [p, n, c].take 1 ++ [n] from rfl, List.filter_append, List.length_append, HM.out]; simp [h0]
            have HM2 := Lib.hid hm2
            have h0' : (n.a != 0) = true := by simp [h0]
            clear hm2 h0
            go_wp2_with fail
            go_round
            case rel => exact ⟨2, 2, by omega, rfl, rfl, by rw [HM2.out]; go_num⟩
            case measure => (simp [intOf] <;> omega)
        · have hy' : y = 2 := by omega
          subst hy'
          clear hy hk
          by_cases h0 : c.a = 0
          · have hm2 : (([p, n, c].take 3).filter fun o => o.a != 0).length = m := by rw [show [p, n, c].take 3 = [p, n, c].take 2 ++ [c] from rfl, List.filter_append, List.length_append, HM.out]; simp [h0]
            have HM2 := Lib.hid hm2
            have h0' : (c.a != 0) = false := by simp [h0]
            clear hm2 h0
            go_wp2_with fail
            go_round
            case rel => exact ⟨3, 3, by omega, rfl, rfl, by rw [HM2.out]⟩
            case measure => (simp [intOf] <;> omega)
          · have hm2 : (([p, n, c].take 3).filter fun o => o.a != 0).length = m + 1 := by rw [show [p, n, c].take 3 = [p, n, c].take 2 ++ [c] from rfl, List.filter_append, List.length_append, HM.out]; simp [h0]
            have HM2 := Lib.hid hm2
            have h0' : (c.a != 0) = true := by simp [h0]
            clear hm2 h0
            go_wp2_with fail
            go_round
            case rel => exact ⟨3, 3, by omega, rfl, rfl, by rw [HM2.out]; go_num⟩
            case measure => (simp [intOf] <;> omega)
        · have hy' : y = 3 := by omega
          subst hy'
          clear hy hk
          have hmL : m = L.length := by rw [← HM.out]; exact HMY.out
          subst hmL
          have mm : Mem w.heap.size w v1 [(w.heap.size, 27, #[.int .u64 p.a, .int .u64 p.b, .int .u64 p.c, .int .u64 c.a, .int .u64 c.b, .int .u64 c.c, .int .u64 n.a, .int .u64 n.b, .int .u64 n.c]), (S, 25, #[.int .u64 q.a, .int .u64 q.b, .int .u64 q.c]), (S + 1, 25, #[.int .u64 q.a, .int .u64 q.b, .int .u64 q.c])] := .cons D2 (.cons D5 (.cons D7 (.nil hB3)))
          clear D2 D5 D7 D9 hB3 r9
          go_wp2_with fail
          go_loopw [14] (fun i wr => ∃ k : Nat, k ≤ L.length ∧ i = .int .i64 k ∧ Reads wr a L ∧ Mem w.heap.size w wr [(w.heap.size, 27, #[.int .u64 p.a, .int .u64 p.b, .int .u64 p.c, .int .u64 c.a, .int .u64 c.b, .int .u64 c.c, .int .u64 n.a, .int .u64 n.b, .int .u64 n.c]), (S, 25, #[.int .u64 q.a, .int .u64 q.b, .int .u64 q.c]), (S + 1, 25, #[.int .u64 q.a, .int .u64 q.b, .int .u64 q.c])]) (fun i _ => L.length - (intOf i).toNat)
          case atStart => exact ⟨0, Nat.zero_le _, rfl, HR.out, mm⟩
          case round =>
            obtain ⟨k, hk, rfl, hr, hM⟩ := hrel
            clear mm
            by_cases hkl : k < L.length
            · obtain ⟨g, rfl, hg, c0, c1, c2⟩ := hr k hkl
              have hme := HME.out L[k] (List.getElem_mem _)
              generalize L[k] = z at c0 c1 c2 hme
              have hkl' : (k : Int) < (L.length : Int) := by omega
              have hk0 : (0 : Int) ≤ (k : Int) := by omega
              obtain ⟨hf, hz⟩ := hme
              have T2 := Lib.hid (fun W => find_is p c n z.a W hf)
              clear hf
              go_upto_region 20 with (fail)
              go_cut [16] (fun s16 wx => s16 = .bool true ∧ Reads wx (some ⟨g, 0, none⟩) L ∧ wx.cell? ⟨g, k * 3, none⟩ = some (.int .u64 z.a) ∧ Mem w.heap.size w wx [(w.heap.size, 27, #[.int .u64 p.a, .int .u64 p.b, .int .u64 p.c, .int .u64 c.a, .int .u64 c.b, .int .u64 c.c, .int .u64 n.a, .int .u64 n.b, .int .u64 n.c]), (S, 25, #[.int .u64 q.a, .int .u64 q.b, .int .u64 q.c]), (S + 1, 25, #[.int .u64 q.a, .int .u64 q.b, .int .u64 q.c])])
              case first =>
                have r2 := hM.hd.rd
                have lg := Nat.ne_of_lt hg
                have lb := Nat.ne_of_lt hM.hd.lt
                have lb' := hM.hd.lt
                have HRD := Lib.hid hr
                clear hr c1 c2
                go_region_held3 (fun W => (∀ o, W.cell? ⟨w.heap.size, o, none⟩ = (#[.int .u64 p.a, .int .u64 p.b, .int .u64 p.c, .int .u64 c.a, .int .u64 c.b, .int .u64 c.c, .int .u64 n.a, .int .u64 n.b, .int .u64 n.c] : Array Value)[o]?) ∧ W.cell? ⟨g, k * 3, none⟩ = some (.int .u64 z.a))
                  (first | exact ⟨r2, c0⟩ | exact ⟨hM.drew.hd.rd, c0⟩ | exact ⟨(hM.alloc _).hd.rd, keepA _ c0⟩ | exact ⟨(hM.alloc _).drew.hd.rd, keepA _ c0⟩ | exact ⟨hMv.hd.rd, c0v⟩ | exact ⟨(hMv.alloc _).hd.rd, keepA _ c0v⟩ | exact ⟨(((hMv.hd.other lb).other lb).other lb).rd, keepS (keepS (keepS c0v lg) lg) lg⟩)
                  (first | (go_at_call 10; (with_reducible refine (T2.out _).mono ?_); rintro e v ⟨b1, b2, b3, rfl, hb⟩; obtain ⟨hc1, hf1⟩ := bcell hb; have q1 := hb.size; (try simp only [World.size_alloc] at q1); (try simp only [World.size_drew] at q1); (first | (have z1 : wr.heap.size < v.heap.size := by omega) | skip); have hMv : Mem w.heap.size w v [(w.heap.size, 27, #[.int .u64 p.a, .int .u64 p.b, .int .u64 p.c, .int .u64 c.a, .int .u64 c.b, .int .u64 c.c, .int .u64 n.a, .int .u64 n.b, .int .u64 n.c]), (S, 25, #[.int .u64 q.a, .int .u64 q.b, .int .u64 q.c]), (S + 1, 25, #[.int .u64 q.a, .int .u64 q.b, .int .u64 q.c])] := (by first | exact hM.drew.keep hb | exact (hM.alloc _).drew.keep hb | exact (hM.drew.alloc _).keep hb); have c0v : v.cell? ⟨g, k * 3, none⟩ = some (.int .u64 z.a) := keep hb (by first | exact c0 | exact keepA _ c0)))
                · go_wp2_with fail
                  go_meet
                  exact ⟨rfl, ((HRD.out.keep ((Below.refl _ _).drew)).keep hb).keep ((Below.refl _ _).alloc (Nat.le_refl _) _), keepA _ c0v, hMv.alloc _⟩
                · go_wp2_with fail
                  go_meet
                  refine ⟨rfl, ?_, keepS (keepS (keepS c0v lg) lg) lg, ?_⟩
                  · refine Reads.far (Reads.far (Reads.far (Reads.keep ?_ hb) lg) lg) lg
                    exact HRD.out.keep (by go_grown)
                  · exact ((hMv.far hM.size hM.ne).far hM.size hM.ne).far hM.size hM.ne
              case rest =>
                obtain ⟨rfl, hr2, c0x, hM2⟩ := hcut
                have HR2 := Lib.hid hr2
                clear hr hr2 c0 c1 c2 hM hg
                go_wp2_with fail
                go_roundw
                case rel => exact ⟨k + 1, by omega, by go_num, HR2.out, hM2⟩
                case measure => (simp [intOf] <;> omega)
            · obtain rfl : k = L.length := by omega
              have r5 := hM.tl.hd.rd
              have r7 := hM.tl.tl.hd.rd
              clear hr hkl hk
              go_wp2_with fail
              refine (fixed_any _).mono ?_
              rintro e v5 ⟨rfl, hb⟩
              have hB5 := below_from hM.below hM.size hb
              clear r5 r7 hb hM
              go_wp2
              go_ret
              exact ⟨rfl, hB5⟩
end Go.Proofs.Ytnogfgpdgodalaa
