/- The walk of SlotsAge. -/
import Derived.Test.YtnogfgpdgodalaaF
namespace Go.Proofs.Ytnogfgpdgodalaa
open Go.RowKit
set_option maxHeartbeats 4000000
set_option maxRecDepth 100000
set_option linter.unusedVariables false

theorem ex_idem (now age : Int) (o : O) : exO now age (exO now age o) = exO now age o := by
  by_cases h : oldB now age o = true
  · have : exO now age o = O.z := by unfold exO; rw [if_pos h]
    rw [this]; exact ex_zero rfl
  · have : exO now age o = o := by unfold exO; rw [if_neg h]
    rw [this, this]
theorem ex_not (now age : Int) (o : O) : oldB now age (exO now age o) = false := by
  unfold exO
  by_cases h : oldB now age o = true
  · rw [if_pos h]; rfl
  · rw [if_neg h]; simpa using h
theorem ex_c (now age : Int) (o : O) (h : 0 ≤ o.c) : 0 ≤ (exO now age o).c := by
  unfold exO; split
  · exact Int.le_refl _
  · exact h
theorem ex_start (age : Int) (o : O) (h : 0 ≤ o.c) : exO 0 age o = o := ex_new (by omega)
theorem ex_len1 (now age : Int) (o : O) : ([exO now age o].filter fun o => o.a != 0).length ≤ ([o].filter fun o => o.a != 0).length := by
  unfold exO
  split
  · simp [O.z]
  · exact Nat.le_refl _
theorem ex_len (now age : Int) (p c n : O) : (allL (exO now age p) (exO now age c) (exO now age n)).length ≤ (allL p c n).length := by
  have e : ∀ x y z : O, (allL x y z).length = ([y].filter fun o => o.a != 0).length + ([z].filter fun o => o.a != 0).length + ([x].filter fun o => o.a != 0).length := fun x y z => by
    unfold allL
    rw [show [y, z, x] = [y] ++ [z] ++ [x] from rfl, List.filter_append, List.filter_append, List.length_append, List.length_append]
  rw [e, e]
  have h1 := ex_len1 now age p
  have h2 := ex_len1 now age c
  have h3 := ex_len1 now age n
  omega
theorem ex_mem (now age : Int) (p c n : O) (hp : 0 ≤ p.c) (hc : 0 ≤ c.c) (hn : 0 ≤ n.c) : ∀ o ∈ allL (exO now age p) (exO now age c) (exO now age n), 0 ≤ o.c ∧ (¬ o.c < now ∨ ¬ age < now - o.c) := by
  intro o ho
  unfold allL at ho
  rw [List.mem_filter] at ho
  obtain ⟨hm, hz⟩ := ho
  have key : 0 ≤ o.c ∧ oldB now age o = false := by
    simp only [List.mem_cons, List.not_mem_nil, or_false] at hm
    rcases hm with rfl | rfl | rfl
    · exact ⟨ex_c _ _ _ hc, ex_not _ _ _⟩
    · exact ⟨ex_c _ _ _ hn, ex_not _ _ _⟩
    · exact ⟨ex_c _ _ _ hp, ex_not _ _ _⟩
  refine ⟨key.1, ?_⟩
  have h2 := key.2
  unfold oldB at h2
  rw [hz] at h2
  simp at h2
  by_cases h : o.c < now
  · exact .inr (by have := h2 h; omega)
  · exact .inl h

def AllForm (L : List O) (w : World) (e : Ending) (w' : World) : Prop := ∃ a cap, e = .returned (.slice a L.length cap) ∧ Reads w' a L ∧ Below w.heap.size w w'
theorem all_form (p c n : O) (w : World) : Calls Try.prog 11 #[.agg #[.int .u64 p.a, .int .u64 p.b, .int .u64 p.c, .int .u64 c.a, .int .u64 c.b, .int .u64 c.c, .int .u64 n.a, .int .u64 n.b, .int .u64 n.c]] w (AllForm (allL p c n) w) :=
  (all_any p c n w).mono fun e w' h => by
    obtain ⟨v, he, hown, hb⟩ := h
    obtain ⟨a, cap, rfl, hr⟩ := reads_of hown
    exact ⟨a, cap, he, hr, hb⟩

theorem age_core (p c n : O) (now age : Int) (w : World) (hp : 0 ≤ p.c) (hc : 0 ≤ c.c) (hn : 0 ≤ n.c) (hnow : now < 18446744073709551616) (hage : 0 ≤ age) :
    Calls Try.prog 4 #[.agg #[.int .u64 p.a, .int .u64 p.b, .int .u64 p.c, .int .u64 c.a, .int .u64 c.b, .int .u64 c.c, .int .u64 n.a, .int .u64 n.b, .int .u64 n.c], .int .u64 now, .int .u64 age] w fun en w' => en = .returned (.bool true) ∧ Below w.heap.size w w' := by
  have t1 := fun W => expire_any p c n now age W hnow hage hp hc hn
  have t2 := fun W => expire_any (exO now age p) (exO now age c) (exO now age n) now age W hnow hage (ex_c _ _ _ hp) (ex_c _ _ _ hc) (ex_c _ _ _ hn)
  have t3 := fun W => expire_any p c n 0 age W (by omega) hage hp hc hn
  unfold ExpOk at t1 t2 t3
  rw [ex_idem, ex_idem, ex_idem] at t2
  rw [ex_start age p hp, ex_start age c hc, ex_start age n hn] at t3
  have hlen := ex_len now age p c n
  have hmem := ex_mem now age p c n hp hc hn
  have t4 := fun W => all_form p c n W
  generalize exO now age p = P at t1 t2 hlen hmem
  generalize exO now age c = C at t1 t2 hlen hmem
  generalize exO now age n = N at t1 t2 hlen hmem
  have t5 := fun W => all_form P C N W
  have hL3 : (allL P C N).length ≤ 3 := by unfold allL; exact Nat.le_trans (List.length_filter_le _ _) (by simp)
  generalize allL P C N = L at t5 hlen hmem hL3
  generalize allL p c n = L0 at t4 hlen
  have T1 := Lib.hid t1
  have T2 := Lib.hid t2
  have T3 := Lib.hid t3
  have T4 := Lib.hid t4
  have T5 := Lib.hid t5
  have HM := Lib.hid hmem
  have hlen' : decide ((L0.length : Int) < (L.length : Int)) = false := by simp; omega
  clear t1 t2 t3 t4 t5 hmem
  go_enter Try.func4, Try.ntmps4
  go_wp2_with fail
  refine (T1.out _).mono ?_
  rintro e x1 ⟨rfl, hb⟩
  have A1 := (At.new w 27 #[.int .u64 p.a, .int .u64 p.b, .int .u64 p.c, .int .u64 c.a, .int .u64 c.b, .int .u64 c.c, .int .u64 n.a, .int .u64 n.b, .int .u64 n.c]).keep hb
  have hB1 := below_of hb
  have l1 := A1.lt
  clear hb
  go_wp2_with fail
  refine (T2.out _).mono ?_
  rintro e x2 ⟨rfl, hb⟩
  have A2 := (A1.alloc _).keep hb
  have X2 := (At.new x1 27 #[.int .u64 P.a, .int .u64 P.b, .int .u64 P.c, .int .u64 C.a, .int .u64 C.b, .int .u64 C.c, .int .u64 N.a, .int .u64 N.b, .int .u64 N.c]).keep hb
  have hB2 := below_from hB1 hB1.size (below_of hb)
  have l2 := A2.lt
  have m2 := X2.lt
  clear hb A1 hB1 l1
  go_wp2_with fail
  have mm : Mem w.heap.size w (x2.alloc (Obj.cells #[.int .u64 P.a, .int .u64 P.b, .int .u64 P.c, .int .u64 C.a, .int .u64 C.b, .int .u64 C.c, .int .u64 N.a, .int .u64 N.b, .int .u64 N.c] 27)) [(w.heap.size, 27, #[.int .u64 p.a, .int .u64 p.b, .int .u64 p.c, .int .u64 c.a, .int .u64 c.b, .int .u64 c.c, .int .u64 n.a, .int .u64 n.b, .int .u64 n.c]), (x1.heap.size, 27, #[.int .u64 P.a, .int .u64 P.b, .int .u64 P.c, .int .u64 C.a, .int .u64 C.b, .int .u64 C.c, .int .u64 N.a, .int .u64 N.b, .int .u64 N.c]), (x2.heap.size, 27, #[.int .u64 P.a, .int .u64 P.b, .int .u64 P.c, .int .u64 C.a, .int .u64 C.b, .int .u64 C.c, .int .u64 N.a, .int .u64 N.b, .int .u64 N.c])] :=
    .cons (A2.alloc _) (.cons (X2.alloc _) (.cons (At.new _ _ _) (.nil (hB2.alloc hB2.size _))))
  clear A2 X2 hB2 l2 m2
  generalize x2.alloc (Obj.cells #[.int .u64 P.a, .int .u64 P.b, .int .u64 P.c, .int .u64 C.a, .int .u64 C.b, .int .u64 C.c, .int .u64 N.a, .int .u64 N.b, .int .u64 N.c] 27) = W0 at mm ⊢
  have r0 := mm.hd.rd
  have r1 := mm.tl.hd.rd
  have r2 := mm.tl.tl.hd.rd
  go_region_held3 (fun W => (∀ o, W.cell? ⟨w.heap.size, o, none⟩ = (#[.int .u64 p.a, .int .u64 p.b, .int .u64 p.c, .int .u64 c.a, .int .u64 c.b, .int .u64 c.c, .int .u64 n.a, .int .u64 n.b, .int .u64 n.c] : Array Value)[o]?) ∧ (∀ o, W.cell? ⟨x1.heap.size, o, none⟩ = (#[.int .u64 P.a, .int .u64 P.b, .int .u64 P.c, .int .u64 C.a, .int .u64 C.b, .int .u64 C.c, .int .u64 N.a, .int .u64 N.b, .int .u64 N.c] : Array Value)[o]?) ∧ (∀ o, W.cell? ⟨x2.heap.size, o, none⟩ = (#[.int .u64 P.a, .int .u64 P.b, .int .u64 P.c, .int .u64 C.a, .int .u64 C.b, .int .u64 C.c, .int .u64 N.a, .int .u64 N.b, .int .u64 N.c] : Array Value)[o]?))
    (first | exact ⟨r0, r1, r2⟩ | exact ⟨mm.hd.rd, mm.tl.hd.rd, mm.tl.tl.hd.rd⟩ | exact ⟨mm.drew.hd.rd, mm.drew.tl.hd.rd, mm.drew.tl.tl.hd.rd⟩)
    (first
      | (go_at_call 11; (with_reducible refine (T5.out _).mono ?_); rintro e v ⟨a1, c1, rfl, hr1, hb⟩; replace mm := (by first | exact mm.keep hb | exact mm.drew.keep hb))
      | (go_at_call 11; (with_reducible refine (T4.out _).mono ?_); rintro e v ⟨a2, c2, rfl, hr2, hb⟩; replace mm := (by first | exact mm.keep hb | exact mm.drew.keep hb)))
  clear hlen' r0 r1 r2
  have r1 := mm.tl.hd.rd
  go_wp2_with fail
  refine (T5.out _).mono ?_
  rintro e w3 ⟨a3, c3, rfl, hr3, hb⟩
  have A3 := mm.hd.keep hb
  have hB3 := below_from mm.below mm.size hb
  have R3 := Lib.hid hr3
  clear r1 hr3 hb mm
  go_wp2_with fail
  go_loopw [10] (fun i wr => ∃ k : Nat, k ≤ L.length ∧ i = .int .i64 k ∧ At wr w.heap.size 27 #[.int .u64 p.a, .int .u64 p.b, .int .u64 p.c, .int .u64 c.a, .int .u64 c.b, .int .u64 c.c, .int .u64 n.a, .int .u64 n.b, .int .u64 n.c] ∧ Reads wr a3 L ∧ Below w.heap.size w wr) (fun i _ => L.length - (intOf i).toNat)
  case atStart => exact ⟨0, Nat.zero_le _, rfl, A3, R3.out, hB3⟩
  case round =>
    obtain ⟨k, hk, rfl, hA, hr, hBr⟩ := hrel
    clear A3 hB3
    by_cases hkl : k < L.length
    · obtain ⟨g, rfl, hg, c0, c1', c2'⟩ := hr k hkl
      have hm := HM.out L[k] (List.getElem_mem _)
      generalize L[k] = x at c0 c1' c2' hm
      obtain ⟨hx0, hx⟩ := hm
      have hkl' : (k : Int) < (L.length : Int) := by omega
      have hk0 : (0 : Int) ≤ (k : Int) := by omega
      have HR := Lib.hid hr
      clear hr
      by_cases h1 : x.c < now
      · have h2 : ¬ age < now - x.c := by omega
        clear hx
        go_wp2_with fail
        go_roundw
        case rel => exact ⟨k + 1, by omega, by go_num, hA, HR.out, hBr⟩
        case measure => (simp [intOf] <;> omega)
      · clear hx
        go_wp2_with fail
        go_roundw
        case rel => exact ⟨k + 1, by omega, by go_num, hA, HR.out, hBr⟩
        case measure => (simp [intOf] <;> omega)
    · obtain rfl : k = L.length := by omega
      have r0 := hA.rd
      have l0 := hA.lt
      clear hr hkl hk
      go_wp2_with fail
      refine (T3.out _).mono ?_
      rintro e w4 ⟨rfl, hb⟩
      have hA4 := hA.keep hb
      have hB4 := below_from hBr hBr.size hb
      have r4 := hA4.rd
      have l4 := hA4.lt
      clear r0 l0 hb hA hBr
      go_wp2_with fail
      refine (fixed_any _).mono ?_
      rintro e w5 ⟨rfl, hb⟩
      have hB5 := below_from hB4 hB4.size (below_of hb)
      clear r4 l4 hb hA4 hB4
      go_wp2
      go_ret
      exact ⟨rfl, hB5⟩
end Go.Proofs.Ytnogfgpdgodalaa
