/- The contract of slots' Expire. -/
import Derived.Test.YtnogfgpdgodalaaC
namespace Go.Proofs.Ytnogfgpdgodalaa
open Go.RowKit
set_option maxHeartbeats 1000000
set_option maxRecDepth 100000
set_option linter.unusedVariables false

theorem at_new1 (w : World) (o : Obj) (t : TypeId) (C : Array Value) : At ((w.alloc o).alloc (.cells C t)) (w.heap.size + 1) t C := by
  have h := At.new (w.alloc o) t C
  rw [World.size_alloc] at h
  exact h
/-- is it too old? -/
def oldB (now age : Int) (o : O) : Bool := o.a != 0 && (decide (o.c < now) && decide (age < now - o.c))
def exO (now age : Int) (o : O) : O := if oldB now age o then O.z else o
theorem ex_zero {now age : Int} {o : O} (h : o.a = 0) : exO now age o = o := by unfold exO oldB; simp [h]
theorem ex_new {now age : Int} {o : O} (h : ¬ o.c < now) : exO now age o = o := by unfold exO oldB; simp [h]
theorem ex_young {now age : Int} {o : O} (h : ¬ age < now - o.c) : exO now age o = o := by unfold exO oldB; simp [h]
theorem ex_old {now age : Int} {o : O} (h0 : ¬ o.a = 0) (h : o.c < now) (h2 : age < now - o.c) : exO now age o = O.z := by unfold exO oldB; simp [h0, h, h2]

theorem index48_0 (b : Nat) (w : World) : (Instr.index 48 (.agg #[.pointer (some ⟨b, 0, none⟩), .pointer (some ⟨b, 3, none⟩), .pointer (some ⟨b, 6, none⟩)]) (.int .i64 0)).run Try.prog w = .ok (.pointer (some ⟨b, 0, none⟩)) w := by kernel_rfl
theorem index48_1 (b : Nat) (w : World) : (Instr.index 48 (.agg #[.pointer (some ⟨b, 0, none⟩), .pointer (some ⟨b, 3, none⟩), .pointer (some ⟨b, 6, none⟩)]) (.int .i64 1)).run Try.prog w = .ok (.pointer (some ⟨b, 3, none⟩)) w := by kernel_rfl
theorem index48_2 (b : Nat) (w : World) : (Instr.index 48 (.agg #[.pointer (some ⟨b, 0, none⟩), .pointer (some ⟨b, 3, none⟩), .pointer (some ⟨b, 6, none⟩)]) (.int .i64 2)).run Try.prog w = .ok (.pointer (some ⟨b, 6, none⟩)) w := by kernel_rfl

def ExpOk (p c n : O) (now age : Int) (w : World) (e : Ending) (w' : World) : Prop :=
  e = .returned (.agg #[.int .u64 (exO now age p).a, .int .u64 (exO now age p).b, .int .u64 (exO now age p).c, .int .u64 (exO now age c).a, .int .u64 (exO now age c).b, .int .u64 (exO now age c).c, .int .u64 (exO now age n).a, .int .u64 (exO now age n).b, .int .u64 (exO now age n).c]) ∧ Below w.heap.size w w'

theorem expire_any (p c n : O) (now age : Int) (w : World) (hn : now < 18446744073709551616) (ha : 0 ≤ age) (hp : 0 ≤ p.c) (hc : 0 ≤ c.c) (hq : 0 ≤ n.c) :
    Calls Try.prog 13 #[.agg #[.int .u64 p.a, .int .u64 p.b, .int .u64 p.c, .int .u64 c.a, .int .u64 c.b, .int .u64 c.c, .int .u64 n.a, .int .u64 n.b, .int .u64 n.c], .int .u64 now, .int .u64 age] w (ExpOk p c n now age w) := by
  go_enter Try.func13, Try.ntmps13
  go_wp2_with fail
  go_loopw [13] (fun i wr => ∃ (k : Nat) (x : Int) (q1 q2 q3 : O), k ≤ 3 ∧ x = k ∧ i = .int .i64 x ∧ q1 = (if 0 < k then exO now age p else p) ∧ q2 = (if 1 < k then exO now age c else c) ∧ q3 = (if 2 < k then exO now age n else n) ∧
    At wr w.heap.size 27 #[.int .u64 q1.a, .int .u64 q1.b, .int .u64 q1.c, .int .u64 q2.a, .int .u64 q2.b, .int .u64 q2.c, .int .u64 q3.a, .int .u64 q3.b, .int .u64 q3.c] ∧ At wr (w.heap.size + 1) 27 #[.int .u64 0, .int .u64 0, .int .u64 0, .int .u64 0, .int .u64 0, .int .u64 0, .int .u64 0, .int .u64 0, .int .u64 0] ∧ Below w.heap.size w wr) (fun i _ => 3 - (intOf i).toNat)
  case atStart => exact ⟨0, 0, p, c, n, by omega, rfl, rfl, rfl, rfl, rfl, (At.new _ _ _).alloc _, at_new1 w _ _ _, by go_grown⟩
  case round =>
    obtain ⟨k, x, q1, q2, q3, hk, hx, rfl, e1, e2, e3, hA, hR, hBr⟩ := hrel
    have HA := Lib.hid hA
    have HR := Lib.hid hR
    have lr := hR.lt
    have la := hA.lt
    clear hR
    rcases (by omega : k = 0 ∨ k = 1 ∨ k = 2 ∨ k = 3) with rfl | rfl | rfl | rfl
    · have hx' : x = 0 := by omega
      subst hx'
      clear hx hk
      simp only [Nat.reduceLT, if_true, if_false, Nat.lt_irrefl] at e1 e2 e3
      have hQ : p = q1 := e1.symm
      subst hQ
      have hrd := hA.rd
      clear hA
      have ix := fun W => index48_0 w.heap.size W
      have HE2 := Lib.hid (show q2 = (if 1 < 1 then exO now age c else c) by rw [e2]; simp)
      have HE3 := Lib.hid (show q3 = (if 2 < 1 then exO now age n else n) by rw [e3]; simp)
      clear e2 e3
      by_cases h0 : p.a = 0
      · have ht : ∀ W, Calls Try.prog 14 #[.agg #[.int .u64 p.a, .int .u64 p.b, .int .u64 p.c]] W fun e w' => e = .returned (.bool false) ∧ Below W.heap.size W w' := fun W => by rw [h0]; exact there_no _ _ _
        have HT := Lib.hid ht
        have HX := Lib.hid (show p = (if 0 < 1 then exO now age p else p) by rw [if_pos (by omega), ex_zero h0])
        clear ht h0
        go_wp2_with fail
        refine (HT.out _).mono ?_
        rintro e w2 ⟨rfl, hb⟩
        have hB2 := below_from hBr hBr.size hb
        have HA2 := Lib.hid (HA.out.keep hb)
        have HR2 := Lib.hid (HR.out.keep hb)
        have lr2 := HR2.out.lt
        have la2 := HA2.out.lt
        have hrd2 := HA2.out.rd
        clear hb HT hBr hrd HA HR
        go_wp2_with fail

        go_roundw
        case rel => exact ⟨1, 1, p, q2, q3, by omega, rfl, rfl, HX.out, HE2.out, HE3.out, HA2.out, HR2.out, hB2⟩
        case measure => (simp [intOf] <;> omega)
      · have ht : ∀ W, Calls Try.prog 14 #[.agg #[.int .u64 p.a, .int .u64 p.b, .int .u64 p.c]] W fun e w' => e = .returned (.bool true) ∧ Below W.heap.size W w' := fun W => there_yes _ _ _ (by simp [h0]) _
        have HT := Lib.hid ht
        by_cases h1 : p.c < now
        · by_cases h2 : age < now - p.c
          · have HX := Lib.hid (show O.z = (if 0 < 1 then exO now age p else p) by rw [if_pos (by omega), ex_old h0 h1 h2])
            clear ht h0
            go_wp2_with fail
            refine (HT.out _).mono ?_
            rintro e w2 ⟨rfl, hb⟩
            have hB2 := below_from hBr hBr.size hb
            have HA2 := Lib.hid (HA.out.keep hb)
            have HR2 := Lib.hid (HR.out.keep hb)
            have lr2 := HR2.out.lt
            have la2 := HA2.out.lt
            have hrd2 := HA2.out.rd
            clear hb HT hBr hrd HA HR
            have hfr2 := HA2.out.fr
            go_wp2_with fail

            go_roundw
            case rel => exact ⟨1, 1, O.z, q2, q3, by omega, rfl, rfl, HX.out, HE2.out, HE3.out, by simpa [O.z] using ((HA2.out.set (o := 0) (v := .int .u64 0)).set (o := 1) (v := .int .u64 0)).set (o := 2) (v := .int .u64 0), ((HR2.out.other (b2 := w.heap.size) (o := 0) (v := .int .u64 0) (by omega)).other (b2 := w.heap.size) (o := 1) (v := .int .u64 0) (by omega)).other (b2 := w.heap.size) (o := 2) (v := .int .u64 0) (by omega), by go_grown⟩
            case measure => (simp [intOf] <;> omega)
          · have HX := Lib.hid (show p = (if 0 < 1 then exO now age p else p) by rw [if_pos (by omega), ex_young h2])
            clear ht h0
            go_wp2_with fail
            refine (HT.out _).mono ?_
            rintro e w2 ⟨rfl, hb⟩
            have hB2 := below_from hBr hBr.size hb
            have HA2 := Lib.hid (HA.out.keep hb)
            have HR2 := Lib.hid (HR.out.keep hb)
            have lr2 := HR2.out.lt
            have la2 := HA2.out.lt
            have hrd2 := HA2.out.rd
            clear hb HT hBr hrd HA HR
            go_wp2_with fail

            go_roundw
            case rel => exact ⟨1, 1, p, q2, q3, by omega, rfl, rfl, HX.out, HE2.out, HE3.out, HA2.out, HR2.out, hB2⟩
            case measure => (simp [intOf] <;> omega)
        · have HX := Lib.hid (show p = (if 0 < 1 then exO now age p else p) by rw [if_pos (by omega), ex_new h1])
          clear ht h0
          go_wp2_with fail
          refine (HT.out _).mono ?_
          rintro e w2 ⟨rfl, hb⟩
          have hB2 := below_from hBr hBr.size hb
          have HA2 := Lib.hid (HA.out.keep hb)
          have HR2 := Lib.hid (HR.out.keep hb)
          have lr2 := HR2.out.lt
          have la2 := HA2.out.lt
          have hrd2 := HA2.out.rd
          clear hb HT hBr hrd HA HR
          go_wp2_with fail

          go_roundw
          case rel => exact ⟨1, 1, p, q2, q3, by omega, rfl, rfl, HX.out, HE2.out, HE3.out, HA2.out, HR2.out, hB2⟩
          case measure => (simp [intOf] <;> omega)
    · have hx' : x = 1 := by omega
      subst hx'
      clear hx hk
      simp only [Nat.reduceLT, if_true, if_false, Nat.lt_irrefl] at e1 e2 e3
      have hQ : c = q2 := e2.symm
      subst hQ
      have hrd := hA.rd
      clear hA
      have ix := fun W => index48_1 w.heap.size W
      have HE1 := Lib.hid (show q1 = (if 0 < 2 then exO now age p else p) by rw [e1]; simp)
      have HE3 := Lib.hid (show q3 = (if 2 < 2 then exO now age n else n) by rw [e3]; simp)
      clear e1 e3
      by_cases h0 : c.a = 0
      · have ht : ∀ W, Calls Try.prog 14 #[.agg #[.int .u64 c.a, .int .u64 c.b, .int .u64 c.c]] W fun e w' => e = .returned (.bool false) ∧ Below W.heap.size W w' := fun W => by rw [h0]; exact there_no _ _ _
        have HT := Lib.hid ht
        have HX := Lib.hid (show c = (if 1 < 2 then exO now age c else c) by rw [if_pos (by omega), ex_zero h0])
        clear ht h0
        go_wp2_with fail
        refine (HT.out _).mono ?_
        rintro e w2 ⟨rfl, hb⟩
        have hB2 := below_from hBr hBr.size hb
        have HA2 := Lib.hid (HA.out.keep hb)
        have HR2 := Lib.hid (HR.out.keep hb)
        have lr2 := HR2.out.lt
        have la2 := HA2.out.lt
        have hrd2 := HA2.out.rd
        clear hb HT hBr hrd HA HR
        go_wp2_with fail

        go_roundw
        case rel => exact ⟨2, 2, q1, c, q3, by omega, rfl, rfl, HE1.out, HX.out, HE3.out, HA2.out, HR2.out, hB2⟩
        case measure => (simp [intOf] <;> omega)
      · have ht : ∀ W, Calls Try.prog 14 #[.agg #[.int .u64 c.a, .int .u64 c.b, .int .u64 c.c]] W fun e w' => e = .returned (.bool true) ∧ Below W.heap.size W w' := fun W => there_yes _ _ _ (by simp [h0]) _
        have HT := Lib.hid ht
        by_cases h1 : c.c < now
        · by_cases h2 : age < now - c.c
          · have HX := Lib.hid (show O.z = (if 1 < 2 then exO now age c else c) by rw [if_pos (by omega), ex_old h0 h1 h2])
            clear ht h0
            go_wp2_with fail
            refine (HT.out _).mono ?_
            rintro e w2 ⟨rfl, hb⟩
            have hB2 := below_from hBr hBr.size hb
            have HA2 := Lib.hid (HA.out.keep hb)
            have HR2 := Lib.hid (HR.out.keep hb)
            have lr2 := HR2.out.lt
            have la2 := HA2.out.lt
            have hrd2 := HA2.out.rd
            clear hb HT hBr hrd HA HR
            have hfr2 := HA2.out.fr
            go_wp2_with fail

            go_roundw
            case rel => exact ⟨2, 2, q1, O.z, q3, by omega, rfl, rfl, HE1.out, HX.out, HE3.out, by simpa [O.z] using ((HA2.out.set (o := 3) (v := .int .u64 0)).set (o := 4) (v := .int .u64 0)).set (o := 5) (v := .int .u64 0), ((HR2.out.other (b2 := w.heap.size) (o := 3) (v := .int .u64 0) (by omega)).other (b2 := w.heap.size) (o := 4) (v := .int .u64 0) (by omega)).other (b2 := w.heap.size) (o := 5) (v := .int .u64 0) (by omega), by go_grown⟩
            case measure => (simp [intOf] <;> omega)
          · have HX := Lib.hid (show c = (if 1 < 2 then exO now age c else c) by rw [if_pos (by omega), ex_young h2])
            clear ht h0
            go_wp2_with fail
            refine (HT.out _).mono ?_
            rintro e w2 ⟨rfl, hb⟩
            have hB2 := below_from hBr hBr.size hb
            have HA2 := Lib.hid (HA.out.keep hb)
            have HR2 := Lib.hid (HR.out.keep hb)
            have lr2 := HR2.out.lt
            have la2 := HA2.out.lt
            have hrd2 := HA2.out.rd
            clear hb HT hBr hrd HA HR
            go_wp2_with fail

            go_roundw
            case rel => exact ⟨2, 2, q1, c, q3, by omega, rfl, rfl, HE1.out, HX.out, HE3.out, HA2.out, HR2.out, hB2⟩
            case measure => (simp [intOf] <;> omega)
        · have HX := Lib.hid (show c = (if 1 < 2 then exO now age c else c) by rw [if_pos (by omega), ex_new h1])
          clear ht h0
          go_wp2_with fail
          refine (HT.out _).mono ?_
          rintro e w2 ⟨rfl, hb⟩
          have hB2 := below_from hBr hBr.size hb
          have HA2 := Lib.hid (HA.out.keep hb)
          have HR2 := Lib.hid (HR.out.keep hb)
          have lr2 := HR2.out.lt
          have la2 := HA2.out.lt
          have hrd2 := HA2.out.rd
          clear hb HT hBr hrd HA HR
          go_wp2_with fail

          go_roundw
          case rel => exact ⟨2, 2, q1, c, q3, by omega, rfl, rfl, HE1.out, HX.out, HE3.out, HA2.out, HR2.out, hB2⟩
          case measure => (simp [intOf] <;> omega)
    · have hx' : x = 2 := by omega
      subst hx'
      clear hx hk
      simp only [Nat.reduceLT, if_true, if_false, Nat.lt_irrefl] at e1 e2 e3
      have hQ : n = q3 := e3.symm
      subst hQ
      have hrd := hA.rd
      clear hA
      have ix := fun W => index48_2 w.heap.size W
      have HE1 := Lib.hid (show q1 = (if 0 < 3 then exO now age p else p) by rw [e1]; simp)
      have HE2 := Lib.hid (show q2 = (if 1 < 3 then exO now age c else c) by rw [e2]; simp)
      clear e1 e2
      by_cases h0 : n.a = 0
      · have ht : ∀ W, Calls Try.prog 14 #[.agg #[.int .u64 n.a, .int .u64 n.b, .int .u64 n.c]] W fun e w' => e = .returned (.bool false) ∧ Below W.heap.size W w' := fun W => by rw [h0]; exact there_no _ _ _
        have HT := Lib.hid ht
        have HX := Lib.hid (show n = (if 2 < 3 then exO now age n else n) by rw [if_pos (by omega), ex_zero h0])
        clear ht h0
        go_wp2_with fail
        refine (HT.out _).mono ?_
        rintro e w2 ⟨rfl, hb⟩
        have hB2 := below_from hBr hBr.size hb
        have HA2 := Lib.hid (HA.out.keep hb)
        have HR2 := Lib.hid (HR.out.keep hb)
        have lr2 := HR2.out.lt
        have la2 := HA2.out.lt
        have hrd2 := HA2.out.rd
        clear hb HT hBr hrd HA HR
        go_wp2_with fail

        go_roundw
        case rel => exact ⟨3, 3, q1, q2, n, by omega, rfl, rfl, HE1.out, HE2.out, HX.out, HA2.out, HR2.out, hB2⟩
        case measure => (simp [intOf] <;> omega)
      · have ht : ∀ W, Calls Try.prog 14 #[.agg #[.int .u64 n.a, .int .u64 n.b, .int .u64 n.c]] W fun e w' => e = .returned (.bool true) ∧ Below W.heap.size W w' := fun W => there_yes _ _ _ (by simp [h0]) _
        have HT := Lib.hid ht
        by_cases h1 : n.c < now
        · by_cases h2 : age < now - n.c
          · have HX := Lib.hid (show O.z = (if 2 < 3 then exO now age n else n) by rw [if_pos (by omega), ex_old h0 h1 h2])
            clear ht h0
            go_wp2_with fail
            refine (HT.out _).mono ?_
            rintro e w2 ⟨rfl, hb⟩
            have hB2 := below_from hBr hBr.size hb
            have HA2 := Lib.hid (HA.out.keep hb)
            have HR2 := Lib.hid (HR.out.keep hb)
            have lr2 := HR2.out.lt
            have la2 := HA2.out.lt
            have hrd2 := HA2.out.rd
            clear hb HT hBr hrd HA HR
            have hfr2 := HA2.out.fr
            go_wp2_with fail

            go_roundw
            case rel => exact ⟨3, 3, q1, q2, O.z, by omega, rfl, rfl, HE1.out, HE2.out, HX.out, by simpa [O.z] using ((HA2.out.set (o := 6) (v := .int .u64 0)).set (o := 7) (v := .int .u64 0)).set (o := 8) (v := .int .u64 0), ((HR2.out.other (b2 := w.heap.size) (o := 6) (v := .int .u64 0) (by omega)).other (b2 := w.heap.size) (o := 7) (v := .int .u64 0) (by omega)).other (b2 := w.heap.size) (o := 8) (v := .int .u64 0) (by omega), by go_grown⟩
            case measure => (simp [intOf] <;> omega)
          · have HX := Lib.hid (show n = (if 2 < 3 then exO now age n else n) by rw [if_pos (by omega), ex_young h2])
            clear ht h0
            go_wp2_with fail
            refine (HT.out _).mono ?_
            rintro e w2 ⟨rfl, hb⟩
            have hB2 := below_from hBr hBr.size hb
            have HA2 := Lib.hid (HA.out.keep hb)
            have HR2 := Lib.hid (HR.out.keep hb)
            have lr2 := HR2.out.lt
            have la2 := HA2.out.lt
            have hrd2 := HA2.out.rd
            clear hb HT hBr hrd HA HR
            go_wp2_with fail

            go_roundw
            case rel => exact ⟨3, 3, q1, q2, n, by omega, rfl, rfl, HE1.out, HE2.out, HX.out, HA2.out, HR2.out, hB2⟩
            case measure => (simp [intOf] <;> omega)
        · have HX := Lib.hid (show n = (if 2 < 3 then exO now age n else n) by rw [if_pos (by omega), ex_new h1])
          clear ht h0
          go_wp2_with fail
          refine (HT.out _).mono ?_
          rintro e w2 ⟨rfl, hb⟩
          have hB2 := below_from hBr hBr.size hb
          have HA2 := Lib.hid (HA.out.keep hb)
          have HR2 := Lib.hid (HR.out.keep hb)
          have lr2 := HR2.out.lt
          have la2 := HA2.out.lt
          have hrd2 := HA2.out.rd
          clear hb HT hBr hrd HA HR
          go_wp2_with fail

          go_roundw
          case rel => exact ⟨3, 3, q1, q2, n, by omega, rfl, rfl, HE1.out, HE2.out, HX.out, HA2.out, HR2.out, hB2⟩
          case measure => (simp [intOf] <;> omega)
    · have hx' : x = 3 := by omega
      subst hx'
      simp only [Nat.reduceLT, if_true] at e1 e2 e3
      subst e1 e2 e3
      have hrd := hA.rd
      have hfr := HR.out.fr
      have hrd2 := HR.out.rd
      clear hA hx hk
      go_wp2_with fail
      refine bodyPost_ret (v := .agg #[.int .u64 (exO now age p).a, .int .u64 (exO now age p).b, .int .u64 (exO now age p).c, .int .u64 (exO now age c).a, .int .u64 (exO now age c).b, .int .u64 (exO now age c).c, .int .u64 (exO now age n).a, .int .u64 (exO now age n).b, .int .u64 (exO now age n).c]) (by simp [results, Try.results13, go_sem, hrd2]) rfl ⟨rfl, ?_⟩
      go_grown
end Go.Proofs.Ytnogfgpdgodalaa
