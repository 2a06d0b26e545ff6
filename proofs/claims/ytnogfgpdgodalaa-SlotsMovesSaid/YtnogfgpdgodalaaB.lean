/- The contracts of slots' Find, All, Expire. -/
import Derived.Test.YtnogfgpdgodalaaA
import Derived.Test.YtnogfgpdgodalaaM
namespace Go.Proofs.Ytnogfgpdgodalaa
open Go.RowKit
set_option maxHeartbeats 1000000
set_option maxRecDepth 100000
set_option linter.unusedVariables false

/-- a session's place: its number here, its number there, and when it began. -/
structure O where
  a : Int
  b : Int
  c : Int
def O.z : O := ⟨0, 0, 0⟩
def O.cs (o : O) : List Value := [.int .u64 o.a, .int .u64 o.b, .int .u64 o.c]
def ocs : List O → List Value
  | [] => []
  | o :: l => .int .u64 o.a :: .int .u64 o.b :: .int .u64 o.c :: ocs l
theorem ocs_len (l : List O) : (ocs l).length = l.length * 3 := by
  induction l with
  | nil => rfl
  | cons x l ih => simp only [ocs, List.length_cons, ih]; omega
theorem ocs_app (l : List O) (x : O) : ocs (l ++ [x]) = ocs l ++ [.int .u64 x.a, .int .u64 x.b, .int .u64 x.c] := by
  induction l with
  | nil => rfl
  | cons y l ih => simp [ocs, ih]
theorem ocs_get (l : List O) (k : Nat) (h : k < l.length) : (ocs l)[k * 3]? = some (.int .u64 l[k].a) ∧ (ocs l)[k * 3 + 1]? = some (.int .u64 l[k].b) ∧ (ocs l)[k * 3 + 2]? = some (.int .u64 l[k].c) := by
  induction l generalizing k with
  | nil => simp at h
  | cons y l ih =>
    cases k with
    | zero => exact ⟨rfl, rfl, rfl⟩
    | succ k =>
      have := ih k (by simpa using h)
      have e1 : (k + 1) * 3 = k * 3 + 3 := by omega
      rw [e1]
      simpa [ocs] using this

/-- those that there are, of three. -/
def allL (p c n : O) : List O := [c, n, p].filter fun o => o.a != 0

theorem infoOne : (Try.prog.info? 25).map (fun i => (i.zero, i.size, i.bytes)) = some (some (.agg #[.int .u64 0, .int .u64 0, .int .u64 0]), 3, 24) := by kernel_rfl

def AllOk (p c n : O) (w : World) (e : Ending) (w' : World) : Prop :=
  ∃ v, e = .returned v ∧ w'.ownsRow w.heap.size 25 3 v (allL p c n).length (ocs (allL p c n)) ∧ Below w.heap.size w w'

theorem index40_0 (a b c d e f g h i : Int) (w : World) : (Instr.index 40 (.agg #[.int .u64 a, .int .u64 b, .int .u64 c, .int .u64 d, .int .u64 e, .int .u64 f, .int .u64 g, .int .u64 h, .int .u64 i]) (.int .i64 0)).run Try.prog w = .ok (.agg #[.int .u64 a, .int .u64 b, .int .u64 c]) w := by kernel_rfl
theorem index40_1 (a b c d e f g h i : Int) (w : World) : (Instr.index 40 (.agg #[.int .u64 a, .int .u64 b, .int .u64 c, .int .u64 d, .int .u64 e, .int .u64 f, .int .u64 g, .int .u64 h, .int .u64 i]) (.int .i64 1)).run Try.prog w = .ok (.agg #[.int .u64 d, .int .u64 e, .int .u64 f]) w := by kernel_rfl
theorem index40_2 (a b c d e f g h i : Int) (w : World) : (Instr.index 40 (.agg #[.int .u64 a, .int .u64 b, .int .u64 c, .int .u64 d, .int .u64 e, .int .u64 f, .int .u64 g, .int .u64 h, .int .u64 i]) (.int .i64 2)).run Try.prog w = .ok (.agg #[.int .u64 g, .int .u64 h, .int .u64 i]) w := by kernel_rfl
theorem all_any (p c n : O) (w : World) :
    Calls Try.prog 11 #[.agg #[.int .u64 p.a, .int .u64 p.b, .int .u64 p.c, .int .u64 c.a, .int .u64 c.b, .int .u64 c.c, .int .u64 n.a, .int .u64 n.b, .int .u64 n.c]] w (AllOk p c n w) := by
  obtain ⟨i0, hi0, hi1, hi2, hi3⟩ := info_parts infoOne
  go_enter Try.func11, Try.ntmps11
  go_wp2_with fail
  refine (order_any _ _ _ _ _ _ _ _ _ _).mono ?_
  rintro e w1 ⟨rfl, hb⟩
  have hB := below_of hb
  clear hb
  go_wp2_with fail
  go_loopw [3, 8] (fun v i wr => ∃ (k : Nat) (x : Int), k ≤ 3 ∧ x = k ∧ i = .int .i64 x ∧ wr.ownsRow w.heap.size 25 3 v (([c, n, p].take k).filter fun o => o.a != 0).length (ocs (([c, n, p].take k).filter fun o => o.a != 0)) ∧ Below w.heap.size w wr) (fun _ i _ => 3 - (intOf i).toNat)
  case atStart => exact ⟨0, 0, by omega, rfl, rfl, World.ownsRow_nil _ _ _ _, hB⟩
  case round =>
    obtain ⟨k, x, hk, hx, rfl, hown, hBr⟩ := hrel
    have HW := Lib.hid hown
    clear hown hB
    obtain ⟨l, hl⟩ : ∃ l, ([c, n, p].take k).filter (fun o => o.a != 0) = l := ⟨_, rfl⟩
    have hll : l.length ≤ 3 := by rw [← hl]; exact Nat.le_trans (List.length_filter_le _ _) (by simp; omega)
    rw [hl] at HW
    have HLl := Lib.hid hl
    clear hl
    obtain ⟨va, vc, rfl, hform⟩ := row_form HW.out
    clear hform
    rcases (by omega : k = 0 ∨ k = 1 ∨ k = 2 ∨ k = 3) with rfl | rfl | rfl | rfl
    · have hx' : x = 0 := by omega
      subst hx'
      clear hx hk
      have ix := fun w => index40_0 c.a c.b c.c n.a n.b n.c p.a p.b p.c w
      by_cases hz : c.a = 0
      · have hl2 : ([c, n, p].take 1).filter (fun o => o.a != 0) = l := by rw [← HLl.out, show [c, n, p].take 1 = [c, n, p].take 0 ++ [c] from rfl, List.filter_append]; simp [hz]
        have HL2 := Lib.hid hl2
        have ht : ∀ W, Calls Try.prog 14 #[.agg #[.int .u64 c.a, .int .u64 c.b, .int .u64 c.c]] W fun e w' => e = .returned (.bool false) ∧ Below W.heap.size W w' := fun W => by rw [hz]; exact there_no _ _ _
        have HT := Lib.hid ht
        clear hl2 ht hz
        go_wp2_with fail
        refine (HT.out _).mono ?_
        rintro e w2 ⟨rfl, hb⟩
        have hB2 := below_from hBr hBr.size (below_of hb)
        have HW2 := Lib.hid (row_keep (HW.out.alloc _) hb)
        clear hb
        go_wp2_with fail
        go_roundw
        case rel => exact ⟨1, 1, by omega, rfl, rfl, by rw [HL2.out]; exact HW2.out, hB2⟩
        case measure => (simp [intOf] <;> omega)
      · have hl2 : ([c, n, p].take 1).filter (fun o => o.a != 0) = l ++ [c] := by rw [← HLl.out, show [c, n, p].take 1 = [c, n, p].take 0 ++ [c] from rfl, List.filter_append]; simp [hz]
        have HL2 := Lib.hid hl2
        have ht : ∀ W, Calls Try.prog 14 #[.agg #[.int .u64 c.a, .int .u64 c.b, .int .u64 c.c]] W fun e w' => e = .returned (.bool true) ∧ Below W.heap.size W w' := fun W => there_yes _ _ _ (by simp [hz]) _
        have HT := Lib.hid ht
        clear hl2 ht hz
        go_wp2_with fail
        refine (HT.out _).mono ?_
        rintro e w2 ⟨rfl, hb⟩
        have hB2 := below_from hBr hBr.size (below_of hb)
        have HW2 := Lib.hid (row_keep (HW.out.alloc _) hb)
        have hA := ((At.new wr 25 #[.int .u64 c.a, .int .u64 c.b, .int .u64 c.c]).keep hb).rd
        clear hb
        have HW3 := Lib.hid (HW2.out.alloc (.cells #[.int .u64 c.a, .int .u64 c.b, .int .u64 c.c] 25))
        have l7 := hB2.size
        go_wp2_with (at_builtin; refine wpList_append_lies _ rfl _ _ _ rfl w.heap.size 25 i0 (.agg #[.int .u64 0, .int .u64 0, .int .u64 0]) 3 24 Try.underlying32 hi0 hi1 hi2 hi3 rfl (by decide) (.slice va l.length vc) l.length (ocs l) rfl HW3.out ⟨w2.heap.size, 0, none⟩ 1 1 [.int .u64 c.a, .int .u64 c.b, .int .u64 c.c] rfl rfl (World.news_of_block (B := w2.heap.size) (cs := #[.int .u64 c.a, .int .u64 c.b, .int .u64 c.c]) (t := 25) (fr := (0, 0)) (news1 rfl)) (by simp [Value.oneCell']) (by omega) (by unfold maxLen; omega) (by omega) (by simp; omega) (w2.heap.size + 1) (by simp) ?_; intro ge cq w5 hown5 hgrow5 hat5 hlt5)
        go_roundw
        case rel => exact ⟨1, 1, by omega, rfl, rfl, by rw [HL2.out, ocs_app]; simpa using hown5, (hB2.alloc hB2.size _).grown hgrow5 (by simp; omega) (fun k hk => (HW3.out.lt k hk).1)⟩
        case measure => (simp [intOf] <;> omega)
    · have hx' : x = 1 := by omega
      subst hx'
      clear hx hk
      have ix := fun w => index40_1 c.a c.b c.c n.a n.b n.c p.a p.b p.c w
      by_cases hz : n.a = 0
      · have hl2 : ([c, n, p].take 2).filter (fun o => o.a != 0) = l := by rw [← HLl.out, show [c, n, p].take 2 = [c, n, p].take 1 ++ [n] from rfl, List.filter_append]; simp [hz]
        have HL2 := Lib.hid hl2
        have ht : ∀ W, Calls Try.prog 14 #[.agg #[.int .u64 n.a, .int .u64 n.b, .int .u64 n.c]] W fun e w' => e = .returned (.bool false) ∧ Below W.heap.size W w' := fun W => by rw [hz]; exact there_no _ _ _
        have HT := Lib.hid ht
        clear hl2 ht hz
        go_wp2_with fail
        refine (HT.out _).mono ?_
        rintro e w2 ⟨rfl, hb⟩
        have hB2 := below_from hBr hBr.size (below_of hb)
        have HW2 := Lib.hid (row_keep (HW.out.alloc _) hb)
        clear hb
        go_wp2_with fail
        go_roundw
        case rel => exact ⟨2, 2, by omega, rfl, rfl, by rw [HL2.out]; exact HW2.out, hB2⟩
        case measure => (simp [intOf] <;> omega)
      · have hl2 : ([c, n, p].take 2).filter (fun o => o.a != 0) = l ++ [n] := by rw [← HLl.out, show [c, n, p].take 2 = [c, n, p].take 1 ++ [n] from rfl, List.filter_append]; simp [hz]
        have HL2 := Lib.hid hl2
        have ht : ∀ W, Calls Try.prog 14 #[.agg #[.int .u64 n.a, .int .u64 n.b, .int .u64 n.c]] W fun e w' => e = .returned (.bool true) ∧ Below W.heap.size W w' := fun W => there_yes _ _ _ (by simp [hz]) _
        have HT := Lib.hid ht
        clear hl2 ht hz
        go_wp2_with fail
        refine (HT.out _).mono ?_
        rintro e w2 ⟨rfl, hb⟩
        have hB2 := below_from hBr hBr.size (below_of hb)
        have HW2 := Lib.hid (row_keep (HW.out.alloc _) hb)
        have hA := ((At.new wr 25 #[.int .u64 n.a, .int .u64 n.b, .int .u64 n.c]).keep hb).rd
        clear hb
        have HW3 := Lib.hid (HW2.out.alloc (.cells #[.int .u64 n.a, .int .u64 n.b, .int .u64 n.c] 25))
        have l7 := hB2.size
        go_wp2_with (at_builtin; refine wpList_append_lies _ rfl _ _ _ rfl w.heap.size 25 i0 (.agg #[.int .u64 0, .int .u64 0, .int .u64 0]) 3 24 Try.underlying32 hi0 hi1 hi2 hi3 rfl (by decide) (.slice va l.length vc) l.length (ocs l) rfl HW3.out ⟨w2.heap.size, 0, none⟩ 1 1 [.int .u64 n.a, .int .u64 n.b, .int .u64 n.c] rfl rfl (World.news_of_block (B := w2.heap.size) (cs := #[.int .u64 n.a, .int .u64 n.b, .int .u64 n.c]) (t := 25) (fr := (0, 0)) (news1 rfl)) (by simp [Value.oneCell']) (by omega) (by unfold maxLen; omega) (by omega) (by simp; omega) (w2.heap.size + 1) (by simp) ?_; intro ge cq w5 hown5 hgrow5 hat5 hlt5)
        go_roundw
        case rel => exact ⟨2, 2, by omega, rfl, rfl, by rw [HL2.out, ocs_app]; simpa using hown5, (hB2.alloc hB2.size _).grown hgrow5 (by simp; omega) (fun k hk => (HW3.out.lt k hk).1)⟩
        case measure => (simp [intOf] <;> omega)
    · have hx' : x = 2 := by omega
      subst hx'
      clear hx hk
      have ix := fun w => index40_2 c.a c.b c.c n.a n.b n.c p.a p.b p.c w
      by_cases hz : p.a = 0
      · have hl2 : ([c, n, p].take 3).filter (fun o => o.a != 0) = l := by rw [← HLl.out, show [c, n, p].take 3 = [c, n, p].take 2 ++ [p] from rfl, List.filter_append]; simp [hz]
        have HL2 := Lib.hid hl2
        have ht : ∀ W, Calls Try.prog 14 #[.agg #[.int .u64 p.a, .int .u64 p.b, .int .u64 p.c]] W fun e w' => e = .returned (.bool false) ∧ Below W.heap.size W w' := fun W => by rw [hz]; exact there_no _ _ _
        have HT := Lib.hid ht
        clear hl2 ht hz
        go_wp2_with fail
        refine (HT.out _).mono ?_
        rintro e w2 ⟨rfl, hb⟩
        have hB2 := below_from hBr hBr.size (below_of hb)
        have HW2 := Lib.hid (row_keep (HW.out.alloc _) hb)
        clear hb
        go_wp2_with fail
        go_roundw
        case rel => exact ⟨3, 3, by omega, rfl, rfl, by rw [HL2.out]; exact HW2.out, hB2⟩
        case measure => (simp [intOf] <;> omega)
      · have hl2 : ([c, n, p].take 3).filter (fun o => o.a != 0) = l ++ [p] := by rw [← HLl.out, show [c, n, p].take 3 = [c, n, p].take 2 ++ [p] from rfl, List.filter_append]; simp [hz]
        have HL2 := Lib.hid hl2
        have ht : ∀ W, Calls Try.prog 14 #[.agg #[.int .u64 p.a, .int .u64 p.b, .int .u64 p.c]] W fun e w' => e = .returned (.bool true) ∧ Below W.heap.size W w' := fun W => there_yes _ _ _ (by simp [hz]) _
        have HT := Lib.hid ht
        clear hl2 ht hz
        go_wp2_with fail
        refine (HT.out _).mono ?_
        rintro e w2 ⟨rfl, hb⟩
        have hB2 := below_from hBr hBr.size (below_of hb)
        have HW2 := Lib.hid (row_keep (HW.out.alloc _) hb)
        have hA := ((At.new wr 25 #[.int .u64 p.a, .int .u64 p.b, .int .u64 p.c]).keep hb).rd
        clear hb
        have HW3 := Lib.hid (HW2.out.alloc (.cells #[.int .u64 p.a, .int .u64 p.b, .int .u64 p.c] 25))
        have l7 := hB2.size
        go_wp2_with (at_builtin; refine wpList_append_lies _ rfl _ _ _ rfl w.heap.size 25 i0 (.agg #[.int .u64 0, .int .u64 0, .int .u64 0]) 3 24 Try.underlying32 hi0 hi1 hi2 hi3 rfl (by decide) (.slice va l.length vc) l.length (ocs l) rfl HW3.out ⟨w2.heap.size, 0, none⟩ 1 1 [.int .u64 p.a, .int .u64 p.b, .int .u64 p.c] rfl rfl (World.news_of_block (B := w2.heap.size) (cs := #[.int .u64 p.a, .int .u64 p.b, .int .u64 p.c]) (t := 25) (fr := (0, 0)) (news1 rfl)) (by simp [Value.oneCell']) (by omega) (by unfold maxLen; omega) (by omega) (by simp; omega) (w2.heap.size + 1) (by simp) ?_; intro ge cq w5 hown5 hgrow5 hat5 hlt5)
        go_roundw
        case rel => exact ⟨3, 3, by omega, rfl, rfl, by rw [HL2.out, ocs_app]; simpa using hown5, (hB2.alloc hB2.size _).grown hgrow5 (by simp; omega) (fun k hk => (HW3.out.lt k hk).1)⟩
        case measure => (simp [intOf] <;> omega)
    · have hx' : x = 3 := by omega
      subst hx'
      have hl2 : allL p c n = l := by rw [← HLl.out]; rfl
      have HL2 := Lib.hid hl2
      clear hl2 hx hk
      go_wp2_with fail
      go_ret
      exact ⟨_, rfl, by rw [HL2.out]; exact HW.out, hBr⟩
end Go.Proofs.Ytnogfgpdgodalaa
