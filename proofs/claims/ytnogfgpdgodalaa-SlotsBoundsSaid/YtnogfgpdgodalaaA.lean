/- The contracts of slots' functions. -/
import Derived.Test.YtnogfgpdgodalaaRows
import Derived.Test.YtnogfgpdgodalaaH
import Derived.BigQuiet
namespace Go.Proofs.Ytnogfgpdgodalaa
open Go.RowKit
set_option maxHeartbeats 1000000
set_option linter.unusedVariables false

theorem there_no (b c : Int) (w : World) : Calls Try.prog 14 #[.agg #[.int .u64 0, .int .u64 b, .int .u64 c]] w fun e w' => e = .returned (.bool false) ∧ Below w.heap.size w w' := by
  go_enter Try.func14, Try.ntmps14
  go_wp2
  go_ret
  exact ⟨rfl, by go_grown⟩

theorem there_yes (a b c : Int) (h : (a != 0) = true) (w : World) : Calls Try.prog 14 #[.agg #[.int .u64 a, .int .u64 b, .int .u64 c]] w fun e w' => e = .returned (.bool true) ∧ Below w.heap.size w w' := by
  have h' : ¬ a = 0 := by simpa using h
  go_enter Try.func14, Try.ntmps14
  go_wp2
  all_goals go_ret
  all_goals exact ⟨rfl, by go_grown⟩

theorem order_any (a b c d e f g h i : Int) (w : World) :
    Calls Try.prog 15 #[.agg #[.int .u64 a, .int .u64 b, .int .u64 c, .int .u64 d, .int .u64 e, .int .u64 f, .int .u64 g, .int .u64 h, .int .u64 i]] w fun en w' => en = .returned (.agg #[.int .u64 d, .int .u64 e, .int .u64 f, .int .u64 g, .int .u64 h, .int .u64 i, .int .u64 a, .int .u64 b, .int .u64 c]) ∧ Below w.heap.size w w' := by
  go_enter Try.func15, Try.ntmps15
  go_wp2
  exact bodyPost_ret (v := .agg #[.int .u64 d, .int .u64 e, .int .u64 f, .int .u64 g, .int .u64 h, .int .u64 i, .int .u64 a, .int .u64 b, .int .u64 c]) (by simp [results, Try.results15, go_sem]) rfl ⟨rfl, by go_grown⟩

theorem mine_no (a b c d e f h i x y z : Int) (w : World) :
    Calls Try.prog 7 #[.agg #[.int .u64 a, .int .u64 b, .int .u64 c, .int .u64 d, .int .u64 e, .int .u64 f, .int .u64 0, .int .u64 h, .int .u64 i], .agg #[.int .u64 x, .int .u64 y, .int .u64 z]] w fun en w' => en = .returned (.agg #[.int .u64 d, .int .u64 e, .int .u64 f, .int .u64 x, .int .u64 y, .int .u64 z, .int .u64 0, .int .u64 0, .int .u64 0]) ∧ Below w.heap.size w w' := by
  go_enter Try.func7, Try.ntmps7
  go_wp2
  exact bodyPost_ret (v := .agg #[.int .u64 d, .int .u64 e, .int .u64 f, .int .u64 x, .int .u64 y, .int .u64 z, .int .u64 0, .int .u64 0, .int .u64 0]) (by simp [results, Try.results7, go_sem]) rfl ⟨rfl, by go_grown⟩

theorem mine_yes (a b c d e f g h i x y z : Int) (hg : (g != 0) = true) (w : World) :
    Calls Try.prog 7 #[.agg #[.int .u64 a, .int .u64 b, .int .u64 c, .int .u64 d, .int .u64 e, .int .u64 f, .int .u64 g, .int .u64 h, .int .u64 i], .agg #[.int .u64 x, .int .u64 y, .int .u64 z]] w fun en w' => en = .returned (.agg #[.int .u64 g, .int .u64 h, .int .u64 i, .int .u64 x, .int .u64 y, .int .u64 z, .int .u64 0, .int .u64 0, .int .u64 0]) ∧ Below w.heap.size w w' := by
  have hg' : ¬ g = 0 := by simpa using hg
  go_enter Try.func7, Try.ntmps7
  go_wp2
  exact bodyPost_ret (v := .agg #[.int .u64 g, .int .u64 h, .int .u64 i, .int .u64 x, .int .u64 y, .int .u64 z, .int .u64 0, .int .u64 0, .int .u64 0]) (by simp [results, Try.results7, go_sem]) rfl ⟨rfl, by go_grown⟩

theorem theirs_any (a b c d e f g h i x y z : Int) (w : World) :
    Calls Try.prog 8 #[.agg #[.int .u64 a, .int .u64 b, .int .u64 c, .int .u64 d, .int .u64 e, .int .u64 f, .int .u64 g, .int .u64 h, .int .u64 i], .agg #[.int .u64 x, .int .u64 y, .int .u64 z]] w fun en w' => en = .returned (.agg #[.int .u64 a, .int .u64 b, .int .u64 c, .int .u64 d, .int .u64 e, .int .u64 f, .int .u64 x, .int .u64 y, .int .u64 z]) ∧ Below w.heap.size w w' := by
  go_enter Try.func8, Try.ntmps8
  go_wp2
  exact bodyPost_ret (v := .agg #[.int .u64 a, .int .u64 b, .int .u64 c, .int .u64 d, .int .u64 e, .int .u64 f, .int .u64 x, .int .u64 y, .int .u64 z]) (by simp [results, Try.results8, go_sem]) rfl ⟨rfl, by go_grown⟩

theorem heard_zero (a b c d e f g h i : Int) (w : World) :
    Calls Try.prog 9 #[.agg #[.int .u64 a, .int .u64 b, .int .u64 c, .int .u64 d, .int .u64 e, .int .u64 f, .int .u64 g, .int .u64 h, .int .u64 i], .int .u64 0] w fun en w' => en = .returned (.agg #[.int .u64 a, .int .u64 b, .int .u64 c, .int .u64 d, .int .u64 e, .int .u64 f, .int .u64 g, .int .u64 h, .int .u64 i]) ∧ Below w.heap.size w w' := by
  go_enter Try.func9, Try.ntmps9
  go_wp2
  exact bodyPost_ret (v := .agg #[.int .u64 a, .int .u64 b, .int .u64 c, .int .u64 d, .int .u64 e, .int .u64 f, .int .u64 g, .int .u64 h, .int .u64 i]) (by simp [results, Try.results9, go_sem]) rfl ⟨rfl, by go_grown⟩

theorem heard_no (a b c d e f g h i n : Int) (h0 : (n == 0) = false) (hn : (n != g) = true) (w : World) :
    Calls Try.prog 9 #[.agg #[.int .u64 a, .int .u64 b, .int .u64 c, .int .u64 d, .int .u64 e, .int .u64 f, .int .u64 g, .int .u64 h, .int .u64 i], .int .u64 n] w fun en w' => en = .returned (.agg #[.int .u64 a, .int .u64 b, .int .u64 c, .int .u64 d, .int .u64 e, .int .u64 f, .int .u64 g, .int .u64 h, .int .u64 i]) ∧ Below w.heap.size w w' := by
  go_enter Try.func9, Try.ntmps9
  go_wp2
  exact bodyPost_ret (v := .agg #[.int .u64 a, .int .u64 b, .int .u64 c, .int .u64 d, .int .u64 e, .int .u64 f, .int .u64 g, .int .u64 h, .int .u64 i]) (by simp [results, Try.results9, go_sem]) rfl ⟨rfl, by go_grown⟩

theorem heard_yes (a b c d e f g h i : Int) (h0 : (g == 0) = false) (w : World) :
    Calls Try.prog 9 #[.agg #[.int .u64 a, .int .u64 b, .int .u64 c, .int .u64 d, .int .u64 e, .int .u64 f, .int .u64 g, .int .u64 h, .int .u64 i], .int .u64 g] w fun en w' => en = .returned (.agg #[.int .u64 d, .int .u64 e, .int .u64 f, .int .u64 g, .int .u64 h, .int .u64 i, .int .u64 0, .int .u64 0, .int .u64 0]) ∧ Below w.heap.size w w' := by
  go_enter Try.func9, Try.ntmps9
  go_wp2
  exact bodyPost_ret (v := .agg #[.int .u64 d, .int .u64 e, .int .u64 f, .int .u64 g, .int .u64 h, .int .u64 i, .int .u64 0, .int .u64 0, .int .u64 0]) (by simp [results, Try.results9, go_sem]) rfl ⟨rfl, by go_grown⟩
end Go.Proofs.Ytnogfgpdgodalaa
