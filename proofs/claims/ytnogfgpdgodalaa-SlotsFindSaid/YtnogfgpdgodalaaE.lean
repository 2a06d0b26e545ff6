/- What '==' says of two sessions, of two peers' sessions, of three sessions. -/
import Derived.Test.YtnogfgpdgodalaaM
import Derived.Test.YtnogfgpdgodalaaRows
import Derived.Laws.StructEq
import Derived.Laws.Tables
import Derived.KernelRfl
namespace Go.Proofs.Ytnogfgpdgodalaa
open Go.RowKit
set_option maxHeartbeats 1000000
set_option maxRecDepth 100000
set_option linter.unusedVariables false

@[go_sem] theorem eq25 (n : Nat) (a b c a' b' c' : Int) (w : World) : (Op.equalIn (n + 1 + 1) 25 (.agg #[.int .u64 a, .int .u64 b, .int .u64 c]) (.agg #[.int .u64 a', .int .u64 b', .int .u64 c'])).run Try.prog w = .ok (a == a' && b == b' && c == c') w := by
  have u23 := Try.underlying23
  have a23 := Try.isAgg23
  have z23 := Try.sizeOf23
  have hS : Try.prog.underlying 25 = some (.struct (Try.prog.fieldsOf 25)) := by kernel_rfl
  rw [run_equalIn_agg w (n + 1) 25 _ _ hS (by kernel_rfl)]
  simp only [Program.fieldsOf, Try.underlying25]
  go_simp
  by_cases h1 : a = a' <;> by_cases h2 : b = b' <;> by_cases h3 : c = c' <;> simp [h1, h2, h3]

@[go_sem] theorem eq27 (n : Nat) (a b c d e f g h i a' b' c' d' e' f' g' h' i' : Int) (w : World) : (Op.equalIn (n + 1 + 1 + 1) 27 (.agg #[.int .u64 a, .int .u64 b, .int .u64 c, .int .u64 d, .int .u64 e, .int .u64 f, .int .u64 g, .int .u64 h, .int .u64 i]) (.agg #[.int .u64 a', .int .u64 b', .int .u64 c', .int .u64 d', .int .u64 e', .int .u64 f', .int .u64 g', .int .u64 h', .int .u64 i'])).run Try.prog w = .ok ((a == a' && b == b' && c == c') && (d == d' && e == e' && f == f') && (g == g' && h == h' && i == i')) w := by
  have a25 := Try.isAgg25
  have z25 := Try.sizeOf25
  have hS : Try.prog.underlying 27 = some (.struct (Try.prog.fieldsOf 27)) := by kernel_rfl
  rw [run_equalIn_agg w (n + 1 + 1) 27 _ _ hS (by kernel_rfl)]
  simp only [Program.fieldsOf, Try.underlying27]
  go_simp
  by_cases h1 : a = a'
  rotate_left
  · simp [h1]
  by_cases h2 : b = b'
  rotate_left
  · simp [h2]
  by_cases h3 : c = c'
  rotate_left
  · simp [h3]
  by_cases h4 : d = d'
  rotate_left
  · simp [h4]
  by_cases h5 : e = e'
  rotate_left
  · simp [h5]
  by_cases h6 : f = f'
  rotate_left
  · simp [h6]
  by_cases h7 : g = g'
  rotate_left
  · simp [h7]
  by_cases h8 : h = h'
  rotate_left
  · simp [h8]
  by_cases h9 : i = i'
  rotate_left
  · simp [h9]
  simp [h1, h2, h3, h4, h5, h6, h7, h8, h9]
@[go_sem] theorem eq40 (n : Nat) (a b c d e f g h i a' b' c' d' e' f' g' h' i' : Int) (w : World) : (Op.equalIn (n + 1 + 1 + 1) 40 (.agg #[.int .u64 a, .int .u64 b, .int .u64 c, .int .u64 d, .int .u64 e, .int .u64 f, .int .u64 g, .int .u64 h, .int .u64 i]) (.agg #[.int .u64 a', .int .u64 b', .int .u64 c', .int .u64 d', .int .u64 e', .int .u64 f', .int .u64 g', .int .u64 h', .int .u64 i'])).run Try.prog w = .ok ((a == a' && b == b' && c == c') && (d == d' && e == e' && f == f') && (g == g' && h == h' && i == i')) w := by
  have a25 := Try.isAgg25
  have z25 := Try.sizeOf25
  rw [Op.equalIn]
  simp only [Sem.run_bind, run_underlying Try.underlying40, Result.andThen_ok]
  simp only [Std.Legacy.Range.forIn_eq_forIn_range', Std.Legacy.Range.size, Nat.sub_zero, Nat.add_sub_cancel, Nat.div_one, List.range'_succ, List.range'_zero, List.forIn_cons, List.forIn_nil]
  go_simp
  by_cases h1 : a = a'
  rotate_left
  · simp [h1]
  by_cases h2 : b = b'
  rotate_left
  · simp [h2]
  by_cases h3 : c = c'
  rotate_left
  · simp [h3]
  by_cases h4 : d = d'
  rotate_left
  · simp [h4]
  by_cases h5 : e = e'
  rotate_left
  · simp [h5]
  by_cases h6 : f = f'
  rotate_left
  · simp [h6]
  by_cases h7 : g = g'
  rotate_left
  · simp [h7]
  by_cases h8 : h = h'
  rotate_left
  · simp [h8]
  by_cases h9 : i = i'
  rotate_left
  · simp [h9]
  simp [h1, h2, h3, h4, h5, h6, h7, h8, h9]
@[go_sem] theorem eq25_any (a b c a' b' c' : Int) (w : World) : (Op.equalIn 10000 25 (.agg #[.int .u64 a, .int .u64 b, .int .u64 c]) (.agg #[.int .u64 a', .int .u64 b', .int .u64 c'])).run Try.prog w = .ok (a == a' && b == b' && c == c') w := eq25 9998 a b c a' b' c' w
@[go_sem] theorem eq27_any (a b c d e f g h i a' b' c' d' e' f' g' h' i' : Int) (w : World) : (Op.equalIn 10000 27 (.agg #[.int .u64 a, .int .u64 b, .int .u64 c, .int .u64 d, .int .u64 e, .int .u64 f, .int .u64 g, .int .u64 h, .int .u64 i]) (.agg #[.int .u64 a', .int .u64 b', .int .u64 c', .int .u64 d', .int .u64 e', .int .u64 f', .int .u64 g', .int .u64 h', .int .u64 i'])).run Try.prog w = .ok ((a == a' && b == b' && c == c') && (d == d' && e == e' && f == f') && (g == g' && h == h' && i == i')) w := eq27 9997 a b c d e f g h i a' b' c' d' e' f' g' h' i' w
@[go_sem] theorem eq40_any (a b c d e f g h i a' b' c' d' e' f' g' h' i' : Int) (w : World) : (Op.equalIn 10000 40 (.agg #[.int .u64 a, .int .u64 b, .int .u64 c, .int .u64 d, .int .u64 e, .int .u64 f, .int .u64 g, .int .u64 h, .int .u64 i]) (.agg #[.int .u64 a', .int .u64 b', .int .u64 c', .int .u64 d', .int .u64 e', .int .u64 f', .int .u64 g', .int .u64 h', .int .u64 i'])).run Try.prog w = .ok ((a == a' && b == b' && c == c') && (d == d' && e == e' && f == f') && (g == g' && h == h' && i == i')) w := eq40 9997 a b c d e f g h i a' b' c' d' e' f' g' h' i' w
end Go.Proofs.Ytnogfgpdgodalaa
