/- The contract of fixed. -/
import Derived.Test.YtpojhdabpajjkaaC
namespace Go.Proofs.Ytpojhdabpajjkaa
open Go.RowKit
set_option maxHeartbeats 2000000
set_option maxRecDepth 100000
set_option linter.unusedVariables false

theorem ints_lit (W : World) (t : TypeId) (L : List Int) : Ints (W.alloc (.cells (L.map (Value.int .i64)).toArray t)) (some ⟨W.heap.size, 0, none⟩) L := by
  intro k hk
  refine ⟨W.heap.size, 0, rfl, by simp, ?_⟩
  rw [World.cell?_alloc_new]
  simp [hk]
theorem ints_nil (W : World) : Ints W none [] := fun k h => by simp at h
theorem fx_make_a (W : World) : Calls Try.prog 9 #[.slice (some ⟨W.heap.size, 0, none⟩) 3 3] (W.alloc (.cells #[.int .i64 3, .int .i64 1, .int .i64 3] 3)) fun e w' => e = .returned (.tuple #[.string ⟨#[3, 1]⟩, .int .i64 0]) ∧ Below (W.alloc (.cells #[.int .i64 3, .int .i64 1, .int .i64 3] 3)).heap.size (W.alloc (.cells #[.int .i64 3, .int .i64 1, .int .i64 3] 3)) w' := by
  have hS : makeS [3, 1, 3] = [3, 1] := by decide +kernel
  have hE : makeE [3, 1, 3] = 0 := by decide +kernel
  refine (make_any _ _ [3, 1, 3] _ (ints_lit W 3 [3, 1, 3]) (by decide)).mono fun e w' h => ⟨?_, h.2⟩
  have h1 := h.1
  rw [hS, hE] at h1
  exact h1
theorem fx_make_c (W : World) : Calls Try.prog 9 #[.slice (some ⟨W.heap.size, 0, none⟩) 1 1] (W.alloc (.cells #[.int .i64 0] 3)) fun e w' => e = .returned (.tuple #[.string ⟨#[]⟩, .int .i64 1]) ∧ Below (W.alloc (.cells #[.int .i64 0] 3)).heap.size (W.alloc (.cells #[.int .i64 0] 3)) w' := by
  have hS : makeS [0] = [] := by decide +kernel
  have hE : makeE [0] = 1 := by decide +kernel
  refine (make_any _ _ [0] _ (ints_lit W 3 [0]) (by decide)).mono fun e w' h => ⟨?_, h.2⟩
  have h1 := h.1
  rw [hS, hE] at h1
  exact h1
theorem fx_make_d (W : World) : Calls Try.prog 9 #[.slice (some ⟨W.heap.size, 0, none⟩) 9 9] (W.alloc (.cells #[.int .i64 1, .int .i64 2, .int .i64 3, .int .i64 4, .int .i64 5, .int .i64 6, .int .i64 7, .int .i64 8, .int .i64 9] 3)) fun e w' => e = .returned (.tuple #[.string ⟨#[]⟩, .int .i64 1]) ∧ Below (W.alloc (.cells #[.int .i64 1, .int .i64 2, .int .i64 3, .int .i64 4, .int .i64 5, .int .i64 6, .int .i64 7, .int .i64 8, .int .i64 9] 3)).heap.size (W.alloc (.cells #[.int .i64 1, .int .i64 2, .int .i64 3, .int .i64 4, .int .i64 5, .int .i64 6, .int .i64 7, .int .i64 8, .int .i64 9] 3)) w' := by
  have hS : makeS [1, 2, 3, 4, 5, 6, 7, 8, 9] = [] := by decide +kernel
  have hE : makeE [1, 2, 3, 4, 5, 6, 7, 8, 9] = 1 := by decide +kernel
  refine (make_any _ _ [1, 2, 3, 4, 5, 6, 7, 8, 9] _ (ints_lit W 3 [1, 2, 3, 4, 5, 6, 7, 8, 9]) (by decide)).mono fun e w' h => ⟨?_, h.2⟩
  have h1 := h.1
  rw [hS, hE] at h1
  exact h1
theorem fx_make_b (W : World) : Calls Try.prog 9 #[.slice none 0 0] W fun e w' => e = .returned (.tuple #[.string ⟨#[]⟩, .int .i64 1]) ∧ Below W.heap.size W w' := by
  have hS : makeS [] = [] := by decide +kernel
  have hE : makeE [] = 1 := by decide +kernel
  refine (make_any none 0 [] W (ints_nil W) (by decide)).mono fun e w' h => ⟨?_, h.2⟩
  have h1 := h.1
  rw [hS, hE] at h1
  exact h1
theorem fx_best_a (W : World) : Calls Try.prog 11 #[.string ⟨#[5, 3, 1]⟩, .string ⟨#[4, 3, 2, 1]⟩] W fun e w' => e = .returned (.tuple #[.int .i64 3, .int .i64 0]) ∧ Below W.heap.size W w' := by
  have hV : bestV [5, 3, 1] [4, 3, 2, 1] = 3 := by decide +kernel
  have hE : bestE [5, 3, 1] [4, 3, 2, 1] = 0 := by decide +kernel
  refine (best_any ⟨#[5, 3, 1]⟩ ⟨#[4, 3, 2, 1]⟩ W (by decide) (by decide)).mono fun e w' h => ⟨?_, h.2⟩
  have h1 := h.1
  rw [show (⟨#[5, 3, 1]⟩ : ByteArray).data.toList = [5, 3, 1] from rfl, show (⟨#[4, 3, 2, 1]⟩ : ByteArray).data.toList = [4, 3, 2, 1] from rfl, hV, hE] at h1
  exact h1
theorem fx_best_b (W : World) : Calls Try.prog 11 #[.string ⟨#[5]⟩, .string ⟨#[4]⟩] W fun e w' => e = .returned (.tuple #[.int .i64 0, .int .i64 11]) ∧ Below W.heap.size W w' := by
  have hV : bestV [5] [4] = 0 := by decide +kernel
  have hE : bestE [5] [4] = 11 := by decide +kernel
  refine (best_any ⟨#[5]⟩ ⟨#[4]⟩ W (by decide) (by decide)).mono fun e w' h => ⟨?_, h.2⟩
  have h1 := h.1
  rw [show (⟨#[5]⟩ : ByteArray).data.toList = [5] from rfl, show (⟨#[4]⟩ : ByteArray).data.toList = [4] from rfl, hV, hE] at h1
  exact h1
theorem fx_best_c (W : World) : Calls Try.prog 11 #[.string ⟨#[]⟩, .string ⟨#[4]⟩] W fun e w' => e = .returned (.tuple #[.int .i64 0, .int .i64 3]) ∧ Below W.heap.size W w' := by
  have hV : bestV [] [4] = 0 := by decide +kernel
  have hE : bestE [] [4] = 3 := by decide +kernel
  refine (best_any ⟨#[]⟩ ⟨#[4]⟩ W (by decide) (by decide)).mono fun e w' h => ⟨?_, h.2⟩
  have h1 := h.1
  rw [show (⟨#[]⟩ : ByteArray).data.toList = [] from rfl, show (⟨#[4]⟩ : ByteArray).data.toList = [4] from rfl, hV, hE] at h1
  exact h1
theorem fx_right_a (W : World) : Calls Try.prog 13 #[.string ⟨#[3, 1]⟩] W fun e w' => e = .returned (.bool true) ∧ W = w' := by
  have hR : rightB [3, 1] = true := by decide +kernel
  have h := right_any ⟨#[3, 1]⟩ W (by decide)
  rw [show (⟨#[3, 1]⟩ : ByteArray).data.toList = [3, 1] from rfl, hR] at h
  exact h
theorem fx_right_b (W : World) : Calls Try.prog 13 #[.string ⟨#[1, 3]⟩] W fun e w' => e = .returned (.bool false) ∧ W = w' := by
  have hR : rightB [1, 3] = false := by decide +kernel
  have h := right_any ⟨#[1, 3]⟩ W (by decide)
  rw [show (⟨#[1, 3]⟩ : ByteArray).data.toList = [1, 3] from rfl, hR] at h
  exact h
theorem fx_right_c (W : World) : Calls Try.prog 13 #[.string ⟨#[3, 3]⟩] W fun e w' => e = .returned (.bool false) ∧ W = w' := by
  have hR : rightB [3, 3] = false := by decide +kernel
  have h := right_any ⟨#[3, 3]⟩ W (by decide)
  rw [show (⟨#[3, 3]⟩ : ByteArray).data.toList = [3, 3] from rfl, hR] at h
  exact h
theorem fx_right_d (W : World) : Calls Try.prog 13 #[.string ⟨#[3, 0]⟩] W fun e w' => e = .returned (.bool false) ∧ W = w' := by
  have hR : rightB [3, 0] = false := by decide +kernel
  have h := right_any ⟨#[3, 0]⟩ W (by decide)
  rw [show (⟨#[3, 0]⟩ : ByteArray).data.toList = [3, 0] from rfl, hR] at h
  exact h
theorem fx_both (W : World) : Calls Try.prog 15 #[.string ⟨#[5, 3, 1]⟩, .string ⟨#[3, 1]⟩] W fun e w' => e = .returned (.string ⟨#[3, 1]⟩) ∧ Below W.heap.size W w' := by
  have hB : bothL [5, 3, 1] [3, 1] = [3, 1] := by decide +kernel
  refine (both_any ⟨#[5, 3, 1]⟩ ⟨#[3, 1]⟩ W (by decide) (by decide)).mono fun e w' h => ⟨?_, h.2⟩
  have h1 := h.1
  rw [show (⟨#[5, 3, 1]⟩ : ByteArray).data.toList = [5, 3, 1] from rfl, show (⟨#[3, 1]⟩ : ByteArray).data.toList = [3, 1] from rfl, hB] at h1
  exact h1

theorem fixed_any (w : World) : Calls Try.prog 17 #[] w fun e w' => e = .returned (.bool true) ∧ Below w.heap.size w w' := by
  go_enter Try.func17, Try.ntmps17
  go_wp2_with fail
  refine (fx_make_a _).mono ?_
  rintro e x1 ⟨rfl, hb⟩
  have hB : Below w.heap.size w x1 := (below_of hb)
  clear hb
  go_wp2_with fail
  refine (fx_make_b _).mono ?_
  rintro e x2 ⟨rfl, hb⟩
  replace hB : Below w.heap.size w x2 := below_from hB hB.size hb
  clear hb
  go_wp2_with fail
  refine (fx_make_c _).mono ?_
  rintro e x3 ⟨rfl, hb⟩
  replace hB : Below w.heap.size w x3 := below_from hB hB.size (below_of hb)
  clear hb
  go_wp2_with fail
  refine (fx_make_d _).mono ?_
  rintro e x4 ⟨rfl, hb⟩
  replace hB : Below w.heap.size w x4 := below_from hB hB.size (below_of hb)
  clear hb
  go_wp2_with fail
  refine (fx_best_a _).mono ?_
  rintro e x5 ⟨rfl, hb⟩
  replace hB : Below w.heap.size w x5 := below_from hB hB.size hb
  clear hb
  go_wp2_with fail
  refine (fx_best_b _).mono ?_
  rintro e x6 ⟨rfl, hb⟩
  replace hB : Below w.heap.size w x6 := below_from hB hB.size hb
  clear hb
  go_wp2_with fail
  refine (fx_best_c _).mono ?_
  rintro e x7 ⟨rfl, hb⟩
  replace hB : Below w.heap.size w x7 := below_from hB hB.size hb
  clear hb
  go_wp2_with fail
  refine (fx_right_a _).mono ?_
  rintro e _ ⟨rfl, rfl⟩
  go_wp2_with fail
  refine (fx_right_b _).mono ?_
  rintro e _ ⟨rfl, rfl⟩
  go_wp2_with fail
  refine (fx_right_c _).mono ?_
  rintro e _ ⟨rfl, rfl⟩
  go_wp2_with fail
  refine (fx_right_d _).mono ?_
  rintro e _ ⟨rfl, rfl⟩
  go_wp2_with fail
  refine (fx_both _).mono ?_
  rintro e x8 ⟨rfl, hb⟩
  replace hB : Below w.heap.size w x8 := below_from hB hB.size hb
  clear hb
  go_wp2
  go_ret
  exact ⟨rfl, hB⟩
end Go.Proofs.Ytpojhdabpajjkaa
