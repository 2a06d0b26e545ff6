/- The contracts of window's digit, Can, Take, Has. -/
import Derived.Test.YtpjckfpoeiljbaaRows
import Derived.Test.YtpjckfpoeiljbaaPlain
import Derived.Test.YtpjckfpoeiljbaaH
namespace Go.Proofs.Ytpjckfpoeiljbaa
open Go.RowKit
set_option maxHeartbeats 400000
set_option linter.unusedVariables false

theorem wrap_pow {k : Nat} (h : k < 64) : IntKind.u64.wrap (2 ^ k) = ((2 ^ k : Nat) : Int) := by
  rw [IntKind.wrap_u64]
  have h1 := pow_lt h
  have e : ((2 ^ k : Nat) : Int) = (2 : Int) ^ k := by simp
  rw [← e]
  generalize 2 ^ k = m at h1 ⊢
  omega

theorem bits_dig (N B n : Nat) (hB : B < 18446744073709551616) : bits .and .u64 (B : Int) (dig N n : Int) = ((B &&& dig N n : Nat) : Int) := u64_and_nat _ _ hB (dig_lt N n)

theorem digit_lo (N B n : Nat) (w : World) (h : N ≤ n) :
    Calls Try.prog 17 #[.agg #[.int .u64 N, .int .u64 B], .int .u64 n] w fun e w' => e = .returned (.int .u64 0) ∧ Below w.heap.size w w' := by
  go_enter Try.func17, Try.ntmps17
  go_wp2
  go_ret
  exact ⟨rfl, by go_grown⟩

theorem digit_far (N B n : Nat) (w : World) (h : n < N) (hn : N < 18446744073709551616) (h2 : 64 ≤ N - 1 - n) :
    Calls Try.prog 17 #[.agg #[.int .u64 N, .int .u64 B], .int .u64 n] w fun e w' => e = .returned (.int .u64 0) ∧ Below w.heap.size w w' := by
  have h' : ¬ N ≤ n := by omega
  have h3 : (64 : Int) ≤ (N : Int) - 1 - n := by omega
  go_enter Try.func17, Try.ntmps17
  go_wp2
  go_ret
  exact ⟨rfl, by go_grown⟩

theorem digit_in (N B n : Nat) (w : World) (h : n < N) (hn : N < 18446744073709551616) (h2 : N - 1 - n < 64) :
    Calls Try.prog 17 #[.agg #[.int .u64 N, .int .u64 B], .int .u64 n] w fun e w' => e = .returned (.int .u64 (2^(N-1-n) : Nat)) ∧ Below w.heap.size w w' := by
  have h' : ¬ N ≤ n := by omega
  have h3 : (N : Int) - 1 - n < 64 := by omega
  go_enter Try.func17, Try.ntmps17
  go_wp2
  go_ret
  exact ⟨by rw [← wrap_pow h2]; rfl, by go_grown⟩

theorem digit_any (N B n : Nat) (w : World) (hN : N < 18446744073709551616) :
    Calls Try.prog 17 #[.agg #[.int .u64 N, .int .u64 B], .int .u64 n] w fun e w' => e = .returned (.int .u64 (dig N n)) ∧ Below w.heap.size w w' := by
  by_cases h : n < N
  · by_cases h2 : N - 1 - n < 64
    · rw [dig_in h h2]; exact digit_in N B n w h hN h2
    · rw [dig_far (by omega)]; exact digit_far N B n w h hN (by omega)
  · rw [dig_lo (by omega)]; exact digit_lo N B n w (by omega)

theorem can_max (N B : Nat) (w : World) :
    Calls Try.prog 12 #[.agg #[.int .u64 N, .int .u64 B], .int .u64 18446744073709551615] w fun e w' => e = .returned (.bool false) ∧ Below w.heap.size w w' := by
  go_enter Try.func12, Try.ntmps12
  go_wp2
  go_ret
  exact ⟨rfl, by go_grown⟩

theorem can_lo (N B n : Nat) (w : World) (h : N ≤ n) (hn : n < 18446744073709551615) :
    Calls Try.prog 12 #[.agg #[.int .u64 N, .int .u64 B], .int .u64 n] w fun e w' => e = .returned (.bool true) ∧ Below w.heap.size w w' := by
  go_enter Try.func12, Try.ntmps12
  go_wp2
  all_goals go_ret
  all_goals exact ⟨rfl, by go_grown⟩

theorem can_in (N B n : Nat) (w : World) (h : n < N) (hN : N < 18446744073709551616) (hB : B < 18446744073709551616) :
    Calls Try.prog 12 #[.agg #[.int .u64 N, .int .u64 B], .int .u64 n] w fun e w' => e = .returned (.bool (canB N B n)) ∧ Below w.heap.size w w' := by
  have h' : ¬ N ≤ n := by omega
  have hn : n < 18446744073709551615 := by omega
  go_enter Try.func12, Try.ntmps12
  go_wp2_with (go_at_call 17; refine (digit_any _ _ _ _ (by omega)).mono ?_; rintro e w' ⟨rfl, hb⟩; obtain ⟨hc, hf⟩ := bcell hb)
  · rename_i hd
    go_ret
    exact ⟨ret_bool (by rw [canB_no h hN (.inl hd)]), below_of hb⟩
  · rename_i hd
    go_ret
    refine ⟨ret_bool ?_, below_of hb⟩
    rw [bits_dig _ _ _ hB, canB_in h hN]
    simp [hd, bne, BEq.beq]

theorem can_any (N B n : Nat) (w : World) (hn : n < 18446744073709551616) (hN : N < 18446744073709551616) (hB : B < 18446744073709551616) :
    Calls Try.prog 12 #[.agg #[.int .u64 N, .int .u64 B], .int .u64 n] w fun e w' => e = .returned (.bool (canB N B n)) ∧ Below w.heap.size w w' := by
  by_cases h1 : n = 18446744073709551615
  · subst h1
    rw [canB_max]; exact can_max N B w
  · by_cases h : N ≤ n
    · rw [canB_lo h (by omega)]; exact can_lo N B n w h (by omega)
    · exact can_in N B n w (by omega) hN hB

theorem has_any (N B n : Nat) (w : World) (hN : N < 18446744073709551616) (hB : B < 18446744073709551616) :
    Calls Try.prog 14 #[.agg #[.int .u64 N, .int .u64 B], .int .u64 n] w fun e w' => e = .returned (.bool (hasB N B n)) ∧ Below w.heap.size w w' := by
  go_enter Try.func14, Try.ntmps14
  go_wp2_with fail
  go_region_held3 (fun w' => w'.cell? ⟨w.heap.size, 0, none⟩ = some (.int .u64 N) ∧ w'.cell? ⟨w.heap.size, 1, none⟩ = some (.int .u64 B) ∧ Below w.heap.size w w' ∧ w.heap.size < w'.heap.size)
    (first | (go_keep; done) | (refine ⟨?_, ?_, ?_, ?_⟩ <;> first | (simp [*]; done) | go_grown))
    (first | (go_at_call 17; refine (digit_any _ _ _ _ (by omega)).mono ?_; rintro e w' ⟨rfl, hb⟩; obtain ⟨hc, hf⟩ := bcell hb; have hs := hstep2 (by assumption) hb))
  go_wp2
  go_ret
  refine ⟨ret_bool ?_, hs.1⟩
  rw [bits_dig _ _ _ hB, has_dig]
  simp [bne, BEq.beq]

theorem take_max (N B : Nat) (w : World) :
    Calls Try.prog 9 #[.agg #[.int .u64 N, .int .u64 B], .int .u64 18446744073709551615] w fun e w' => e = .returned (.tuple #[.agg #[.int .u64 0, .int .u64 0], .int .i64 1]) ∧ Below w.heap.size w w' := by
  go_enter Try.func9, Try.ntmps9
  go_wp2
  exact bodyPost_ret (v := .tuple #[.agg #[.int .u64 0, .int .u64 0], .int .i64 1]) (by simp [results, Try.results9, go_sem]) rfl ⟨rfl, by go_grown⟩

theorem take_old (N B n : Nat) (w : World) (hn : n < 18446744073709551615) (hN : N < 18446744073709551616) (hB : B < 18446744073709551616) (hcan : canB N B n = false) :
    Calls Try.prog 9 #[.agg #[.int .u64 N, .int .u64 B], .int .u64 n] w fun e w' => e = .returned (.tuple #[.agg #[.int .u64 0, .int .u64 0], .int .i64 12]) ∧ Below w.heap.size w w' := by
  go_enter Try.func9, Try.ntmps9
  go_wp2_with (go_at_call 12; refine (can_any _ _ _ _ (by omega) hN hB).mono ?_; rintro e w' ⟨rfl, hb⟩; obtain ⟨hc, hf⟩ := bcell hb; have hz := hb.size; simp at hz; have hb0 := below_of2 hb)
  exact bodyPost_ret (v := .tuple #[.agg #[.int .u64 0, .int .u64 0], .int .i64 12]) (by simp [results, Try.results9, go_sem, hc]) rfl ⟨rfl, by go_grown⟩

theorem or_one (x : Nat) (hx : x < 18446744073709551616) : bits .or .u64 (x : Int) 1 = ((x ||| 1 : Nat) : Int) := u64_or_nat x 1 hx (by omega)

theorem shl_wrap (B k : Nat) : IntKind.u64.wrap ((B : Int) * 2 ^ k) = ((B * 2 ^ k % 18446744073709551616 : Nat) : Int) := by
  rw [IntKind.wrap_u64]; simp

theorem shl_any (B : Nat) (c : Int) (hc : 0 ≤ c) (w : World) : (Op.shift .shl .u64 B .u64 c).run Try.prog w = .ok (.int .u64 ((B * 2 ^ min c.toNat 64 % 18446744073709551616 : Nat) : Int)) w := by
  unfold Op.shift
  rw [if_neg (by omega)]
  simp only [IntKind.bits]
  rw [shl_wrap]; rfl

theorem take_new (N B n : Nat) (w : World) (hn : n < 18446744073709551615) (hN : N < 18446744073709551616) (hB : B < 18446744073709551616) (h : N ≤ n) :
    Calls Try.prog 9 #[.agg #[.int .u64 N, .int .u64 B], .int .u64 n] w fun e w' => e = .returned (.tuple #[.agg #[.int .u64 (n + 1 : Nat), .int .u64 ((B * 2 ^ min (n + 1 - N) 64) % 18446744073709551616 ||| 1 : Nat)], .int .i64 0]) ∧ Below w.heap.size w w' := by
  have hs := fun w => shl_any B ((n : Int) + 1 - N) (by omega) w
  have hor := or_one (B * 2 ^ min (n + 1 - N) 64 % 18446744073709551616) (Nat.mod_lt _ (by omega))
  have ht : ((n : Int) + 1 - N).toNat = n + 1 - N := by omega
  rw [ht] at hs
  generalize hX : (B * 2 ^ min (n + 1 - N) 64) % 18446744073709551616 = X at hs hor ⊢
  generalize hY : X ||| 1 = Y at hor ⊢
  clear hX hY ht
  go_enter Try.func9, Try.ntmps9
  go_wp2_with (go_at_call 12; refine (can_lo _ _ _ _ h (by omega)).mono ?_; rintro e w' ⟨rfl, hb⟩; obtain ⟨hc, hf⟩ := bcell hb; have hz := hb.size; simp at hz; have hb0 := below_of2 hb)
  exact bodyPost_ret (v := .tuple #[.agg #[.int .u64 (n + 1 : Nat), .int .u64 Y], .int .i64 0]) (by simp [results, Try.results9, go_sem, hc]) rfl ⟨rfl, by go_grown⟩

theorem take_in (N B n : Nat) (w : World) (hn : n < N) (hN : N < 18446744073709551616) (hB : B < 18446744073709551616) (hcan : canB N B n = true) :
    Calls Try.prog 9 #[.agg #[.int .u64 N, .int .u64 B], .int .u64 n] w fun e w' => e = .returned (.tuple #[.agg #[.int .u64 N, .int .u64 (B ||| dig N n : Nat)], .int .i64 0]) ∧ Below w.heap.size w w' := by
  have hn' : n < 18446744073709551615 := by omega
  have hor := u64_or_nat B (dig N n) hB (dig_lt N n)
  generalize hY : B ||| dig N n = Y at hor ⊢
  clear hY
  go_enter Try.func9, Try.ntmps9
  go_wp2_with fail
  refine (can_any _ _ _ _ (by omega) hN hB).mono ?_
  rintro e w' ⟨rfl, hb⟩; obtain ⟨hc, hf⟩ := bcell hb; have hz := hb.size; simp at hz; have hb0 := below_of2 hb
  have hza : w.heap.size < w'.heap.size := (by omega); have hzb : w.heap.size + 1 < w'.heap.size := by omega
  have q0 : w'.cell? ⟨w.heap.size, 0, none⟩ = some (.int .u64 N) := by rw [hc _ _ (by simp <;> omega)]; simp [go_sem]
  have g0 : w'.frozen? ⟨w.heap.size, 0, none⟩ = false := by rw [hf _ _ (by simp <;> omega)]; simp [go_sem]
  have q1 : w'.cell? ⟨w.heap.size, 1, none⟩ = some (.int .u64 B) := by rw [hc _ _ (by simp <;> omega)]; simp [go_sem]
  have g1 : w'.frozen? ⟨w.heap.size, 1, none⟩ = false := by rw [hf _ _ (by simp <;> omega)]; simp [go_sem]
  have q2 : w'.cell? ⟨w.heap.size + 1, 0, none⟩ = some (.int .u64 0) := by rw [hc _ _ (by simp <;> omega)]; simp [go_sem]
  have g2 : w'.frozen? ⟨w.heap.size + 1, 0, none⟩ = false := by rw [hf _ _ (by simp <;> omega)]; simp [go_sem]
  have q3 : w'.cell? ⟨w.heap.size + 1, 1, none⟩ = some (.int .u64 0) := by rw [hc _ _ (by simp <;> omega)]; simp [go_sem]
  have g3 : w'.frozen? ⟨w.heap.size + 1, 1, none⟩ = false := by rw [hf _ _ (by simp <;> omega)]; simp [go_sem]
  clear hc hf
  go_wp2_with fail
  go_region_law (first | (go_simp; go_at_call 17; refine (digit_any _ _ _ _ (by omega)).mono ?_; rintro e w2 ⟨rfl, hb2⟩; obtain ⟨hc2, hf2⟩ := bcell hb2; have hb4 := (hb0.drew).trans (hb2.mono (Nat.le_of_lt hza)); have hz2 : w'.heap.size ≤ w2.heap.size := hb2.size; have r0 : w2.cell? ⟨w.heap.size, 0, none⟩ = some (.int .u64 N) := (hc2 _ _ hza).trans q0; have s0 : w2.frozen? ⟨w.heap.size, 0, none⟩ = false := (hf2 _ _ hza).trans g0; have r1 : w2.cell? ⟨w.heap.size, 1, none⟩ = some (.int .u64 B) := (hc2 _ _ hza).trans q1; have s1 : w2.frozen? ⟨w.heap.size, 1, none⟩ = false := (hf2 _ _ hza).trans g1; have r2 : w2.cell? ⟨w.heap.size + 1, 0, none⟩ = some (.int .u64 0) := (hc2 _ _ hzb).trans q2; have s2 : w2.frozen? ⟨w.heap.size + 1, 0, none⟩ = false := (hf2 _ _ hzb).trans g2; have r3 : w2.cell? ⟨w.heap.size + 1, 1, none⟩ = some (.int .u64 0) := (hc2 _ _ hzb).trans q3; have s3 : w2.frozen? ⟨w.heap.size + 1, 1, none⟩ = false := (hf2 _ _ hzb).trans g3; clear hc2 hf2))
  all_goals go_wp2
  all_goals exact bodyPost_ret (v := .tuple #[.agg #[.int .u64 N, .int .u64 Y], .int .i64 0]) (by simp [results, Try.results9, go_sem, r2, r3]) rfl ⟨rfl, by go_grown⟩

theorem take_any (N B n : Nat) (w : World) (hn : n < 18446744073709551616) (hN : N < 18446744073709551616) (hB : B < 18446744073709551616) :
    Calls Try.prog 9 #[.agg #[.int .u64 N, .int .u64 B], .int .u64 n] w fun e w' => e = .returned (.tuple #[.agg #[.int .u64 (takeNext N B n), .int .u64 (takeBits N B n)], .int .i64 (takeErr N B n)]) ∧ Below w.heap.size w w' := by
  by_cases h1 : n = 18446744073709551615
  · subst h1
    obtain ⟨e1, e2, e3⟩ := take_is_max (N := N) (B := B)
    rw [e1, e2, e3]; exact take_max N B w
  · cases hcan : canB N B n
    · obtain ⟨e1, e2, e3⟩ := take_is_old h1 hcan
      rw [e1, e2, e3]; exact take_old N B n w (by omega) hN hB hcan
    · by_cases h2 : n < N
      · obtain ⟨e1, e2, e3⟩ := take_is_in h1 hcan h2
        rw [e1, e2, e3]; exact take_in N B n w h2 hN hB hcan
      · obtain ⟨e1, e2, e3⟩ := take_is_new h1 hcan (by omega)
        rw [e1, e2, e3]; exact take_new N B n w (by omega) hN hB (by omega)
end Go.Proofs.Ytpjckfpoeiljbaa
