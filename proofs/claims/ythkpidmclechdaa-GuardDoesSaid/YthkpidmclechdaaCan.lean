/- The walk of GuardCan. -/
import Derived.Test.YthkpidmclechdaaRises
namespace Go.Proofs.Ythkpidmclechdaa
open Go.RowKit
set_option maxHeartbeats 4000000
set_option maxRecDepth 100000
set_option linter.unusedVariables false

/-- what a walk reads of a slice of ints. -/
structure IRow (w : World) (a : Option Addr) (len : Nat) (g : Nat → Int) : Prop where
  bound : len ≤ 9223372036854775807
  cell : ∀ i, i < len → ∃ blk off, a = some ⟨blk, off, none⟩ ∧ w.cell? ⟨blk, off + i, none⟩ = some (.int .i64 (g i))
theorem IsRow.i64 {w : World} {a : Option Addr} {len cap : Nat} {zs : List Int} (h : IsRow .i64 w a len cap zs) : IRow w a len (fun i => zs.getD i 0) := by
  obtain ⟨h1, h2⟩ := h.at'
  refine ⟨by unfold maxLen at h1; exact h1, fun i hi => ?_⟩
  obtain ⟨b, off, ha, hc, hw⟩ := h2 i hi
  exact ⟨b, off, ha, hc⟩

/-- what is so of the world in a round: two guards that noted the same. -/
structure TS (w wr : World) (A B : Nat) (f h : Nat → Option Nat) : Prop where
  a : GuardAt wr A 4 f
  b : GuardAt wr B 4 h
  B' : Below w.heap.size w wr
  ne : A ≠ B
  leA : w.heap.size ≤ A
  leB : w.heap.size ≤ B
theorem TS.keep {w wr w' : World} {A B : Nat} {f h : Nat → Option Nat} (r : TS w wr A B f h) (hb : Below wr.heap.size wr w') : TS w w' A B f h :=
  ⟨r.a.keep hb, r.b.keep hb, below_from r.B' r.B'.size hb, r.ne, r.leA, r.leB⟩
theorem TS.takeA {w wr w' : World} {A B : Nat} {f h f' : Nat → Option Nat} (r : TS w wr A B f h) (g : GuardAt w' A 4 f') (hg : wr.grownBy w' (some A)) : TS w w' A B f' h :=
  ⟨g, r.b.other r.a (Ne.symm r.ne) hg, r.B'.grown hg r.B'.size (fun k e => by cases e; exact r.leA), r.ne, r.leA, r.leB⟩
theorem TS.takeB {w wr w' : World} {A B : Nat} {f h h' : Nat → Option Nat} (r : TS w wr A B f h) (g : GuardAt w' B 4 h') (hg : wr.grownBy w' (some B)) : TS w w' A B f h' :=
  ⟨r.a.other r.b r.ne hg, g, r.B'.grown hg r.B'.size (fun k e => by cases e; exact r.leB), r.ne, r.leA, r.leB⟩

theorem grown_cell {w w' : World} {G b o : Nat} {v : Value} (hg : w.grownBy w' (some G)) (h : b ≠ G) (c : w.cell? ⟨b, o, none⟩ = some v) : w'.cell? ⟨b, o, none⟩ = some v :=
  (World.cell?_of_block (w := w) (a := ⟨b, o, none⟩) (hg.block b (lt_of c) (by intro e; exact h (Option.some.inj e)))).trans c

theorem can_core (a b : Option Addr) (la ca lb cb : Nat) (p : Nat → Int) (q : Nat → Nat) (w : World) (hr1 : IRow w a la p) (hr2 : URow .u64 18446744073709551616 w b lb q) :
    Calls Try.prog 5 #[.slice a la ca, .slice b lb cb] w fun e w' => e = .returned (.bool true) ∧ Below w.heap.size w w' := by
  obtain ⟨hl1, hc1⟩ := hr1
  obtain ⟨hl2, hc2, ht2⟩ := hr2
  have H1 := Lib.hid hc1
  have H2 := Lib.hid hc2
  have T2 := Lib.hid ht2
  clear hc1 hc2 ht2
  go_enter Try.func5, Try.ntmps5
  go_wp2_with fail
  refine (new_ok 4 _ (by omega)).mono ?_
  rintro e w1 ⟨rfl, g1, hb1, hlt1⟩
  have HG := Lib.hid g1
  clear g1
  go_wp2_with fail
  refine (new_ok 4 _ (by omega)).mono ?_
  rintro e w2 ⟨rfl, g2, hb2, hlt2⟩
  have hT : TS w w2 w.heap.size w1.heap.size (fun _ => none) (fun _ => none) := ⟨HG.out.keep hb2, g2, below_from hb1 hb1.size hb2, by omega, Nat.le_refl _, hb1.size⟩
  have HT := Lib.hid hT
  clear g2 hT
  go_wp2_with fail
  go_loopw [9] (fun i wr => ∃ k f, k ≤ la ∧ k ≤ lb ∧ k ≤ 40 ∧ i = .int .i64 (k : Nat) ∧ TS w wr w.heap.size w1.heap.size f f) (fun i _ => 40 - (intOf i).toNat)
  case atStart => exact ⟨0, fun _ => none, Nat.zero_le _, Nat.zero_le _, Nat.zero_le _, rfl, HT.out⟩
  case round =>
    obtain ⟨k, f, hk1, hk2, hk3, rfl, hR⟩ := hrel
    by_cases hin : k < la ∧ k < lb ∧ k < 40
    · obtain ⟨hka, hkb, hk40⟩ := hin
      obtain ⟨blk, off, rfl, hc1⟩ := H1.out k hka
      obtain ⟨blk', off', rfl, hc2⟩ := H2.out k hkb
      have e1 : wr.cell? ⟨blk, off + k, none⟩ = some (.int .i64 (p k)) := keep hR.B' hc1
      have e2 := keep hR.B' hc2
      have n1 : blk < w.heap.size := lt_of hc1
      have n2 : blk' < w.heap.size := lt_of hc2
      generalize p k = V at e1
      generalize q k = S at e2
      have hp0 : (0 : Int) ≤ (k : Int) := by omega
      have hp1 : (k : Int) < (la : Int) := by omega
      have hp2 : (k : Int) < (lb : Int) := by omega
      have HR := Lib.hid hR
      clear hR hc1 hc2
      by_cases hV0 : V < 0
      · have hE := Lib.hid (canE_out (P := 4) (s := S) (f := f) (i := V) (.inl hV0))
        have hL := Lib.hid (lastN_out (P := 4) (f := f) (i := V) (.inl hV0))
        go_wp2_with fail
        refine (last_not HR.out.a hL.out).mono ?_
        rintro e r1w ⟨rfl, r1b⟩
        replace e1 := keep r1b e1
        replace e2 := keep r1b e2
        have r1 := Lib.hid (HR.out.keep r1b)
        clear r1b HR
        go_wp2_with fail
        refine wp_region_quiet (C := fun W => W.cell? ⟨blk, off + k, none⟩ = some (.int .i64 V) ∧ W.cell? ⟨blk', off' + k, none⟩ = some (.int .u64 (S : Nat)) ∧ TS w W w.heap.size w1.heap.size f f) (by kernel_rfl) (by kernel_rfl) ⟨e1, e2, r1.out.keep ((Below.refl _ _).drew)⟩ ?_
        simp only []
        have E1 := Lib.hid e1
        have E2 := Lib.hid e2
        clear e1 e2
        repeat (first
          | go_big_quiet_skip
          | (go_big_quiet_want; apply Exists.intro; refine ⟨fun wq hq => ?_, ?_⟩; focus (first
              | (obtain ⟨c0, c1, _⟩ := hq; go_simp; exact rfl)
              | (have hq' := hq; obtain ⟨c0, c1, _⟩ := hq'; go_simp; go_at_call 9; refine (can_is hq.2.2.a 5 hE.out).mono fun e w2 h => ⟨h.1, keep h.2 hq.1, keep h.2 hq.2.1, hq.2.2.keep h.2⟩))
             simp only [Act.put, List.setIfInBounds_toArray, List.set_cons_succ, List.set_cons_zero]
             go_big_quiet_on))
        refine wpQuiet_nil ?_
        intro r2w r2h
        obtain ⟨e1, e2, r2t⟩ := r2h
        have r2 := Lib.hid r2t
        clear r2t E1 E2 r1
        go_wp2_with fail
        refine wp_region_quiet (C := fun W => W.cell? ⟨blk, off + k, none⟩ = some (.int .i64 V) ∧ W.cell? ⟨blk', off' + k, none⟩ = some (.int .u64 (S : Nat)) ∧ TS w W w.heap.size w1.heap.size f f) (by kernel_rfl) (by kernel_rfl) ⟨e1, e2, r2.out.keep ((Below.refl _ _).drew)⟩ ?_
        simp only []
        have E1 := Lib.hid e1
        have E2 := Lib.hid e2
        clear e1 e2
        repeat (first
          | go_big_quiet_skip
          | (go_big_quiet_want; apply Exists.intro; refine ⟨fun wq hq => ?_, ?_⟩; focus (first
              | (obtain ⟨c0, c1, _⟩ := hq; go_simp; exact rfl)
              | (have hq' := hq; obtain ⟨c0, c1, _⟩ := hq'; go_simp; go_at_call 9; refine (can_is hq.2.2.a 5 hE.out).mono fun e w2 h => ⟨h.1, keep h.2 hq.1, keep h.2 hq.2.1, hq.2.2.keep h.2⟩))
             simp only [Act.put, List.setIfInBounds_toArray, List.set_cons_succ, List.set_cons_zero]
             go_big_quiet_on))
        refine wpQuiet_nil ?_
        intro r3w r3h
        obtain ⟨e1, e2, r3t⟩ := r3h
        have r3 := Lib.hid r3t
        clear r3t E1 E2 r2
        go_wp2_with fail
        refine (last_not r3.out.a hL.out).mono ?_
        rintro e r4w ⟨rfl, r4b⟩
        replace e1 := keep r4b e1
        replace e2 := keep r4b e2
        have r4 := Lib.hid (r3.out.keep r4b)
        clear r4b r3
        go_wp2_with fail
        refine wp_region_quiet (C := fun W => W.cell? ⟨blk, off + k, none⟩ = some (.int .i64 V) ∧ W.cell? ⟨blk', off' + k, none⟩ = some (.int .u64 (S : Nat)) ∧ TS w W w.heap.size w1.heap.size f f) (by kernel_rfl) (by kernel_rfl) ⟨e1, e2, r4.out.keep ((Below.refl _ _).drew)⟩ ?_
        simp only []
        have E1 := Lib.hid e1
        have E2 := Lib.hid e2
        clear e1 e2
        repeat (first
          | go_big_quiet_skip
          | (go_big_quiet_want; apply Exists.intro; refine ⟨fun wq hq => ?_, ?_⟩; focus (first
              | (obtain ⟨c0, c1, _⟩ := hq; go_simp; exact rfl)
              | (have hq' := hq; obtain ⟨c0, c1, _⟩ := hq'; go_simp; go_at_call 11; refine (take_not hq.2.2.a 5 hE.out (by decide)).mono fun e w2 h => ⟨h.1, keep h.2 hq.1, keep h.2 hq.2.1, hq.2.2.keep h.2⟩))
             simp only [Act.put, List.setIfInBounds_toArray, List.set_cons_succ, List.set_cons_zero]
             go_big_quiet_on))
        refine wpQuiet_nil ?_
        intro r5w r5h
        obtain ⟨e1, e2, r5t⟩ := r5h
        have r5 := Lib.hid r5t
        clear r5t E1 E2 r4
        go_wp2_with fail
        refine wp_region_quiet (C := fun W => W.cell? ⟨blk, off + k, none⟩ = some (.int .i64 V) ∧ W.cell? ⟨blk', off' + k, none⟩ = some (.int .u64 (S : Nat)) ∧ TS w W w.heap.size w1.heap.size f f) (by kernel_rfl) (by kernel_rfl) ⟨e1, e2, r5.out.keep ((Below.refl _ _).drew)⟩ ?_
        simp only []
        have E1 := Lib.hid e1
        have E2 := Lib.hid e2
        clear e1 e2
        repeat (first
          | go_big_quiet_skip
          | (go_big_quiet_want; apply Exists.intro; refine ⟨fun wq hq => ?_, ?_⟩; focus (first
              | (obtain ⟨c0, c1, _⟩ := hq; go_simp; exact rfl)
              | (have hq' := hq; obtain ⟨c0, c1, _⟩ := hq'; go_simp; go_at_call 11; refine (take_not hq.2.2.b 5 hE.out (by decide)).mono fun e w2 h => ⟨h.1, keep h.2 hq.1, keep h.2 hq.2.1, hq.2.2.keep h.2⟩))
             simp only [Act.put, List.setIfInBounds_toArray, List.set_cons_succ, List.set_cons_zero]
             go_big_quiet_on))
        refine wpQuiet_nil ?_
        intro r6w r6h
        obtain ⟨e1, e2, r6t⟩ := r6h
        have r6 := Lib.hid r6t
        clear r6t E1 E2 r5
        go_wp2_with fail
        refine wp_region_quiet (C := fun W => W.cell? ⟨blk, off + k, none⟩ = some (.int .i64 V) ∧ W.cell? ⟨blk', off' + k, none⟩ = some (.int .u64 (S : Nat)) ∧ TS w W w.heap.size w1.heap.size f f) (by kernel_rfl) (by kernel_rfl) ⟨e1, e2, r6.out.keep ((Below.refl _ _).drew)⟩ ?_
        simp only []
        have E1 := Lib.hid e1
        have E2 := Lib.hid e2
        clear e1 e2
        repeat (first
          | go_big_quiet_skip
          | (go_big_quiet_want; apply Exists.intro; refine ⟨fun wq hq => ?_, ?_⟩; focus (first
              | (obtain ⟨c0, c1, _⟩ := hq; go_simp; exact rfl))
             simp only [Act.put, List.setIfInBounds_toArray, List.set_cons_succ, List.set_cons_zero]
             go_big_quiet_on))
        refine wpQuiet_nil ?_
        intro r7w r7h
        obtain ⟨e1, e2, r7t⟩ := r7h
        have r7 := Lib.hid r7t
        clear r7t E1 E2 r6
        go_wp2
        go_roundw
        case rel => exact ⟨k + 1, f, by omega, by omega, by omega, by go_num, r7.out⟩
        case measure => simp [intOf]; omega
      · by_cases hV4 : 4 ≤ V
        · have hE := Lib.hid (canE_out (P := 4) (s := S) (f := f) (i := V) (.inr (by omega)))
          have hL := Lib.hid (lastN_out (P := 4) (f := f) (i := V) (.inr (by omega)))
          have hb0 : decide (V < 0) = false := decide_eq_false hV0
          have hb4 : decide (4 ≤ V) = true := decide_eq_true hV4
          go_wp2_with fail
          refine (last_not HR.out.a hL.out).mono ?_
          rintro e r1w ⟨rfl, r1b⟩
          replace e1 := keep r1b e1
          replace e2 := keep r1b e2
          have r1 := Lib.hid (HR.out.keep r1b)
          clear r1b HR
          go_wp2_with fail
          refine wp_region_quiet (C := fun W => W.cell? ⟨blk, off + k, none⟩ = some (.int .i64 V) ∧ W.cell? ⟨blk', off' + k, none⟩ = some (.int .u64 (S : Nat)) ∧ TS w W w.heap.size w1.heap.size f f) (by kernel_rfl) (by kernel_rfl) ⟨e1, e2, r1.out.keep ((Below.refl _ _).drew)⟩ ?_
          simp only []
          have E1 := Lib.hid e1
          have E2 := Lib.hid e2
          clear e1 e2
          repeat (first
            | go_big_quiet_skip
            | (go_big_quiet_want; apply Exists.intro; refine ⟨fun wq hq => ?_, ?_⟩; focus (first
                | (obtain ⟨c0, c1, _⟩ := hq; go_simp; exact rfl)
                | (have hq' := hq; obtain ⟨c0, c1, _⟩ := hq'; go_simp; go_at_call 9; refine (can_is hq.2.2.a 5 hE.out).mono fun e w2 h => ⟨h.1, keep h.2 hq.1, keep h.2 hq.2.1, hq.2.2.keep h.2⟩))
               simp only [Act.put, List.setIfInBounds_toArray, List.set_cons_succ, List.set_cons_zero]
               go_big_quiet_on))
          refine wpQuiet_nil ?_
          intro r2w r2h
          obtain ⟨e1, e2, r2t⟩ := r2h
          have r2 := Lib.hid r2t
          clear r2t E1 E2 r1
          go_wp2_with fail
          refine wp_region_quiet (C := fun W => W.cell? ⟨blk, off + k, none⟩ = some (.int .i64 V) ∧ W.cell? ⟨blk', off' + k, none⟩ = some (.int .u64 (S : Nat)) ∧ TS w W w.heap.size w1.heap.size f f) (by kernel_rfl) (by kernel_rfl) ⟨e1, e2, r2.out.keep ((Below.refl _ _).drew)⟩ ?_
          simp only []
          have E1 := Lib.hid e1
          have E2 := Lib.hid e2
          clear e1 e2
          repeat (first
            | go_big_quiet_skip
            | (go_big_quiet_want; apply Exists.intro; refine ⟨fun wq hq => ?_, ?_⟩; focus (first
                | (obtain ⟨c0, c1, _⟩ := hq; go_simp; exact rfl)
                | (have hq' := hq; obtain ⟨c0, c1, _⟩ := hq'; go_simp; go_at_call 9; refine (can_is hq.2.2.a 5 hE.out).mono fun e w2 h => ⟨h.1, keep h.2 hq.1, keep h.2 hq.2.1, hq.2.2.keep h.2⟩))
               simp only [Act.put, List.setIfInBounds_toArray, List.set_cons_succ, List.set_cons_zero]
               go_big_quiet_on))
          refine wpQuiet_nil ?_
          intro r3w r3h
          obtain ⟨e1, e2, r3t⟩ := r3h
          have r3 := Lib.hid r3t
          clear r3t E1 E2 r2
          go_wp2_with fail
          refine (last_not r3.out.a hL.out).mono ?_
          rintro e r4w ⟨rfl, r4b⟩
          replace e1 := keep r4b e1
          replace e2 := keep r4b e2
          have r4 := Lib.hid (r3.out.keep r4b)
          clear r4b r3
          go_wp2_with fail
          refine wp_region_quiet (C := fun W => W.cell? ⟨blk, off + k, none⟩ = some (.int .i64 V) ∧ W.cell? ⟨blk', off' + k, none⟩ = some (.int .u64 (S : Nat)) ∧ TS w W w.heap.size w1.heap.size f f) (by kernel_rfl) (by kernel_rfl) ⟨e1, e2, r4.out.keep ((Below.refl _ _).drew)⟩ ?_
          simp only []
          have E1 := Lib.hid e1
          have E2 := Lib.hid e2
          clear e1 e2
          repeat (first
            | go_big_quiet_skip
            | (go_big_quiet_want; apply Exists.intro; refine ⟨fun wq hq => ?_, ?_⟩; focus (first
                | (obtain ⟨c0, c1, _⟩ := hq; go_simp; exact rfl)
                | (have hq' := hq; obtain ⟨c0, c1, _⟩ := hq'; go_simp; go_at_call 11; refine (take_not hq.2.2.a 5 hE.out (by decide)).mono fun e w2 h => ⟨h.1, keep h.2 hq.1, keep h.2 hq.2.1, hq.2.2.keep h.2⟩))
               simp only [Act.put, List.setIfInBounds_toArray, List.set_cons_succ, List.set_cons_zero]
               go_big_quiet_on))
          refine wpQuiet_nil ?_
          intro r5w r5h
          obtain ⟨e1, e2, r5t⟩ := r5h
          have r5 := Lib.hid r5t
          clear r5t E1 E2 r4
          go_wp2_with fail
          refine wp_region_quiet (C := fun W => W.cell? ⟨blk, off + k, none⟩ = some (.int .i64 V) ∧ W.cell? ⟨blk', off' + k, none⟩ = some (.int .u64 (S : Nat)) ∧ TS w W w.heap.size w1.heap.size f f) (by kernel_rfl) (by kernel_rfl) ⟨e1, e2, r5.out.keep ((Below.refl _ _).drew)⟩ ?_
          simp only []
          have E1 := Lib.hid e1
          have E2 := Lib.hid e2
          clear e1 e2
          repeat (first
            | go_big_quiet_skip
            | (go_big_quiet_want; apply Exists.intro; refine ⟨fun wq hq => ?_, ?_⟩; focus (first
                | (obtain ⟨c0, c1, _⟩ := hq; go_simp; exact rfl)
                | (have hq' := hq; obtain ⟨c0, c1, _⟩ := hq'; go_simp; go_at_call 11; refine (take_not hq.2.2.b 5 hE.out (by decide)).mono fun e w2 h => ⟨h.1, keep h.2 hq.1, keep h.2 hq.2.1, hq.2.2.keep h.2⟩))
               simp only [Act.put, List.setIfInBounds_toArray, List.set_cons_succ, List.set_cons_zero]
               go_big_quiet_on))
          refine wpQuiet_nil ?_
          intro r6w r6h
          obtain ⟨e1, e2, r6t⟩ := r6h
          have r6 := Lib.hid r6t
          clear r6t E1 E2 r5
          go_wp2_with fail
          refine wp_region_quiet (C := fun W => W.cell? ⟨blk, off + k, none⟩ = some (.int .i64 V) ∧ W.cell? ⟨blk', off' + k, none⟩ = some (.int .u64 (S : Nat)) ∧ TS w W w.heap.size w1.heap.size f f) (by kernel_rfl) (by kernel_rfl) ⟨e1, e2, r6.out.keep ((Below.refl _ _).drew)⟩ ?_
          simp only []
          have E1 := Lib.hid e1
          have E2 := Lib.hid e2
          clear e1 e2
          repeat (first
            | go_big_quiet_skip
            | (go_big_quiet_want; apply Exists.intro; refine ⟨fun wq hq => ?_, ?_⟩; focus (first
                | (obtain ⟨c0, c1, _⟩ := hq; go_simp; exact rfl))
               simp only [Act.put, List.setIfInBounds_toArray, List.set_cons_succ, List.set_cons_zero]
               go_big_quiet_on))
          refine wpQuiet_nil ?_
          intro r7w r7h
          obtain ⟨e1, e2, r7t⟩ := r7h
          have r7 := Lib.hid r7t
          clear r7t E1 E2 r6
          go_wp2
          go_roundw
          case rel => exact ⟨k + 1, f, by omega, by omega, by omega, by go_num, r7.out⟩
          case measure => simp [intOf]; omega
        · have hin : ¬ (V < 0 ∨ ((4 : Nat) : Int) ≤ V) := by omega
          have hE2 := canE_upd (P := 4) (s := S) (t := S) (f := f) hin
          rw [if_pos (Nat.le_refl _)] at hE2
          have hE2 := Lib.hid hE2
          have hb0 : decide (V < 0) = false := decide_eq_false hV0
          have hb4 : decide (4 ≤ V) = false := decide_eq_false hV4
          cases hf : f V.toNat with
          | none =>
            have hE := Lib.hid (canE_first (P := 4) (s := S) hin hf)
            have hL := Lib.hid (show lastN 4 f V = none by unfold lastN; rw [if_neg hin, hf])
            clear hf hin
            go_wp2_with fail
            refine (last_not HR.out.a hL.out).mono ?_
            rintro e r1w ⟨rfl, r1b⟩
            replace e1 := keep r1b e1
            replace e2 := keep r1b e2
            have r1 := Lib.hid (HR.out.keep r1b)
            clear r1b HR
            go_wp2_with fail
            refine wp_region_quiet (C := fun W => W.cell? ⟨blk, off + k, none⟩ = some (.int .i64 V) ∧ W.cell? ⟨blk', off' + k, none⟩ = some (.int .u64 (S : Nat)) ∧ TS w W w.heap.size w1.heap.size f f) (by kernel_rfl) (by kernel_rfl) ⟨e1, e2, r1.out.keep ((Below.refl _ _).drew)⟩ ?_
            simp only []
            have E1 := Lib.hid e1
            have E2 := Lib.hid e2
            clear e1 e2
            repeat (first
              | go_big_quiet_skip
              | (go_big_quiet_want; apply Exists.intro; refine ⟨fun wq hq => ?_, ?_⟩; focus (first
                  | (obtain ⟨c0, c1, _⟩ := hq; go_simp; exact rfl)
                  | (have hq' := hq; obtain ⟨c0, c1, _⟩ := hq'; go_simp; go_at_call 9; refine (can_is hq.2.2.a 0 hE.out).mono fun e w2 h => ⟨h.1, keep h.2 hq.1, keep h.2 hq.2.1, hq.2.2.keep h.2⟩))
                 simp only [Act.put, List.setIfInBounds_toArray, List.set_cons_succ, List.set_cons_zero]
                 go_big_quiet_on))
            refine wpQuiet_nil ?_
            intro r2w r2h
            obtain ⟨e1, e2, r2t⟩ := r2h
            have r2 := Lib.hid r2t
            clear r2t E1 E2 r1
            go_wp2_with fail
            refine wp_region_quiet (C := fun W => W.cell? ⟨blk, off + k, none⟩ = some (.int .i64 V) ∧ W.cell? ⟨blk', off' + k, none⟩ = some (.int .u64 (S : Nat)) ∧ TS w W w.heap.size w1.heap.size f f) (by kernel_rfl) (by kernel_rfl) ⟨e1, e2, r2.out.keep ((Below.refl _ _).drew)⟩ ?_
            simp only []
            have E1 := Lib.hid e1
            have E2 := Lib.hid e2
            clear e1 e2
            repeat (first
              | go_big_quiet_skip
              | (go_big_quiet_want; apply Exists.intro; refine ⟨fun wq hq => ?_, ?_⟩; focus (first
                  | (obtain ⟨c0, c1, _⟩ := hq; go_simp; exact rfl)
                  | (have hq' := hq; obtain ⟨c0, c1, _⟩ := hq'; go_simp; go_at_call 9; refine (can_is hq.2.2.a 0 hE.out).mono fun e w2 h => ⟨h.1, keep h.2 hq.1, keep h.2 hq.2.1, hq.2.2.keep h.2⟩))
                 simp only [Act.put, List.setIfInBounds_toArray, List.set_cons_succ, List.set_cons_zero]
                 go_big_quiet_on))
            refine wpQuiet_nil ?_
            intro r3w r3h
            obtain ⟨e1, e2, r3t⟩ := r3h
            have r3 := Lib.hid r3t
            clear r3t E1 E2 r2
            go_wp2_with fail
            refine (last_not r3.out.a hL.out).mono ?_
            rintro e r4w ⟨rfl, r4b⟩
            replace e1 := keep r4b e1
            replace e2 := keep r4b e2
            have r4 := Lib.hid (r3.out.keep r4b)
            clear r4b r3
            go_wp2_with fail
            have hd := r4.out.keep ((Below.refl _ _).drew)
            have HD := Lib.hid hd
            clear hd
            go_region_held3 (fun W => W.cell? ⟨blk, off + k, none⟩ = some (.int .i64 V) ∧ W.cell? ⟨blk', off' + k, none⟩ = some (.int .u64 (S : Nat)))
              (first | (go_keep; done) | assumption | exact ⟨e1, e2⟩)
              (first | (go_at_call 11; (with_reducible refine (take_is HD.out.a hE.out).mono ?_); rintro e r5w ⟨rfl, r5g, r5gr⟩; have hs : (r5w.cell? ⟨blk, off + k, none⟩ = some (.int .i64 V) ∧ r5w.cell? ⟨blk', off' + k, none⟩ = some (.int .u64 (S : Nat))) := ⟨grown_cell r5gr (by omega) e1, grown_cell r5gr (by omega) e2⟩))
            have r5 := Lib.hid (HD.out.takeA r5g r5gr)
            clear e1 e2 r4 HD r5g r5gr
            obtain ⟨e1, e2⟩ := hs
            go_wp2_with fail
            have hd := r5.out.keep ((Below.refl _ _).drew)
            have HD := Lib.hid hd
            clear hd
            go_region_held3 (fun W => W.cell? ⟨blk, off + k, none⟩ = some (.int .i64 V) ∧ W.cell? ⟨blk', off' + k, none⟩ = some (.int .u64 (S : Nat)))
              (first | (go_keep; done) | assumption | exact ⟨e1, e2⟩)
              (first | (go_at_call 11; (with_reducible refine (take_is HD.out.b hE.out).mono ?_); rintro e r6w ⟨rfl, r6g, r6gr⟩; have hs : (r6w.cell? ⟨blk, off + k, none⟩ = some (.int .i64 V) ∧ r6w.cell? ⟨blk', off' + k, none⟩ = some (.int .u64 (S : Nat))) := ⟨grown_cell r6gr (by omega) e1, grown_cell r6gr (by omega) e2⟩))
            have r6 := Lib.hid (HD.out.takeB r6g r6gr)
            clear e1 e2 r5 HD r6g r6gr
            obtain ⟨e1, e2⟩ := hs
            go_wp2_with fail
            refine wp_region_quiet (C := fun W => W.cell? ⟨blk, off + k, none⟩ = some (.int .i64 V) ∧ W.cell? ⟨blk', off' + k, none⟩ = some (.int .u64 (S : Nat)) ∧ TS w W w.heap.size w1.heap.size (upd f V.toNat S) (upd f V.toNat S)) (by kernel_rfl) (by kernel_rfl) ⟨e1, e2, r6.out.keep ((Below.refl _ _).drew)⟩ ?_
            simp only []
            have E1 := Lib.hid e1
            have E2 := Lib.hid e2
            clear e1 e2
            repeat (first
              | go_big_quiet_skip
              | (go_big_quiet_want; apply Exists.intro; refine ⟨fun wq hq => ?_, ?_⟩; focus (first
                  | (obtain ⟨c0, c1, _⟩ := hq; go_simp; exact rfl)
                  | (have hq' := hq; obtain ⟨c0, c1, _⟩ := hq'; go_simp; go_at_call 9; refine (can_is hq.2.2.a 12 hE2.out).mono fun e w2 h => ⟨h.1, keep h.2 hq.1, keep h.2 hq.2.1, hq.2.2.keep h.2⟩))
                 simp only [Act.put, List.setIfInBounds_toArray, List.set_cons_succ, List.set_cons_zero]
                 go_big_quiet_on))
            refine wpQuiet_nil ?_
            intro r7w r7h
            obtain ⟨e1, e2, r7t⟩ := r7h
            have r7 := Lib.hid r7t
            clear r7t E1 E2 r6
            go_wp2
            go_roundw
            case rel => exact ⟨k + 1, (upd f V.toNat S), by omega, by omega, by omega, by go_num, r7.out⟩
            case measure => simp [intOf]; omega
          | some n =>
            have hL := Lib.hid (show lastN 4 f V = some n by unfold lastN; rw [if_neg hin, hf])
            by_cases hSn : S ≤ n
            · have hE := Lib.hid (show canE 4 f V S = 12 by unfold canE; rw [if_neg hin, hf]; simp [hSn])
              clear hf hin
              go_wp2_with fail
              refine (last_is HR.out.a n hL.out).mono ?_
              rintro e r1w ⟨rfl, r1b⟩
              replace e1 := keep r1b e1
              replace e2 := keep r1b e2
              have r1 := Lib.hid (HR.out.keep r1b)
              clear r1b HR
              go_wp2_with fail
              refine wp_region_quiet (C := fun W => W.cell? ⟨blk, off + k, none⟩ = some (.int .i64 V) ∧ W.cell? ⟨blk', off' + k, none⟩ = some (.int .u64 (S : Nat)) ∧ TS w W w.heap.size w1.heap.size f f) (by kernel_rfl) (by kernel_rfl) ⟨e1, e2, r1.out.keep ((Below.refl _ _).drew)⟩ ?_
              simp only []
              have E1 := Lib.hid e1
              have E2 := Lib.hid e2
              clear e1 e2
              repeat (first
                | go_big_quiet_skip
                | (go_big_quiet_want; apply Exists.intro; refine ⟨fun wq hq => ?_, ?_⟩; focus (first
                    | (obtain ⟨c0, c1, _⟩ := hq; go_simp; exact rfl)
                    | (have hq' := hq; obtain ⟨c0, c1, _⟩ := hq'; go_simp; go_at_call 9; refine (can_is hq.2.2.a 12 hE.out).mono fun e w2 h => ⟨h.1, keep h.2 hq.1, keep h.2 hq.2.1, hq.2.2.keep h.2⟩))
                   simp only [Act.put, List.setIfInBounds_toArray, List.set_cons_succ, List.set_cons_zero]
                   go_big_quiet_on))
              refine wpQuiet_nil ?_
              intro r2w r2h
              obtain ⟨e1, e2, r2t⟩ := r2h
              have r2 := Lib.hid r2t
              clear r2t E1 E2 r1
              go_wp2_with fail
              refine wp_region_quiet (C := fun W => W.cell? ⟨blk, off + k, none⟩ = some (.int .i64 V) ∧ W.cell? ⟨blk', off' + k, none⟩ = some (.int .u64 (S : Nat)) ∧ TS w W w.heap.size w1.heap.size f f) (by kernel_rfl) (by kernel_rfl) ⟨e1, e2, r2.out.keep ((Below.refl _ _).drew)⟩ ?_
              simp only []
              have E1 := Lib.hid e1
              have E2 := Lib.hid e2
              clear e1 e2
              repeat (first
                | go_big_quiet_skip
                | (go_big_quiet_want; apply Exists.intro; refine ⟨fun wq hq => ?_, ?_⟩; focus (first
                    | (obtain ⟨c0, c1, _⟩ := hq; go_simp; exact rfl)
                    | (have hq' := hq; obtain ⟨c0, c1, _⟩ := hq'; go_simp; go_at_call 9; refine (can_is hq.2.2.a 12 hE.out).mono fun e w2 h => ⟨h.1, keep h.2 hq.1, keep h.2 hq.2.1, hq.2.2.keep h.2⟩))
                   simp only [Act.put, List.setIfInBounds_toArray, List.set_cons_succ, List.set_cons_zero]
                   go_big_quiet_on))
              refine wpQuiet_nil ?_
              intro r3w r3h
              obtain ⟨e1, e2, r3t⟩ := r3h
              have r3 := Lib.hid r3t
              clear r3t E1 E2 r2
              go_wp2_with fail
              refine (last_is r3.out.a n hL.out).mono ?_
              rintro e r4w ⟨rfl, r4b⟩
              replace e1 := keep r4b e1
              replace e2 := keep r4b e2
              have r4 := Lib.hid (r3.out.keep r4b)
              clear r4b r3
              go_wp2_with fail
              refine wp_region_quiet (C := fun W => W.cell? ⟨blk, off + k, none⟩ = some (.int .i64 V) ∧ W.cell? ⟨blk', off' + k, none⟩ = some (.int .u64 (S : Nat)) ∧ TS w W w.heap.size w1.heap.size f f) (by kernel_rfl) (by kernel_rfl) ⟨e1, e2, r4.out.keep ((Below.refl _ _).drew)⟩ ?_
              simp only []
              have E1 := Lib.hid e1
              have E2 := Lib.hid e2
              clear e1 e2
              repeat (first
                | go_big_quiet_skip
                | (go_big_quiet_want; apply Exists.intro; refine ⟨fun wq hq => ?_, ?_⟩; focus (first
                    | (obtain ⟨c0, c1, _⟩ := hq; go_simp; exact rfl)
                    | (have hq' := hq; obtain ⟨c0, c1, _⟩ := hq'; go_simp; go_at_call 11; refine (take_not hq.2.2.a 12 hE.out (by decide)).mono fun e w2 h => ⟨h.1, keep h.2 hq.1, keep h.2 hq.2.1, hq.2.2.keep h.2⟩))
                   simp only [Act.put, List.setIfInBounds_toArray, List.set_cons_succ, List.set_cons_zero]
                   go_big_quiet_on))
              refine wpQuiet_nil ?_
              intro r5w r5h
              obtain ⟨e1, e2, r5t⟩ := r5h
              have r5 := Lib.hid r5t
              clear r5t E1 E2 r4
              go_wp2_with fail
              refine wp_region_quiet (C := fun W => W.cell? ⟨blk, off + k, none⟩ = some (.int .i64 V) ∧ W.cell? ⟨blk', off' + k, none⟩ = some (.int .u64 (S : Nat)) ∧ TS w W w.heap.size w1.heap.size f f) (by kernel_rfl) (by kernel_rfl) ⟨e1, e2, r5.out.keep ((Below.refl _ _).drew)⟩ ?_
              simp only []
              have E1 := Lib.hid e1
              have E2 := Lib.hid e2
              clear e1 e2
              repeat (first
                | go_big_quiet_skip
                | (go_big_quiet_want; apply Exists.intro; refine ⟨fun wq hq => ?_, ?_⟩; focus (first
                    | (obtain ⟨c0, c1, _⟩ := hq; go_simp; exact rfl)
                    | (have hq' := hq; obtain ⟨c0, c1, _⟩ := hq'; go_simp; go_at_call 11; refine (take_not hq.2.2.b 12 hE.out (by decide)).mono fun e w2 h => ⟨h.1, keep h.2 hq.1, keep h.2 hq.2.1, hq.2.2.keep h.2⟩))
                   simp only [Act.put, List.setIfInBounds_toArray, List.set_cons_succ, List.set_cons_zero]
                   go_big_quiet_on))
              refine wpQuiet_nil ?_
              intro r6w r6h
              obtain ⟨e1, e2, r6t⟩ := r6h
              have r6 := Lib.hid r6t
              clear r6t E1 E2 r5
              go_wp2_with fail
              refine wp_region_quiet (C := fun W => W.cell? ⟨blk, off + k, none⟩ = some (.int .i64 V) ∧ W.cell? ⟨blk', off' + k, none⟩ = some (.int .u64 (S : Nat)) ∧ TS w W w.heap.size w1.heap.size f f) (by kernel_rfl) (by kernel_rfl) ⟨e1, e2, r6.out.keep ((Below.refl _ _).drew)⟩ ?_
              simp only []
              have E1 := Lib.hid e1
              have E2 := Lib.hid e2
              clear e1 e2
              repeat (first
                | go_big_quiet_skip
                | (go_big_quiet_want; apply Exists.intro; refine ⟨fun wq hq => ?_, ?_⟩; focus (first
                    | (obtain ⟨c0, c1, _⟩ := hq; go_simp; exact rfl))
                   simp only [Act.put, List.setIfInBounds_toArray, List.set_cons_succ, List.set_cons_zero]
                   go_big_quiet_on))
              refine wpQuiet_nil ?_
              intro r7w r7h
              obtain ⟨e1, e2, r7t⟩ := r7h
              have r7 := Lib.hid r7t
              clear r7t E1 E2 r6
              go_wp2
              go_roundw
              case rel => exact ⟨k + 1, f, by omega, by omega, by omega, by go_num, r7.out⟩
              case measure => simp [intOf]; omega
            · have hE := Lib.hid (show canE 4 f V S = 0 by unfold canE; rw [if_neg hin, hf]; simp [hSn])
              clear hf hin
              go_wp2_with fail
              refine (last_is HR.out.a n hL.out).mono ?_
              rintro e r1w ⟨rfl, r1b⟩
              replace e1 := keep r1b e1
              replace e2 := keep r1b e2
              have r1 := Lib.hid (HR.out.keep r1b)
              clear r1b HR
              go_wp2_with fail
              refine wp_region_quiet (C := fun W => W.cell? ⟨blk, off + k, none⟩ = some (.int .i64 V) ∧ W.cell? ⟨blk', off' + k, none⟩ = some (.int .u64 (S : Nat)) ∧ TS w W w.heap.size w1.heap.size f f) (by kernel_rfl) (by kernel_rfl) ⟨e1, e2, r1.out.keep ((Below.refl _ _).drew)⟩ ?_
              simp only []
              have E1 := Lib.hid e1
              have E2 := Lib.hid e2
              clear e1 e2
              repeat (first
                | go_big_quiet_skip
                | (go_big_quiet_want; apply Exists.intro; refine ⟨fun wq hq => ?_, ?_⟩; focus (first
                    | (obtain ⟨c0, c1, _⟩ := hq; go_simp; exact rfl)
                    | (have hq' := hq; obtain ⟨c0, c1, _⟩ := hq'; go_simp; go_at_call 9; refine (can_is hq.2.2.a 0 hE.out).mono fun e w2 h => ⟨h.1, keep h.2 hq.1, keep h.2 hq.2.1, hq.2.2.keep h.2⟩))
                   simp only [Act.put, List.setIfInBounds_toArray, List.set_cons_succ, List.set_cons_zero]
                   go_big_quiet_on))
              refine wpQuiet_nil ?_
              intro r2w r2h
              obtain ⟨e1, e2, r2t⟩ := r2h
              have r2 := Lib.hid r2t
              clear r2t E1 E2 r1
              go_wp2_with fail
              refine wp_region_quiet (C := fun W => W.cell? ⟨blk, off + k, none⟩ = some (.int .i64 V) ∧ W.cell? ⟨blk', off' + k, none⟩ = some (.int .u64 (S : Nat)) ∧ TS w W w.heap.size w1.heap.size f f) (by kernel_rfl) (by kernel_rfl) ⟨e1, e2, r2.out.keep ((Below.refl _ _).drew)⟩ ?_
              simp only []
              have E1 := Lib.hid e1
              have E2 := Lib.hid e2
              clear e1 e2
              repeat (first
                | go_big_quiet_skip
                | (go_big_quiet_want; apply Exists.intro; refine ⟨fun wq hq => ?_, ?_⟩; focus (first
                    | (obtain ⟨c0, c1, _⟩ := hq; go_simp; exact rfl)
                    | (have hq' := hq; obtain ⟨c0, c1, _⟩ := hq'; go_simp; go_at_call 9; refine (can_is hq.2.2.a 0 hE.out).mono fun e w2 h => ⟨h.1, keep h.2 hq.1, keep h.2 hq.2.1, hq.2.2.keep h.2⟩))
                   simp only [Act.put, List.setIfInBounds_toArray, List.set_cons_succ, List.set_cons_zero]
                   go_big_quiet_on))
              refine wpQuiet_nil ?_
              intro r3w r3h
              obtain ⟨e1, e2, r3t⟩ := r3h
              have r3 := Lib.hid r3t
              clear r3t E1 E2 r2
              go_wp2_with fail
              refine (last_is r3.out.a n hL.out).mono ?_
              rintro e r4w ⟨rfl, r4b⟩
              replace e1 := keep r4b e1
              replace e2 := keep r4b e2
              have r4 := Lib.hid (r3.out.keep r4b)
              clear r4b r3
              go_wp2_with fail
              have hd := r4.out.keep ((Below.refl _ _).drew)
              have HD := Lib.hid hd
              clear hd
              go_region_held3 (fun W => W.cell? ⟨blk, off + k, none⟩ = some (.int .i64 V) ∧ W.cell? ⟨blk', off' + k, none⟩ = some (.int .u64 (S : Nat)))
                (first | (go_keep; done) | assumption | exact ⟨e1, e2⟩)
                (first | (go_at_call 11; (with_reducible refine (take_is HD.out.a hE.out).mono ?_); rintro e r5w ⟨rfl, r5g, r5gr⟩; have hs : (r5w.cell? ⟨blk, off + k, none⟩ = some (.int .i64 V) ∧ r5w.cell? ⟨blk', off' + k, none⟩ = some (.int .u64 (S : Nat))) := ⟨grown_cell r5gr (by omega) e1, grown_cell r5gr (by omega) e2⟩))
              have r5 := Lib.hid (HD.out.takeA r5g r5gr)
              clear e1 e2 r4 HD r5g r5gr
              obtain ⟨e1, e2⟩ := hs
              go_wp2_with fail
              have hd := r5.out.keep ((Below.refl _ _).drew)
              have HD := Lib.hid hd
              clear hd
              go_region_held3 (fun W => W.cell? ⟨blk, off + k, none⟩ = some (.int .i64 V) ∧ W.cell? ⟨blk', off' + k, none⟩ = some (.int .u64 (S : Nat)))
                (first | (go_keep; done) | assumption | exact ⟨e1, e2⟩)
                (first | (go_at_call 11; (with_reducible refine (take_is HD.out.b hE.out).mono ?_); rintro e r6w ⟨rfl, r6g, r6gr⟩; have hs : (r6w.cell? ⟨blk, off + k, none⟩ = some (.int .i64 V) ∧ r6w.cell? ⟨blk', off' + k, none⟩ = some (.int .u64 (S : Nat))) := ⟨grown_cell r6gr (by omega) e1, grown_cell r6gr (by omega) e2⟩))
              have r6 := Lib.hid (HD.out.takeB r6g r6gr)
              clear e1 e2 r5 HD r6g r6gr
              obtain ⟨e1, e2⟩ := hs
              go_wp2_with fail
              refine wp_region_quiet (C := fun W => W.cell? ⟨blk, off + k, none⟩ = some (.int .i64 V) ∧ W.cell? ⟨blk', off' + k, none⟩ = some (.int .u64 (S : Nat)) ∧ TS w W w.heap.size w1.heap.size (upd f V.toNat S) (upd f V.toNat S)) (by kernel_rfl) (by kernel_rfl) ⟨e1, e2, r6.out.keep ((Below.refl _ _).drew)⟩ ?_
              simp only []
              have E1 := Lib.hid e1
              have E2 := Lib.hid e2
              clear e1 e2
              repeat (first
                | go_big_quiet_skip
                | (go_big_quiet_want; apply Exists.intro; refine ⟨fun wq hq => ?_, ?_⟩; focus (first
                    | (obtain ⟨c0, c1, _⟩ := hq; go_simp; exact rfl)
                    | (have hq' := hq; obtain ⟨c0, c1, _⟩ := hq'; go_simp; go_at_call 9; refine (can_is hq.2.2.a 12 hE2.out).mono fun e w2 h => ⟨h.1, keep h.2 hq.1, keep h.2 hq.2.1, hq.2.2.keep h.2⟩))
                   simp only [Act.put, List.setIfInBounds_toArray, List.set_cons_succ, List.set_cons_zero]
                   go_big_quiet_on))
              refine wpQuiet_nil ?_
              intro r7w r7h
              obtain ⟨e1, e2, r7t⟩ := r7h
              have r7 := Lib.hid r7t
              clear r7t E1 E2 r6
              go_wp2
              go_roundw
              case rel => exact ⟨k + 1, (upd f V.toNat S), by omega, by omega, by omega, by go_num, r7.out⟩
              case measure => simp [intOf]; omega
    · have hway : ¬ k < lb ∨ (k < lb ∧ ¬ k < la) ∨ (k < lb ∧ k < la ∧ ¬ k < 40) := by omega
      have HR := Lib.hid hR
      clear hR hin
      rcases hway with h1 | ⟨h1, h2⟩ | ⟨h1, h2, h3⟩
      all_goals
        go_wp2_with fail
        refine (fixed_any _).mono ?_
        rintro e w9 ⟨rfl, hb9⟩
        have hB9 := below_from HR.out.B' HR.out.B'.size hb9
        clear hb9
        go_wp2
        go_ret
        exact ⟨rfl, hB9⟩
end Go.Proofs.Ythkpidmclechdaa
