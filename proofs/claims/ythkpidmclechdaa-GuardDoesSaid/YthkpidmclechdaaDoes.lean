/- The walk of GuardDoes. -/
import Derived.Test.YthkpidmclechdaaR
import Derived.Test.YthkpidmclechdaaCan
namespace Go.Proofs.Ythkpidmclechdaa
open Go.RowKit
set_option maxHeartbeats 4000000
set_option maxRecDepth 100000
set_option linter.unusedVariables false

theorem GuardAt.only {w w' : World} {G peers : Nat} {f : Nat → Option Nat} {S : Nat → Prop} (g : GuardAt w G peers f) (hg : Only S w w') (hG : ¬ S G) (hq : ∀ q n, w.cell? ⟨q, 0, none⟩ = some (.int .u64 n) → ¬ S q) : GuardAt w' G peers f := by
  refine ⟨hg.cell g.hp hG, g.le, fun i hi => ?_, fun i hi => ?_⟩
  · have hn := g.noted i hi
    cases hf : f i with
    | none => rw [hf] at hn; exact hg.cell hn hG
    | some n =>
      rw [hf] at hn
      obtain ⟨p, a, b⟩ := hn
      exact ⟨p, hg.cell a hG, hg.cell b (hq p n b)⟩
  · have hl : G < w.heap.size := lt_of g.hp
    exact (World.frozen?_of_block (w := w) (a := ⟨G, i, none⟩) (hg.block G hl hG)).trans (g.free i hi)

/-- what is so of the world in a round: a guard, and the reference's, that noted the same. -/
structure TD (w wr : World) (A B p : Nat) (f : Nat → Option Nat) (v : Value) (l : List (Int × Nat)) : Prop where
  a : GuardAt wr A p f
  b : RGuard wr B p v l
  B' : Below w.heap.size w wr
  ne : A ≠ B
  leA : w.heap.size ≤ A
  leB : w.heap.size ≤ B
theorem TD.keep {w wr w' : World} {A B p : Nat} {f : Nat → Option Nat} {v : Value} {l : List (Int × Nat)} (r : TD w wr A B p f v l) (hb : Below wr.heap.size wr w') : TD w w' A B p f v l :=
  ⟨r.a.keep hb, r.b.keep hb, below_from r.B' r.B'.size hb, r.ne, r.leA, r.leB⟩
theorem TD.takeA {w wr w' : World} {A B p : Nat} {f f' : Nat → Option Nat} {v : Value} {l : List (Int × Nat)} (r : TD w wr A B p f v l) (g : GuardAt w' A p f') (hg : wr.grownBy w' (some A)) : TD w w' A B p f' v l := by
  obtain ⟨a0, ha0⟩ := r.a.ptr 0 (by omega)
  exact ⟨g, r.b.kept hg (by intro e; exact r.ne (Option.some.inj e).symm) (.inr (r.b.row ha0 (by intro n e; cases e))), r.B'.grown hg r.B'.size (fun k e => by cases e; exact r.leA), r.ne, r.leA, r.leB⟩
theorem TD.far {w wr : World} {A B p : Nat} {f : Nat → Option Nat} {v : Value} {l : List (Int × Nat)} (r : TD w wr A B p f v l) : ∀ k, (k = B ∨ v.ownBlock = some k) → w.heap.size ≤ k := by
  intro k h
  rcases h with rfl | h
  · exact r.leB
  · have := (r.b.own.lt k h).1; have := r.leB; omega
theorem TD.takeB {w wr w' : World} {A B p : Nat} {f : Nat → Option Nat} {v v' : Value} {l l' : List (Int × Nat)} (r : TD w wr A B p f v l) (g : RGuard w' B p v' l') (hg : Only (fun k => k = B ∨ v.ownBlock = some k) wr w') : TD w w' A B p f v' l' := by
  obtain ⟨a0, ha0⟩ := r.a.ptr 0 (by omega)
  refine ⟨r.a.only hg ?_ ?_, g, hg.below r.B' r.B'.size r.far, r.ne, r.leA, r.leB⟩
  · intro h
    rcases h with h | h
    · exact r.ne h
    · exact r.b.row ha0 (by intro n e; cases e) h
  · intro q n hq h
    rcases h with rfl | h
    · have := r.b.hp; rw [hq] at this; cases this
    · exact r.b.row hq (by intro n e; cases e) h

/-- they noted the same. -/
def Same (p : Nat) (f : Nat → Option Nat) (l : List (Int × Nat)) : Prop := ∀ i : Int, lastN p f i = lastOf l i
theorem same_can {p : Nat} {f : Nat → Option Nat} {l : List (Int × Nat)} (h : Same p f l) (i : Int) (s : Nat) : rcanE p l i s = canE p f i s := by
  unfold rcanE canE
  by_cases e : i < 0 ∨ (p : Int) ≤ i
  · rw [if_pos e, if_pos e]
  · rw [if_neg e, if_neg e, ← h i]
    unfold lastN
    rw [if_neg e]
    cases f i.toNat <;> rfl
theorem same_zero (p : Nat) : Same p (fun _ => none) [] := fun i => by unfold lastN lastOf; simp
theorem same_take {p : Nat} {f : Nat → Option Nat} {l : List (Int × Nat)} (h : Same p f l) {i : Int} {s : Nat} (hE : canE p f i s = 0) : Same p (upd f i.toNat s) (l ++ [(i, s)]) := by
  obtain ⟨k, rfl, hk⟩ := canE_lt hE
  intro j
  rw [lastOf_app, ← h j]
  unfold lastN upd
  by_cases e : j < 0 ∨ (p : Int) ≤ j
  · rw [if_pos e, if_pos e, if_neg (by simp only []; omega)]
  · rw [if_neg e, if_neg e]
    by_cases e2 : (k : Int) = j
    · subst e2; simp
    · have : ¬ j.toNat = k := by omega
      simp [e2, this]

theorem rcan_is {G peers : Nat} {i : Int} {s : Nat} {v : Value} {l : List (Int × Nat)} {w : World} (r : RGuard w G peers v l) (hl : l.length ≤ 1000) (E : Int) (hE : rcanE peers l i s = E) :
    Calls Try.prog 10 #[.pointer (some ⟨G, 0, none⟩), .int .i64 i, .int .u64 s] w fun e w' => e = .returned (.int .i64 E) ∧ w = w' := by
  rw [← hE]; exact rcan_any G peers i s v l w r hl
theorem rlast_is {G : Nat} {peers i : Int} {v : Value} {l : List (Int × Nat)} {w : World} (r : RGuard w G peers v l) (hl : l.length ≤ 1000) (n : Nat) (h : lastOf l i = some n) :
    Calls Try.prog 14 #[.pointer (some ⟨G, 0, none⟩), .int .i64 i] w fun e w' => e = .returned (.tuple #[.int .u64 n, .bool true]) ∧ w = w' := by
  have := rlast_any G peers i v l w r hl
  rw [h] at this; exact this
theorem rlast_not {G : Nat} {peers i : Int} {v : Value} {l : List (Int × Nat)} {w : World} (r : RGuard w G peers v l) (hl : l.length ≤ 1000) (h : lastOf l i = none) :
    Calls Try.prog 14 #[.pointer (some ⟨G, 0, none⟩), .int .i64 i] w fun e w' => e = .returned (.tuple #[.int .u64 0, .bool false]) ∧ w = w' := by
  have := rlast_any G peers i v l w r hl
  rw [h] at this; exact this

theorem does_core (p : Int) (a b : Option Addr) (la ca lb cb : Nat) (g : Nat → Int) (q : Nat → Nat) (w : World) (hr1 : IRow w a la g) (hr2 : URow .u64 18446744073709551616 w b lb q) :
    Calls Try.prog 3 #[.int .i64 p, .slice a la ca, .slice b lb cb] w fun e w' => e = .returned (.bool true) ∧ Below w.heap.size w w' := by
  obtain ⟨hl1, hc1⟩ := hr1
  obtain ⟨hl2, hc2, ht2⟩ := hr2
  have H1 := Lib.hid hc1
  have H2 := Lib.hid hc2
  have T2 := Lib.hid ht2
  clear hc1 hc2 ht2
  by_cases hp : p < 0 ∨ 8 < p
  · go_enter Try.func3, Try.ntmps3
    go_wp2_with fail
    refine (new_bad p _ hp).mono ?_
    rintro e _ ⟨rfl, rfl⟩
    go_wp2_with fail
    refine (rnew_bad p _ hp).mono ?_
    rintro e _ ⟨rfl, rfl⟩
    clear hp
    go_wp2_with fail
    go_loop [11] (fun i => i = .int .i64 0) (fun i => 0)
    case atStart => rfl
    case round =>
      subst hrel
      go_wp2_with fail
      refine (fixed_any _).mono ?_
      rintro e w1 ⟨rfl, hb1⟩
      go_wp2
      go_ret
      exact ⟨rfl, hb1⟩
  · obtain ⟨P, rfl⟩ : ∃ P : Nat, p = P := ⟨p.toNat, by omega⟩
    have hP : P ≤ 8 := by omega
    clear hp
    go_enter Try.func3, Try.ntmps3
    go_wp2_with fail
    refine (new_ok P _ hP).mono ?_
    rintro e w1 ⟨rfl, g1, hb1, hlt1⟩
    have HG := Lib.hid g1
    clear g1
    go_wp2_with fail
    refine (rnew_ok P _ hP).mono ?_
    rintro e w2 ⟨rfl, g2, hb2, hlt2⟩
    have hT : TD w w2 w.heap.size w1.heap.size P (fun _ => none) (.slice none 0 0) [] := ⟨HG.out.keep hb2, g2, below_from hb1 hb1.size hb2, by omega, Nat.le_refl _, hb1.size⟩
    have HT := Lib.hid hT
    clear g2 hT
    go_wp2_with fail
    go_loopw [11] (fun i wr => ∃ k f v l, k ≤ la ∧ k ≤ lb ∧ k ≤ 40 ∧ l.length ≤ k ∧ i = .int .i64 (k : Nat) ∧ Same P f l ∧ TD w wr w.heap.size w1.heap.size P f v l) (fun i _ => 40 - (intOf i).toNat)
    case atStart => exact ⟨0, fun _ => none, _, [], Nat.zero_le _, Nat.zero_le _, Nat.zero_le _, Nat.zero_le _, rfl, same_zero P, HT.out⟩
    case round =>
      obtain ⟨k, f, v, l, hk1, hk2, hk3, hlk, rfl, hS, hR⟩ := hrel
      have hS := Lib.hid hS
      have hll : l.length ≤ 1000 := by omega
      by_cases hin : k < la ∧ k < lb ∧ k < 40
      · obtain ⟨hka, hkb, hk40⟩ := hin
        obtain ⟨blk, off, rfl, hc1⟩ := H1.out k hka
        obtain ⟨blk', off', rfl, hc2⟩ := H2.out k hkb
        have e1 : wr.cell? ⟨blk, off + k, none⟩ = some (.int .i64 (g k)) := keep hR.B' hc1
        have e2 := keep hR.B' hc2
        have n1 : blk < w.heap.size := lt_of hc1
        have n2 : blk' < w.heap.size := lt_of hc2
        generalize g k = V at e1
        generalize q k = S at e2
        have hp0 : (0 : Int) ≤ (k : Int) := by omega
        have hp1 : (k : Int) < (la : Int) := by omega
        have hp2 : (k : Int) < (lb : Int) := by omega
        have HR := Lib.hid hR
        clear hR hc1 hc2
        have hmod : ((k : Int).tmod 3 == 2) = true ∨ ((k : Int).tmod 3 == 2) = false := by
          by_cases h : (k : Int).tmod 3 = 2
          · exact .inl (beq_iff_eq.2 h)
          · exact .inr (beq_eq_false_iff_ne.2 h)
        by_cases hV : V < 0 ∨ (P : Int) ≤ V
        · have hE := Lib.hid (canE_out (P := P) (s := S) (f := f) (i := V) hV)
          have hRE := Lib.hid ((same_can hS.out V S).trans hE.out)
          have hL := Lib.hid (lastN_out (P := P) (f := f) (i := V) hV)
          have hRL := Lib.hid ((hS.out V).symm.trans hL.out)
          clear hV
          rcases hmod with hm3 | hm3
          · go_wp2_with fail
            refine wp_region_quiet (C := fun W => W.cell? ⟨blk, off + k, none⟩ = some (.int .i64 V) ∧ W.cell? ⟨blk', off' + k, none⟩ = some (.int .u64 (S : Nat)) ∧ TD w W w.heap.size w1.heap.size P f v l) (by kernel_rfl) (by kernel_rfl) ⟨e1, e2, HR.out.keep ((Below.refl _ _).drew)⟩ ?_
            simp only []
            have E1 := Lib.hid e1
            have E2 := Lib.hid e2
            clear e1 e2
            repeat (first
              | go_big_quiet_skip
              | (go_big_quiet_want; apply Exists.intro; refine ⟨fun wq hq => ?_, ?_⟩; focus (first
                  | (obtain ⟨c0, c1, _⟩ := hq; go_simp; exact rfl)
                  | (have hq' := hq; obtain ⟨c0, c1, _⟩ := hq'; go_simp; go_at_call 9; refine (can_is hq.2.2.a 5 hE.out).mono fun e w2 h => ⟨h.1, keep h.2 hq.1, keep h.2 hq.2.1, hq.2.2.keep h.2⟩)
                  | (have hq' := hq; obtain ⟨c0, c1, _⟩ := hq'; go_simp; go_at_call 10; refine (rcan_is hq.2.2.b hll 5 hRE.out).mono fun e w2 h => ⟨h.1, h.2 ▸ hq⟩))
                 simp only [Act.put, List.setIfInBounds_toArray, List.set_cons_succ, List.set_cons_zero]
                 go_big_quiet_on))
            refine wpQuiet_nil ?_
            intro r1w r1h
            obtain ⟨e1, e2, r1t⟩ := r1h
            have r1 := Lib.hid r1t
            clear r1t E1 E2 HR
            go_wp2_with fail
            refine wp_region_quiet (C := fun W => W.cell? ⟨blk, off + k, none⟩ = some (.int .i64 V) ∧ W.cell? ⟨blk', off' + k, none⟩ = some (.int .u64 (S : Nat)) ∧ TD w W w.heap.size w1.heap.size P f v l) (by kernel_rfl) (by kernel_rfl) ⟨e1, e2, r1.out.keep ((Below.refl _ _).drew)⟩ ?_
            simp only []
            have E1 := Lib.hid e1
            have E2 := Lib.hid e2
            clear e1 e2
            repeat (first
              | go_big_quiet_skip
              | (go_big_quiet_want; apply Exists.intro; refine ⟨fun wq hq => ?_, ?_⟩; focus (first
                  | (obtain ⟨c0, c1, _⟩ := hq; go_simp; exact rfl)
                  | (have hq' := hq; obtain ⟨c0, c1, _⟩ := hq'; go_simp; go_at_call 11; refine (take_not hq.2.2.a 5 hE.out (by decide)).mono fun e w2 h => ⟨h.1, keep h.2 hq.1, keep h.2 hq.2.1, hq.2.2.keep h.2⟩)
                  | (have hq' := hq; obtain ⟨c0, c1, _⟩ := hq'; go_simp; go_at_call 12; refine (rtake_no _ _ _ _ _ _ _ hq.2.2.b hll 5 hRE.out (by decide)).mono fun e w2 h => ⟨h.1, h.2 ▸ hq⟩))
                 simp only [Act.put, List.setIfInBounds_toArray, List.set_cons_succ, List.set_cons_zero]
                 go_big_quiet_on))
            refine wpQuiet_nil ?_
            intro r2w r2h
            obtain ⟨e1, e2, r2t⟩ := r2h
            have r2 := Lib.hid r2t
            clear r2t E1 E2 r1
            go_wp2_with fail
            refine (last_not r2.out.a hL.out).mono ?_
            rintro e r3w ⟨rfl, r3b⟩
            replace e1 := keep r3b e1
            replace e2 := keep r3b e2
            have r3 := Lib.hid (r2.out.keep r3b)
            clear r3b r2
            go_wp2_with fail
            refine (rlast_not r3.out.b (by first | omega | (simp; omega)) hRL.out).mono ?_
            rintro e _ ⟨rfl, rfl⟩
            go_wp2_with fail
            go_roundw
            case rel => exact ⟨k + 1, f, v, l, by omega, by omega, by omega, by first | omega | (simp; omega), by go_num, hS.out, r3.out⟩
            case measure => (simp [intOf] <;> omega)
          · go_wp2_with fail
            refine wp_region_quiet (C := fun W => W.cell? ⟨blk, off + k, none⟩ = some (.int .i64 V) ∧ W.cell? ⟨blk', off' + k, none⟩ = some (.int .u64 (S : Nat)) ∧ TD w W w.heap.size w1.heap.size P f v l) (by kernel_rfl) (by kernel_rfl) ⟨e1, e2, HR.out.keep ((Below.refl _ _).drew)⟩ ?_
            simp only []
            have E1 := Lib.hid e1
            have E2 := Lib.hid e2
            clear e1 e2
            repeat (first
              | go_big_quiet_skip
              | (go_big_quiet_want; apply Exists.intro; refine ⟨fun wq hq => ?_, ?_⟩; focus (first
                  | (obtain ⟨c0, c1, _⟩ := hq; go_simp; exact rfl)
                  | (have hq' := hq; obtain ⟨c0, c1, _⟩ := hq'; go_simp; go_at_call 9; refine (can_is hq.2.2.a 5 hE.out).mono fun e w2 h => ⟨h.1, keep h.2 hq.1, keep h.2 hq.2.1, hq.2.2.keep h.2⟩)
                  | (have hq' := hq; obtain ⟨c0, c1, _⟩ := hq'; go_simp; go_at_call 10; refine (rcan_is hq.2.2.b hll 5 hRE.out).mono fun e w2 h => ⟨h.1, h.2 ▸ hq⟩))
                 simp only [Act.put, List.setIfInBounds_toArray, List.set_cons_succ, List.set_cons_zero]
                 go_big_quiet_on))
            refine wpQuiet_nil ?_
            intro r1w r1h
            obtain ⟨e1, e2, r1t⟩ := r1h
            have r1 := Lib.hid r1t
            clear r1t E1 E2 HR
            go_wp2_with fail
            refine wp_region_quiet (C := fun W => W.cell? ⟨blk, off + k, none⟩ = some (.int .i64 V) ∧ W.cell? ⟨blk', off' + k, none⟩ = some (.int .u64 (S : Nat)) ∧ TD w W w.heap.size w1.heap.size P f v l) (by kernel_rfl) (by kernel_rfl) ⟨e1, e2, r1.out.keep ((Below.refl _ _).drew)⟩ ?_
            simp only []
            have E1 := Lib.hid e1
            have E2 := Lib.hid e2
            clear e1 e2
            repeat (first
              | go_big_quiet_skip
              | (go_big_quiet_want; apply Exists.intro; refine ⟨fun wq hq => ?_, ?_⟩; focus (first
                  | (obtain ⟨c0, c1, _⟩ := hq; go_simp; exact rfl)
                  | (have hq' := hq; obtain ⟨c0, c1, _⟩ := hq'; go_simp; go_at_call 11; refine (take_not hq.2.2.a 5 hE.out (by decide)).mono fun e w2 h => ⟨h.1, keep h.2 hq.1, keep h.2 hq.2.1, hq.2.2.keep h.2⟩)
                  | (have hq' := hq; obtain ⟨c0, c1, _⟩ := hq'; go_simp; go_at_call 12; refine (rtake_no _ _ _ _ _ _ _ hq.2.2.b hll 5 hRE.out (by decide)).mono fun e w2 h => ⟨h.1, h.2 ▸ hq⟩))
                 simp only [Act.put, List.setIfInBounds_toArray, List.set_cons_succ, List.set_cons_zero]
                 go_big_quiet_on))
            refine wpQuiet_nil ?_
            intro r2w r2h
            obtain ⟨e1, e2, r2t⟩ := r2h
            have r2 := Lib.hid r2t
            clear r2t E1 E2 r1
            go_wp2_with fail
            refine (last_not r2.out.a hL.out).mono ?_
            rintro e r3w ⟨rfl, r3b⟩
            replace e1 := keep r3b e1
            replace e2 := keep r3b e2
            have r3 := Lib.hid (r2.out.keep r3b)
            clear r3b r2
            go_wp2_with fail
            refine (rlast_not r3.out.b (by first | omega | (simp; omega)) hRL.out).mono ?_
            rintro e _ ⟨rfl, rfl⟩
            go_wp2_with fail
            go_roundw
            case rel => exact ⟨k + 1, f, v, l, by omega, by omega, by omega, by first | omega | (simp; omega), by go_num, hS.out, r3.out⟩
            case measure => (simp [intOf] <;> omega)
        · have hin := hV
          cases hf : f V.toNat with
          | none =>
            have hE := Lib.hid (canE_first (P := P) (s := S) hin hf)
            have hRE := Lib.hid ((same_can hS.out V S).trans hE.out)
            have hL := Lib.hid (show lastN P (upd f V.toNat S) V = some S by unfold lastN upd; rw [if_neg hin]; simp)
            have hRL := Lib.hid ((same_take hS.out hE.out V).symm.trans hL.out)
            clear hf hin hV
            rcases hmod with hm3 | hm3
            · go_wp2_with fail
              refine wp_region_quiet (C := fun W => W.cell? ⟨blk, off + k, none⟩ = some (.int .i64 V) ∧ W.cell? ⟨blk', off' + k, none⟩ = some (.int .u64 (S : Nat)) ∧ TD w W w.heap.size w1.heap.size P f v l) (by kernel_rfl) (by kernel_rfl) ⟨e1, e2, HR.out.keep ((Below.refl _ _).drew)⟩ ?_
              simp only []
              have E1 := Lib.hid e1
              have E2 := Lib.hid e2
              clear e1 e2
              repeat (first
                | go_big_quiet_skip
                | (go_big_quiet_want; apply Exists.intro; refine ⟨fun wq hq => ?_, ?_⟩; focus (first
                    | (obtain ⟨c0, c1, _⟩ := hq; go_simp; exact rfl)
                    | (have hq' := hq; obtain ⟨c0, c1, _⟩ := hq'; go_simp; go_at_call 9; refine (can_is hq.2.2.a 0 hE.out).mono fun e w2 h => ⟨h.1, keep h.2 hq.1, keep h.2 hq.2.1, hq.2.2.keep h.2⟩)
                    | (have hq' := hq; obtain ⟨c0, c1, _⟩ := hq'; go_simp; go_at_call 10; refine (rcan_is hq.2.2.b hll 0 hRE.out).mono fun e w2 h => ⟨h.1, h.2 ▸ hq⟩))
                   simp only [Act.put, List.setIfInBounds_toArray, List.set_cons_succ, List.set_cons_zero]
                   go_big_quiet_on))
              refine wpQuiet_nil ?_
              intro r1w r1h
              obtain ⟨e1, e2, r1t⟩ := r1h
              have r1 := Lib.hid r1t
              clear r1t E1 E2 HR
              go_wp2_with fail
              have hd := r1.out.keep ((Below.refl _ _).drew)
              have HD := Lib.hid hd
              clear hd
              go_region_held3 (fun W => W.cell? ⟨blk, off + k, none⟩ = some (.int .i64 V) ∧ W.cell? ⟨blk', off' + k, none⟩ = some (.int .u64 (S : Nat)))
                (first | (go_keep; done) | assumption | exact ⟨e1, e2⟩)
                (first | (go_at_call 11; (with_reducible refine (take_is HD.out.a hE.out).mono ?_); rintro e u1w ⟨rfl, u1g, u1gr⟩; have hs : (u1w.cell? ⟨blk, off + k, none⟩ = some (.int .i64 V) ∧ u1w.cell? ⟨blk', off' + k, none⟩ = some (.int .u64 (S : Nat))) := ⟨grown_cell u1gr (by omega) e1, grown_cell u1gr (by omega) e2⟩; have HU := Lib.hid (HD.out.takeA u1g u1gr); clear u1g u1gr) | (go_at_call 12; (with_reducible refine (rtake_yes _ _ _ _ _ _ _ HU.out.b hll hRE.out).mono ?_); rintro e u2w ⟨rfl, v', u2g, u2o⟩; have hs2 : (u2w.cell? ⟨blk, off + k, none⟩ = some (.int .i64 V) ∧ u2w.cell? ⟨blk', off' + k, none⟩ = some (.int .u64 (S : Nat))) := ⟨u2o.cell hs.1 (fun h => by have := HU.out.far _ h; omega), u2o.cell hs.2 (fun h => by have := HU.out.far _ h; omega)⟩; have r2 := Lib.hid (HU.out.takeB u2g u2o); clear u2g u2o hs HU HD e1 e2))
              obtain ⟨e1, e2⟩ := hs2
              clear r1
              go_wp2_with fail
              refine (last_is r2.out.a S hL.out).mono ?_
              rintro e r3w ⟨rfl, r3b⟩
              replace e1 := keep r3b e1
              replace e2 := keep r3b e2
              have r3 := Lib.hid (r2.out.keep r3b)
              clear r3b r2
              go_wp2_with fail
              refine (rlast_is r3.out.b (by first | omega | (simp; omega)) S hRL.out).mono ?_
              rintro e _ ⟨rfl, rfl⟩
              go_wp2_with fail
              go_roundw
              case rel => exact ⟨k + 1, (upd f V.toNat S), v', (l ++ [(V, S)]), by omega, by omega, by omega, by first | omega | (simp; omega), by go_num, (same_take hS.out hE.out), r3.out⟩
              case measure => (simp [intOf] <;> omega)
            · go_wp2_with fail
              refine wp_region_quiet (C := fun W => W.cell? ⟨blk, off + k, none⟩ = some (.int .i64 V) ∧ W.cell? ⟨blk', off' + k, none⟩ = some (.int .u64 (S : Nat)) ∧ TD w W w.heap.size w1.heap.size P f v l) (by kernel_rfl) (by kernel_rfl) ⟨e1, e2, HR.out.keep ((Below.refl _ _).drew)⟩ ?_
              simp only []
              have E1 := Lib.hid e1
              have E2 := Lib.hid e2
              clear e1 e2
              repeat (first
                | go_big_quiet_skip
                | (go_big_quiet_want; apply Exists.intro; refine ⟨fun wq hq => ?_, ?_⟩; focus (first
                    | (obtain ⟨c0, c1, _⟩ := hq; go_simp; exact rfl)
                    | (have hq' := hq; obtain ⟨c0, c1, _⟩ := hq'; go_simp; go_at_call 9; refine (can_is hq.2.2.a 0 hE.out).mono fun e w2 h => ⟨h.1, keep h.2 hq.1, keep h.2 hq.2.1, hq.2.2.keep h.2⟩)
                    | (have hq' := hq; obtain ⟨c0, c1, _⟩ := hq'; go_simp; go_at_call 10; refine (rcan_is hq.2.2.b hll 0 hRE.out).mono fun e w2 h => ⟨h.1, h.2 ▸ hq⟩))
                   simp only [Act.put, List.setIfInBounds_toArray, List.set_cons_succ, List.set_cons_zero]
                   go_big_quiet_on))
              refine wpQuiet_nil ?_
              intro r1w r1h
              obtain ⟨e1, e2, r1t⟩ := r1h
              have r1 := Lib.hid r1t
              clear r1t E1 E2 HR
              go_wp2_with fail
              have hd := r1.out.keep ((Below.refl _ _).drew)
              have HD := Lib.hid hd
              clear hd
              go_region_held3 (fun W => W.cell? ⟨blk, off + k, none⟩ = some (.int .i64 V) ∧ W.cell? ⟨blk', off' + k, none⟩ = some (.int .u64 (S : Nat)))
                (first | (go_keep; done) | assumption | exact ⟨e1, e2⟩)
                (first | (go_at_call 11; (with_reducible refine (take_is HD.out.a hE.out).mono ?_); rintro e u1w ⟨rfl, u1g, u1gr⟩; have hs : (u1w.cell? ⟨blk, off + k, none⟩ = some (.int .i64 V) ∧ u1w.cell? ⟨blk', off' + k, none⟩ = some (.int .u64 (S : Nat))) := ⟨grown_cell u1gr (by omega) e1, grown_cell u1gr (by omega) e2⟩; have HU := Lib.hid (HD.out.takeA u1g u1gr); clear u1g u1gr) | (go_at_call 12; (with_reducible refine (rtake_yes _ _ _ _ _ _ _ HU.out.b hll hRE.out).mono ?_); rintro e u2w ⟨rfl, v', u2g, u2o⟩; have hs2 : (u2w.cell? ⟨blk, off + k, none⟩ = some (.int .i64 V) ∧ u2w.cell? ⟨blk', off' + k, none⟩ = some (.int .u64 (S : Nat))) := ⟨u2o.cell hs.1 (fun h => by have := HU.out.far _ h; omega), u2o.cell hs.2 (fun h => by have := HU.out.far _ h; omega)⟩; have r2 := Lib.hid (HU.out.takeB u2g u2o); clear u2g u2o hs HU HD e1 e2))
              obtain ⟨e1, e2⟩ := hs2
              clear r1
              go_wp2_with fail
              refine (last_is r2.out.a S hL.out).mono ?_
              rintro e r3w ⟨rfl, r3b⟩
              replace e1 := keep r3b e1
              replace e2 := keep r3b e2
              have r3 := Lib.hid (r2.out.keep r3b)
              clear r3b r2
              go_wp2_with fail
              refine (rlast_is r3.out.b (by first | omega | (simp; omega)) S hRL.out).mono ?_
              rintro e _ ⟨rfl, rfl⟩
              go_wp2_with fail
              go_roundw
              case rel => exact ⟨k + 1, (upd f V.toNat S), v', (l ++ [(V, S)]), by omega, by omega, by omega, by first | omega | (simp; omega), by go_num, (same_take hS.out hE.out), r3.out⟩
              case measure => (simp [intOf] <;> omega)
          | some n =>
            by_cases hSn : S ≤ n
            · have hE := Lib.hid (show canE P f V S = 12 by unfold canE; rw [if_neg hin, hf]; simp [hSn])
              have hRE := Lib.hid ((same_can hS.out V S).trans hE.out)
              have hL := Lib.hid (show lastN P f V = some n by unfold lastN; rw [if_neg hin, hf])
              have hRL := Lib.hid ((hS.out V).symm.trans hL.out)
              clear hf hin hV
              rcases hmod with hm3 | hm3
              · go_wp2_with fail
                refine wp_region_quiet (C := fun W => W.cell? ⟨blk, off + k, none⟩ = some (.int .i64 V) ∧ W.cell? ⟨blk', off' + k, none⟩ = some (.int .u64 (S : Nat)) ∧ TD w W w.heap.size w1.heap.size P f v l) (by kernel_rfl) (by kernel_rfl) ⟨e1, e2, HR.out.keep ((Below.refl _ _).drew)⟩ ?_
                simp only []
                have E1 := Lib.hid e1
                have E2 := Lib.hid e2
                clear e1 e2
                repeat (first
                  | go_big_quiet_skip
                  | (go_big_quiet_want; apply Exists.intro; refine ⟨fun wq hq => ?_, ?_⟩; focus (first
                      | (obtain ⟨c0, c1, _⟩ := hq; go_simp; exact rfl)
                      | (have hq' := hq; obtain ⟨c0, c1, _⟩ := hq'; go_simp; go_at_call 9; refine (can_is hq.2.2.a 12 hE.out).mono fun e w2 h => ⟨h.1, keep h.2 hq.1, keep h.2 hq.2.1, hq.2.2.keep h.2⟩)
                      | (have hq' := hq; obtain ⟨c0, c1, _⟩ := hq'; go_simp; go_at_call 10; refine (rcan_is hq.2.2.b hll 12 hRE.out).mono fun e w2 h => ⟨h.1, h.2 ▸ hq⟩))
                     simp only [Act.put, List.setIfInBounds_toArray, List.set_cons_succ, List.set_cons_zero]
                     go_big_quiet_on))
                refine wpQuiet_nil ?_
                intro r1w r1h
                obtain ⟨e1, e2, r1t⟩ := r1h
                have r1 := Lib.hid r1t
                clear r1t E1 E2 HR
                go_wp2_with fail
                refine wp_region_quiet (C := fun W => W.cell? ⟨blk, off + k, none⟩ = some (.int .i64 V) ∧ W.cell? ⟨blk', off' + k, none⟩ = some (.int .u64 (S : Nat)) ∧ TD w W w.heap.size w1.heap.size P f v l) (by kernel_rfl) (by kernel_rfl) ⟨e1, e2, r1.out.keep ((Below.refl _ _).drew)⟩ ?_
                simp only []
                have E1 := Lib.hid e1
                have E2 := Lib.hid e2
                clear e1 e2
                repeat (first
                  | go_big_quiet_skip
                  | (go_big_quiet_want; apply Exists.intro; refine ⟨fun wq hq => ?_, ?_⟩; focus (first
                      | (obtain ⟨c0, c1, _⟩ := hq; go_simp; exact rfl)
                      | (have hq' := hq; obtain ⟨c0, c1, _⟩ := hq'; go_simp; go_at_call 11; refine (take_not hq.2.2.a 12 hE.out (by decide)).mono fun e w2 h => ⟨h.1, keep h.2 hq.1, keep h.2 hq.2.1, hq.2.2.keep h.2⟩)
                      | (have hq' := hq; obtain ⟨c0, c1, _⟩ := hq'; go_simp; go_at_call 12; refine (rtake_no _ _ _ _ _ _ _ hq.2.2.b hll 12 hRE.out (by decide)).mono fun e w2 h => ⟨h.1, h.2 ▸ hq⟩))
                     simp only [Act.put, List.setIfInBounds_toArray, List.set_cons_succ, List.set_cons_zero]
                     go_big_quiet_on))
                refine wpQuiet_nil ?_
                intro r2w r2h
                obtain ⟨e1, e2, r2t⟩ := r2h
                have r2 := Lib.hid r2t
                clear r2t E1 E2 r1
                go_wp2_with fail
                refine (last_is r2.out.a n hL.out).mono ?_
                rintro e r3w ⟨rfl, r3b⟩
                replace e1 := keep r3b e1
                replace e2 := keep r3b e2
                have r3 := Lib.hid (r2.out.keep r3b)
                clear r3b r2
                go_wp2_with fail
                refine (rlast_is r3.out.b (by first | omega | (simp; omega)) n hRL.out).mono ?_
                rintro e _ ⟨rfl, rfl⟩
                go_wp2_with fail
                go_roundw
                case rel => exact ⟨k + 1, f, v, l, by omega, by omega, by omega, by first | omega | (simp; omega), by go_num, hS.out, r3.out⟩
                case measure => (simp [intOf] <;> omega)
              · go_wp2_with fail
                refine wp_region_quiet (C := fun W => W.cell? ⟨blk, off + k, none⟩ = some (.int .i64 V) ∧ W.cell? ⟨blk', off' + k, none⟩ = some (.int .u64 (S : Nat)) ∧ TD w W w.heap.size w1.heap.size P f v l) (by kernel_rfl) (by kernel_rfl) ⟨e1, e2, HR.out.keep ((Below.refl _ _).drew)⟩ ?_
                simp only []
                have E1 := Lib.hid e1
                have E2 := Lib.hid e2
                clear e1 e2
                repeat (first
                  | go_big_quiet_skip
                  | (go_big_quiet_want; apply Exists.intro; refine ⟨fun wq hq => ?_, ?_⟩; focus (first
                      | (obtain ⟨c0, c1, _⟩ := hq; go_simp; exact rfl)
                      | (have hq' := hq; obtain ⟨c0, c1, _⟩ := hq'; go_simp; go_at_call 9; refine (can_is hq.2.2.a 12 hE.out).mono fun e w2 h => ⟨h.1, keep h.2 hq.1, keep h.2 hq.2.1, hq.2.2.keep h.2⟩)
                      | (have hq' := hq; obtain ⟨c0, c1, _⟩ := hq'; go_simp; go_at_call 10; refine (rcan_is hq.2.2.b hll 12 hRE.out).mono fun e w2 h => ⟨h.1, h.2 ▸ hq⟩))
                     simp only [Act.put, List.setIfInBounds_toArray, List.set_cons_succ, List.set_cons_zero]
                     go_big_quiet_on))
                refine wpQuiet_nil ?_
                intro r1w r1h
                obtain ⟨e1, e2, r1t⟩ := r1h
                have r1 := Lib.hid r1t
                clear r1t E1 E2 HR
                go_wp2_with fail
                refine wp_region_quiet (C := fun W => W.cell? ⟨blk, off + k, none⟩ = some (.int .i64 V) ∧ W.cell? ⟨blk', off' + k, none⟩ = some (.int .u64 (S : Nat)) ∧ TD w W w.heap.size w1.heap.size P f v l) (by kernel_rfl) (by kernel_rfl) ⟨e1, e2, r1.out.keep ((Below.refl _ _).drew)⟩ ?_
                simp only []
                have E1 := Lib.hid e1
                have E2 := Lib.hid e2
                clear e1 e2
                repeat (first
                  | go_big_quiet_skip
                  | (go_big_quiet_want; apply Exists.intro; refine ⟨fun wq hq => ?_, ?_⟩; focus (first
                      | (obtain ⟨c0, c1, _⟩ := hq; go_simp; exact rfl)
                      | (have hq' := hq; obtain ⟨c0, c1, _⟩ := hq'; go_simp; go_at_call 11; refine (take_not hq.2.2.a 12 hE.out (by decide)).mono fun e w2 h => ⟨h.1, keep h.2 hq.1, keep h.2 hq.2.1, hq.2.2.keep h.2⟩)
                      | (have hq' := hq; obtain ⟨c0, c1, _⟩ := hq'; go_simp; go_at_call 12; refine (rtake_no _ _ _ _ _ _ _ hq.2.2.b hll 12 hRE.out (by decide)).mono fun e w2 h => ⟨h.1, h.2 ▸ hq⟩))
                     simp only [Act.put, List.setIfInBounds_toArray, List.set_cons_succ, List.set_cons_zero]
                     go_big_quiet_on))
                refine wpQuiet_nil ?_
                intro r2w r2h
                obtain ⟨e1, e2, r2t⟩ := r2h
                have r2 := Lib.hid r2t
                clear r2t E1 E2 r1
                go_wp2_with fail
                refine (last_is r2.out.a n hL.out).mono ?_
                rintro e r3w ⟨rfl, r3b⟩
                replace e1 := keep r3b e1
                replace e2 := keep r3b e2
                have r3 := Lib.hid (r2.out.keep r3b)
                clear r3b r2
                go_wp2_with fail
                refine (rlast_is r3.out.b (by first | omega | (simp; omega)) n hRL.out).mono ?_
                rintro e _ ⟨rfl, rfl⟩
                go_wp2_with fail
                go_roundw
                case rel => exact ⟨k + 1, f, v, l, by omega, by omega, by omega, by first | omega | (simp; omega), by go_num, hS.out, r3.out⟩
                case measure => (simp [intOf] <;> omega)
            · have hE := Lib.hid (show canE P f V S = 0 by unfold canE; rw [if_neg hin, hf]; simp [hSn])
              have hRE := Lib.hid ((same_can hS.out V S).trans hE.out)
              have hL := Lib.hid (show lastN P (upd f V.toNat S) V = some S by unfold lastN upd; rw [if_neg hin]; simp)
              have hRL := Lib.hid ((same_take hS.out hE.out V).symm.trans hL.out)
              clear hf hin hV
              rcases hmod with hm3 | hm3
              · go_wp2_with fail
                refine wp_region_quiet (C := fun W => W.cell? ⟨blk, off + k, none⟩ = some (.int .i64 V) ∧ W.cell? ⟨blk', off' + k, none⟩ = some (.int .u64 (S : Nat)) ∧ TD w W w.heap.size w1.heap.size P f v l) (by kernel_rfl) (by kernel_rfl) ⟨e1, e2, HR.out.keep ((Below.refl _ _).drew)⟩ ?_
                simp only []
                have E1 := Lib.hid e1
                have E2 := Lib.hid e2
                clear e1 e2
                repeat (first
                  | go_big_quiet_skip
                  | (go_big_quiet_want; apply Exists.intro; refine ⟨fun wq hq => ?_, ?_⟩; focus (first
                      | (obtain ⟨c0, c1, _⟩ := hq; go_simp; exact rfl)
                      | (have hq' := hq; obtain ⟨c0, c1, _⟩ := hq'; go_simp; go_at_call 9; refine (can_is hq.2.2.a 0 hE.out).mono fun e w2 h => ⟨h.1, keep h.2 hq.1, keep h.2 hq.2.1, hq.2.2.keep h.2⟩)
                      | (have hq' := hq; obtain ⟨c0, c1, _⟩ := hq'; go_simp; go_at_call 10; refine (rcan_is hq.2.2.b hll 0 hRE.out).mono fun e w2 h => ⟨h.1, h.2 ▸ hq⟩))
                     simp only [Act.put, List.setIfInBounds_toArray, List.set_cons_succ, List.set_cons_zero]
                     go_big_quiet_on))
                refine wpQuiet_nil ?_
                intro r1w r1h
                obtain ⟨e1, e2, r1t⟩ := r1h
                have r1 := Lib.hid r1t
                clear r1t E1 E2 HR
                go_wp2_with fail
                have hd := r1.out.keep ((Below.refl _ _).drew)
                have HD := Lib.hid hd
                clear hd
                go_region_held3 (fun W => W.cell? ⟨blk, off + k, none⟩ = some (.int .i64 V) ∧ W.cell? ⟨blk', off' + k, none⟩ = some (.int .u64 (S : Nat)))
                  (first | (go_keep; done) | assumption | exact ⟨e1, e2⟩)
                  (first | (go_at_call 11; (with_reducible refine (take_is HD.out.a hE.out).mono ?_); rintro e u1w ⟨rfl, u1g, u1gr⟩; have hs : (u1w.cell? ⟨blk, off + k, none⟩ = some (.int .i64 V) ∧ u1w.cell? ⟨blk', off' + k, none⟩ = some (.int .u64 (S : Nat))) := ⟨grown_cell u1gr (by omega) e1, grown_cell u1gr (by omega) e2⟩; have HU := Lib.hid (HD.out.takeA u1g u1gr); clear u1g u1gr) | (go_at_call 12; (with_reducible refine (rtake_yes _ _ _ _ _ _ _ HU.out.b hll hRE.out).mono ?_); rintro e u2w ⟨rfl, v', u2g, u2o⟩; have hs2 : (u2w.cell? ⟨blk, off + k, none⟩ = some (.int .i64 V) ∧ u2w.cell? ⟨blk', off' + k, none⟩ = some (.int .u64 (S : Nat))) := ⟨u2o.cell hs.1 (fun h => by have := HU.out.far _ h; omega), u2o.cell hs.2 (fun h => by have := HU.out.far _ h; omega)⟩; have r2 := Lib.hid (HU.out.takeB u2g u2o); clear u2g u2o hs HU HD e1 e2))
                obtain ⟨e1, e2⟩ := hs2
                clear r1
                go_wp2_with fail
                refine (last_is r2.out.a S hL.out).mono ?_
                rintro e r3w ⟨rfl, r3b⟩
                replace e1 := keep r3b e1
                replace e2 := keep r3b e2
                have r3 := Lib.hid (r2.out.keep r3b)
                clear r3b r2
                go_wp2_with fail
                refine (rlast_is r3.out.b (by first | omega | (simp; omega)) S hRL.out).mono ?_
                rintro e _ ⟨rfl, rfl⟩
                go_wp2_with fail
                go_roundw
                case rel => exact ⟨k + 1, (upd f V.toNat S), v', (l ++ [(V, S)]), by omega, by omega, by omega, by first | omega | (simp; omega), by go_num, (same_take hS.out hE.out), r3.out⟩
                case measure => (simp [intOf] <;> omega)
              · go_wp2_with fail
                refine wp_region_quiet (C := fun W => W.cell? ⟨blk, off + k, none⟩ = some (.int .i64 V) ∧ W.cell? ⟨blk', off' + k, none⟩ = some (.int .u64 (S : Nat)) ∧ TD w W w.heap.size w1.heap.size P f v l) (by kernel_rfl) (by kernel_rfl) ⟨e1, e2, HR.out.keep ((Below.refl _ _).drew)⟩ ?_
                simp only []
                have E1 := Lib.hid e1
                have E2 := Lib.hid e2
                clear e1 e2
                repeat (first
                  | go_big_quiet_skip
                  | (go_big_quiet_want; apply Exists.intro; refine ⟨fun wq hq => ?_, ?_⟩; focus (first
                      | (obtain ⟨c0, c1, _⟩ := hq; go_simp; exact rfl)
                      | (have hq' := hq; obtain ⟨c0, c1, _⟩ := hq'; go_simp; go_at_call 9; refine (can_is hq.2.2.a 0 hE.out).mono fun e w2 h => ⟨h.1, keep h.2 hq.1, keep h.2 hq.2.1, hq.2.2.keep h.2⟩)
                      | (have hq' := hq; obtain ⟨c0, c1, _⟩ := hq'; go_simp; go_at_call 10; refine (rcan_is hq.2.2.b hll 0 hRE.out).mono fun e w2 h => ⟨h.1, h.2 ▸ hq⟩))
                     simp only [Act.put, List.setIfInBounds_toArray, List.set_cons_succ, List.set_cons_zero]
                     go_big_quiet_on))
                refine wpQuiet_nil ?_
                intro r1w r1h
                obtain ⟨e1, e2, r1t⟩ := r1h
                have r1 := Lib.hid r1t
                clear r1t E1 E2 HR
                go_wp2_with fail
                have hd := r1.out.keep ((Below.refl _ _).drew)
                have HD := Lib.hid hd
                clear hd
                go_region_held3 (fun W => W.cell? ⟨blk, off + k, none⟩ = some (.int .i64 V) ∧ W.cell? ⟨blk', off' + k, none⟩ = some (.int .u64 (S : Nat)))
                  (first | (go_keep; done) | assumption | exact ⟨e1, e2⟩)
                  (first | (go_at_call 11; (with_reducible refine (take_is HD.out.a hE.out).mono ?_); rintro e u1w ⟨rfl, u1g, u1gr⟩; have hs : (u1w.cell? ⟨blk, off + k, none⟩ = some (.int .i64 V) ∧ u1w.cell? ⟨blk', off' + k, none⟩ = some (.int .u64 (S : Nat))) := ⟨grown_cell u1gr (by omega) e1, grown_cell u1gr (by omega) e2⟩; have HU := Lib.hid (HD.out.takeA u1g u1gr); clear u1g u1gr) | (go_at_call 12; (with_reducible refine (rtake_yes _ _ _ _ _ _ _ HU.out.b hll hRE.out).mono ?_); rintro e u2w ⟨rfl, v', u2g, u2o⟩; have hs2 : (u2w.cell? ⟨blk, off + k, none⟩ = some (.int .i64 V) ∧ u2w.cell? ⟨blk', off' + k, none⟩ = some (.int .u64 (S : Nat))) := ⟨u2o.cell hs.1 (fun h => by have := HU.out.far _ h; omega), u2o.cell hs.2 (fun h => by have := HU.out.far _ h; omega)⟩; have r2 := Lib.hid (HU.out.takeB u2g u2o); clear u2g u2o hs HU HD e1 e2))
                obtain ⟨e1, e2⟩ := hs2
                clear r1
                go_wp2_with fail
                refine (last_is r2.out.a S hL.out).mono ?_
                rintro e r3w ⟨rfl, r3b⟩
                replace e1 := keep r3b e1
                replace e2 := keep r3b e2
                have r3 := Lib.hid (r2.out.keep r3b)
                clear r3b r2
                go_wp2_with fail
                refine (rlast_is r3.out.b (by first | omega | (simp; omega)) S hRL.out).mono ?_
                rintro e _ ⟨rfl, rfl⟩
                go_wp2_with fail
                go_roundw
                case rel => exact ⟨k + 1, (upd f V.toNat S), v', (l ++ [(V, S)]), by omega, by omega, by omega, by first | omega | (simp; omega), by go_num, (same_take hS.out hE.out), r3.out⟩
                case measure => (simp [intOf] <;> omega)
      · have hway : ¬ k < lb ∨ (k < lb ∧ ¬ k < la) ∨ (k < lb ∧ k < la ∧ ¬ k < 40) := by omega
        have hBr := hR.B'
        clear hin hR
        rcases hway with h1 | ⟨h1, h2⟩ | ⟨h1, h2, h3⟩
        all_goals
          go_wp2_with fail
          refine (fixed_any _).mono ?_
          rintro e w3 ⟨rfl, hb3⟩
          have hB3 := below_from hBr hBr.size hb3
          clear hb3 hBr
          go_wp2
          go_ret
          exact ⟨rfl, hB3⟩
end Go.Proofs.Ythkpidmclechdaa
