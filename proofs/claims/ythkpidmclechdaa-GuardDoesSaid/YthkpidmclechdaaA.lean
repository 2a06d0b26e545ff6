/- The contracts of guard's New, Can, Take, Last. -/
import Derived.Test.YthkpidmclechdaaRows
import Derived.Test.YthkpidmclechdaaH
import Derived.BigQuiet
namespace Go.Proofs.Ythkpidmclechdaa
open Go.RowKit
set_option maxHeartbeats 1000000
set_option linter.unusedVariables false

/-- what a guard's block says of one peer: nothing was noted, or this stamp. -/
def Noted (w : World) (G i : Nat) : Option Nat → Prop
  | none => w.cell? ⟨G, i, none⟩ = some (.pointer none)
  | some n => ∃ p, w.cell? ⟨G, i, none⟩ = some (.pointer (some ⟨p, 0, none⟩)) ∧ w.cell? ⟨p, 0, none⟩ = some (.int .u64 n)
/-- a guard of so many peers lies in block G; what it noted is f. -/
structure GuardAt (w : World) (G : Nat) (peers : Nat) (f : Nat → Option Nat) : Prop where
  hp : w.cell? ⟨G, 8, none⟩ = some (.int .i64 peers)
  le : peers ≤ 8
  noted : ∀ i, i < 8 → Noted w G i (f i)
  free : ∀ i, i < 8 → w.frozen? ⟨G, i, none⟩ = false

def canE (peers : Nat) (f : Nat → Option Nat) (i : Int) (s : Nat) : Int :=
  if i < 0 ∨ (peers : Int) ≤ i then 5 else match f i.toNat with
    | none => 0
    | some n => if s ≤ n then 12 else 0

theorem can_neg (G peers : Nat) (i : Int) (s : Nat) (w : World) (h : i < 0) :
    Calls Try.prog 9 #[.pointer (some ⟨G, 0, none⟩), .int .i64 i, .int .u64 s] w fun e w' => e = .returned (.int .i64 5) ∧ Below w.heap.size w w' := by
  go_enter Try.func9, Try.ntmps9
  go_wp2
  go_ret
  exact ⟨rfl, by go_grown⟩

theorem can_big (G peers : Nat) (i : Int) (s : Nat) (w : World) (h0 : 0 ≤ i) (h : (peers : Int) ≤ i) (hp : w.cell? ⟨G, 8, none⟩ = some (.int .i64 peers)) :
    Calls Try.prog 9 #[.pointer (some ⟨G, 0, none⟩), .int .i64 i, .int .u64 s] w fun e w' => e = .returned (.int .i64 5) ∧ Below w.heap.size w w' := by
  have hl := lt_of hp
  have h0' : ¬ i < 0 := by omega
  go_enter Try.func9, Try.ntmps9
  go_wp2
  go_ret
  exact ⟨rfl, by go_grown⟩

theorem below_drewN {B : Nat} {a w : World} (h : Below B a w) (n : Nat) : Below B a (w.drewN n) := ⟨h.os, h.tape, h.output, h.size, h.block⟩

theorem c17_none (b o S : Nat) (w : World) (hc : w.cell? ⟨b, o, none⟩ = some (.pointer none)) :
    Calls Try.prog 17 #[.pointer (some ⟨b, o, none⟩), .pointer (some ⟨S, 0, none⟩)] w fun e w' => e = .returned (.int .i64 0) ∧ Below w.heap.size w w' := by
  go_enter Try.func17, Try.ntmps17
  go_wp2_with fail
  go_quiet (fail)
  go_wp2
  go_ret
  exact ⟨rfl, below_drewN (Below.refl _ _) _⟩

theorem c17_old (b o S p s n : Nat) (w : World) (hc : w.cell? ⟨b, o, none⟩ = some (.pointer (some ⟨p, 0, none⟩))) (hn : w.cell? ⟨p, 0, none⟩ = some (.int .u64 n)) (hs : w.cell? ⟨S, 0, none⟩ = some (.int .u64 s)) (h : s ≤ n) :
    Calls Try.prog 17 #[.pointer (some ⟨b, o, none⟩), .pointer (some ⟨S, 0, none⟩)] w fun e w' => e = .returned (.int .i64 12) ∧ Below w.heap.size w w' := by
  go_enter Try.func17, Try.ntmps17
  go_wp2_with fail
  go_quiet (fail)
  go_wp2
  go_ret
  exact ⟨rfl, below_drewN (Below.refl _ _) _⟩

theorem c17_new (b o S p s n : Nat) (w : World) (hc : w.cell? ⟨b, o, none⟩ = some (.pointer (some ⟨p, 0, none⟩))) (hn : w.cell? ⟨p, 0, none⟩ = some (.int .u64 n)) (hs : w.cell? ⟨S, 0, none⟩ = some (.int .u64 s)) (h : ¬ s ≤ n) :
    Calls Try.prog 17 #[.pointer (some ⟨b, o, none⟩), .pointer (some ⟨S, 0, none⟩)] w fun e w' => e = .returned (.int .i64 0) ∧ Below w.heap.size w w' := by
  go_enter Try.func17, Try.ntmps17
  go_wp2_with fail
  go_quiet (fail)
  go_wp2
  go_ret
  exact ⟨rfl, below_drewN (Below.refl _ _) _⟩

theorem can_in (G peers : Nat) (i : Nat) (s : Nat) (w : World) (f : Nat → Option Nat) (h : i < peers) (g : GuardAt w G peers f) :
    Calls Try.prog 9 #[.pointer (some ⟨G, 0, none⟩), .int .i64 i, .int .u64 s] w fun e w' => e = .returned (.int .i64 (canE peers f i s)) ∧ Below w.heap.size w w' := by
  obtain ⟨hp, h8, hnoted, hfree⟩ := g
  have hl := lt_of hp
  have h1 : (0 : Int) ≤ (i : Int) := by omega
  have h2 : (i : Int) < 8 := by omega
  have h3 : ¬ (peers : Int) ≤ (i : Int) := by omega
  have hn := hnoted i (by omega)
  unfold canE
  rw [if_neg (by omega)]
  simp only [Int.toNat_natCast]
  clear hnoted hfree
  cases hf : f i with
  | none =>
    rw [hf] at hn
    have hc : w.cell? ⟨G, i, none⟩ = some (.pointer none) := hn
    have HN := Lib.hid hn
    have HF := Lib.hid hf
    clear hn hf
    simp only []
    go_enter Try.func9, Try.ntmps9
    go_wp2_with (first | (go_at_call 17; refine (c17_none _ _ _ _ (keepA _ hc)).mono ?_; rintro e w' ⟨rfl, hb⟩) | (go_at_call 16; go_in))
    all_goals go_ret
    all_goals exact ⟨rfl, below_of hb⟩
  | some n =>
    rw [hf] at hn
    obtain ⟨p, hc, hv⟩ := hn
    have HF := Lib.hid hf
    clear hf
    simp only []
    by_cases hsn : s ≤ n
    · rw [if_pos hsn]
      go_enter Try.func9, Try.ntmps9
      go_wp2_with (first | (go_at_call 17; refine (c17_old _ _ _ p s n _ (keepA _ hc) (keepA _ hv) (by simp [go_sem]) hsn).mono ?_; rintro e w' ⟨rfl, hb⟩) | (go_at_call 16; go_in))
      all_goals go_ret
      all_goals exact ⟨rfl, below_of hb⟩
    · rw [if_neg hsn]
      go_enter Try.func9, Try.ntmps9
      go_wp2_with (first | (go_at_call 17; refine (c17_new _ _ _ p s n _ (keepA _ hc) (keepA _ hv) (by simp [go_sem]) hsn).mono ?_; rintro e w' ⟨rfl, hb⟩) | (go_at_call 16; go_in))
      all_goals go_ret
      all_goals exact ⟨rfl, below_of hb⟩

theorem can_any (G peers : Nat) (i : Int) (s : Nat) (w : World) (f : Nat → Option Nat) (g : GuardAt w G peers f) :
    Calls Try.prog 9 #[.pointer (some ⟨G, 0, none⟩), .int .i64 i, .int .u64 s] w fun e w' => e = .returned (.int .i64 (canE peers f i s)) ∧ Below w.heap.size w w' := by
  by_cases h1 : i < 0
  · have e : canE peers f i s = 5 := by unfold canE; rw [if_pos (.inl h1)]
    rw [e]; exact can_neg G peers i s w h1
  · by_cases h2 : (peers : Int) ≤ i
    · have e : canE peers f i s = 5 := by unfold canE; rw [if_pos (.inr h2)]
      rw [e]; exact can_big G peers i s w (by omega) h2 g.hp
    · obtain ⟨k, rfl⟩ : ∃ k : Nat, i = k := ⟨i.toNat, by omega⟩
      exact can_in G peers k s w f (by omega) g

theorem GuardAt.keep {w w' : World} {G peers : Nat} {f : Nat → Option Nat} (g : GuardAt w G peers f) (hb : Below w.heap.size w w') : GuardAt w' G peers f := by
  refine ⟨Ythkpidmclechdaa.keep hb g.hp, g.le, fun i hi => ?_, fun i hi => ?_⟩
  · have := g.noted i hi
    cases hf : f i with
    | none => rw [hf] at this; exact Ythkpidmclechdaa.keep hb this
    | some n =>
      rw [hf] at this
      obtain ⟨p, a, b⟩ := this
      exact ⟨p, Ythkpidmclechdaa.keep hb a, Ythkpidmclechdaa.keep hb b⟩
  · have hl : G < w.heap.size := lt_of g.hp
    exact (hb.frozen (p := ⟨G, i, none⟩) hl).trans (g.free i hi)

/-- the stamp of one peer more. -/
def upd (f : Nat → Option Nat) (i s : Nat) (k : Nat) : Option Nat := if k = i then some s else f k

theorem GuardAt.ptr {w : World} {G peers : Nat} {f : Nat → Option Nat} (g : GuardAt w G peers f) (i : Nat) (hi : i < 8) : ∃ a, w.cell? ⟨G, i, none⟩ = some (.pointer a) := by
  have := g.noted i hi
  cases hf : f i with
  | none => rw [hf] at this; exact ⟨_, this⟩
  | some n => rw [hf] at this; obtain ⟨p, a, _⟩ := this; exact ⟨_, a⟩

/-- a store of a new stamp's place. -/
theorem GuardAt.store {w : World} {G peers : Nat} {f : Nat → Option Nat} (g : GuardAt w G peers f) {i s p : Nat} (hi : i < 8) (hp : w.cell? ⟨p, 0, none⟩ = some (.int .u64 s)) : GuardAt (w.setCell ⟨G, i, none⟩ (.pointer (some ⟨p, 0, none⟩))) G peers (upd f i s) := by
  obtain ⟨a, ha⟩ := g.ptr i hi
  obtain ⟨a0, ha0⟩ := g.ptr 0 (by omega)
  have hne : ∀ q n, w.cell? ⟨q, 0, none⟩ = some (.int .u64 n) → q ≠ G := by
    intro q n h e; subst e; rw [ha0] at h; cases h
  refine ⟨?_, g.le, fun k hk => ?_, fun k hk => ?_⟩
  · rw [World.cell?_setCell_other _ _ _ _ (by simp <;> omega)]; exact g.hp
  · unfold upd
    by_cases e : k = i
    · subst e
      rw [if_pos rfl]
      refine ⟨p, ?_, keepS hp (hne p s hp)⟩
      exact World.cell?_setCell_same _ _ _ ha
    · rw [if_neg e]
      have hn := g.noted k hk
      have ho : ∀ v, w.cell? ⟨G, k, none⟩ = some v → (w.setCell ⟨G, i, none⟩ (.pointer (some ⟨p, 0, none⟩))).cell? ⟨G, k, none⟩ = some v := by
        intro v hv; rw [World.cell?_setCell_other _ _ _ _ (by simp <;> omega)]; exact hv
      cases hf : f k with
      | none => rw [hf] at hn; exact ho _ hn
      | some n =>
        rw [hf] at hn
        obtain ⟨q, x, y⟩ := hn
        exact ⟨q, ho _ x, keepS y (hne q n y)⟩
  · simpa using g.free k hk

def TakeOk (G peers : Nat) (f : Nat → Option Nat) (i s : Nat) (w : World) (e : Ending) (w' : World) : Prop :=
  e = .returned (.int .i64 0) ∧ GuardAt w' G peers (upd f i s) ∧ w.grownBy w' (some G)

theorem grown_of {w w' : World} (G : Nat) (hb : Below w.heap.size w w') : w.grownBy w' (some G) := ⟨hb.os, hb.tape, hb.output, hb.size, fun k hk _ => hb.block k hk⟩

theorem grown_set {w w' : World} {G i : Nat} {v : Value} (hB : Below w.heap.size w w') : w.grownBy (w'.setCell ⟨G, i, none⟩ v) (some G) :=
  ⟨hB.os, hB.tape, hB.output, by simpa [World.setCell] using hB.size, fun k hk hne => (Below.heap_setCell w' ⟨G, i, none⟩ v k (by rintro rfl; exact hne rfl)).trans (hB.block k hk)⟩

theorem canE_lt {peers : Nat} {f : Nat → Option Nat} {i : Int} {s : Nat} (h : canE peers f i s = 0) : ∃ k : Nat, i = k ∧ k < peers := by
  unfold canE at h
  by_cases e : i < 0 ∨ (peers : Int) ≤ i
  · rw [if_pos e] at h; omega
  · exact ⟨i.toNat, by omega, by omega⟩

theorem take_no (G peers : Nat) (i : Int) (s : Nat) (w : World) (f : Nat → Option Nat) (g : GuardAt w G peers f) (E : Int) (hE : canE peers f i s = E) (h : (E != 0) = true) :
    Calls Try.prog 11 #[.pointer (some ⟨G, 0, none⟩), .int .i64 i, .int .u64 s] w fun e w' => e = .returned (.int .i64 E) ∧ Below w.heap.size w w' := by
  have hc := fun w g => can_any G peers i s w f g
  rw [hE] at hc
  have HC := Lib.hid hc
  have G1 := Lib.hid (g.keep ((Below.refl _ _).alloc (Nat.le_refl _) (.cells #[.int .u64 s] 32)))
  have h' : ¬ E = 0 := by simpa using h
  clear g hc hE
  go_enter Try.func11, Try.ntmps11
  go_wp2_with (go_at_call 9; refine (HC.out _ G1.out).mono ?_; rintro e w' ⟨rfl, hb⟩)
  all_goals go_ret
  all_goals exact ⟨rfl, below_of hb⟩

theorem take_yes (G peers : Nat) (i : Nat) (s : Nat) (w : World) (f : Nat → Option Nat) (g : GuardAt w G peers f) (hi : i < peers) (hE : canE peers f i s = 0) :
    Calls Try.prog 11 #[.pointer (some ⟨G, 0, none⟩), .int .i64 i, .int .u64 s] w (TakeOk G peers f i s w) := by
  have hc := fun w g => can_any G peers i s w f g
  rw [hE] at hc
  have HC := Lib.hid hc
  have G1 := Lib.hid (g.keep ((Below.refl _ _).alloc (Nat.le_refl _) (.cells #[.int .u64 s] 32)))
  have h8 := g.le
  have hpl := lt_of g.hp
  have h1 : (0 : Int) ≤ (i : Int) := by omega
  have h2 : (i : Int) < 8 := by omega
  have h3 : ¬ (peers : Int) ≤ (i : Int) := by omega
  clear g hc hE
  go_enter Try.func11, Try.ntmps11
  go_wp2_with fail
  refine (HC.out _ G1.out).mono ?_
  rintro e w' ⟨rfl, hb⟩
  have g' := G1.out.keep hb
  have hs : w'.cell? ⟨w.heap.size, 0, none⟩ = some (.int .u64 s) := keep hb (by simp [go_sem])
  have hB := below_of hb
  have c8 := g'.hp
  obtain ⟨a, ha⟩ := g'.ptr i (by omega)
  have hz := g'.free i (by omega)
  have G2 := Lib.hid g'
  clear g' hb
  go_wp2
  all_goals go_ret
  all_goals exact ⟨rfl, G2.out.store (by omega) hs, grown_set hB⟩

/-- what was noted of a peer last. -/
def lastN (peers : Nat) (f : Nat → Option Nat) (i : Int) : Option Nat := if i < 0 ∨ (peers : Int) ≤ i then none else f i.toNat
def lastR : Option Nat → Value
  | none => .tuple #[.int .u64 0, .bool false]
  | some n => .tuple #[.int .u64 n, .bool true]

theorem last_neg (G peers : Nat) (i : Int) (w : World) (h : i < 0) :
    Calls Try.prog 13 #[.pointer (some ⟨G, 0, none⟩), .int .i64 i] w fun e w' => e = .returned (.tuple #[.int .u64 0, .bool false]) ∧ Below w.heap.size w w' := by
  go_enter Try.func13, Try.ntmps13
  go_wp2
  go_quiet (fail)
  go_wp2
  go_ret2
  exact ⟨rfl, below_drewN (by go_grown) _⟩

theorem last_big (G peers : Nat) (i : Int) (w : World) (h0 : 0 ≤ i) (h : (peers : Int) ≤ i) (hp : w.cell? ⟨G, 8, none⟩ = some (.int .i64 peers)) :
    Calls Try.prog 13 #[.pointer (some ⟨G, 0, none⟩), .int .i64 i] w fun e w' => e = .returned (.tuple #[.int .u64 0, .bool false]) ∧ Below w.heap.size w w' := by
  have hl := lt_of hp
  have h0' : ¬ i < 0 := by omega
  go_enter Try.func13, Try.ntmps13
  go_wp2
  go_quiet (fail)
  go_wp2
  go_ret2
  exact ⟨rfl, below_drewN (by go_grown) _⟩

theorem last_none (G peers : Nat) (i : Nat) (w : World) (h : i < peers) (h8 : peers ≤ 8) (hp : w.cell? ⟨G, 8, none⟩ = some (.int .i64 peers)) (hc : w.cell? ⟨G, i, none⟩ = some (.pointer none)) :
    Calls Try.prog 13 #[.pointer (some ⟨G, 0, none⟩), .int .i64 i] w fun e w' => e = .returned (.tuple #[.int .u64 0, .bool false]) ∧ Below w.heap.size w w' := by
  have hl := lt_of hp
  have h1 : (0 : Int) ≤ (i : Int) := by omega
  have h2 : (i : Int) < 8 := by omega
  have h3 : ¬ (peers : Int) ≤ (i : Int) := by omega
  go_enter Try.func13, Try.ntmps13
  go_wp2
  go_quiet (fail)
  go_wp2
  go_ret2
  exact ⟨rfl, below_drewN (by go_grown) _⟩

theorem last_some (G peers : Nat) (i p n : Nat) (w : World) (h : i < peers) (h8 : peers ≤ 8) (hp : w.cell? ⟨G, 8, none⟩ = some (.int .i64 peers)) (hc : w.cell? ⟨G, i, none⟩ = some (.pointer (some ⟨p, 0, none⟩))) (hn : w.cell? ⟨p, 0, none⟩ = some (.int .u64 n)) :
    Calls Try.prog 13 #[.pointer (some ⟨G, 0, none⟩), .int .i64 i] w fun e w' => e = .returned (.tuple #[.int .u64 n, .bool true]) ∧ Below w.heap.size w w' := by
  have hl := lt_of hp
  have hlp := lt_of hn
  have h1 : (0 : Int) ≤ (i : Int) := by omega
  have h2 : (i : Int) < 8 := by omega
  have h3 : ¬ (peers : Int) ≤ (i : Int) := by omega
  go_enter Try.func13, Try.ntmps13
  go_wp2
  go_quiet (fail)
  go_wp2
  go_ret2
  exact ⟨rfl, below_drewN (by go_grown) _⟩

theorem last_any (G peers : Nat) (i : Int) (w : World) (f : Nat → Option Nat) (g : GuardAt w G peers f) :
    Calls Try.prog 13 #[.pointer (some ⟨G, 0, none⟩), .int .i64 i] w fun e w' => e = .returned (lastR (lastN peers f i)) ∧ Below w.heap.size w w' := by
  unfold lastN
  by_cases h1 : i < 0
  · rw [if_pos (.inl h1)]; exact last_neg G peers i w h1
  · by_cases h2 : (peers : Int) ≤ i
    · rw [if_pos (.inr h2)]; exact last_big G peers i w (by omega) h2 g.hp
    · obtain ⟨k, rfl⟩ : ∃ k : Nat, i = k := ⟨i.toNat, by omega⟩
      rw [if_neg (by omega)]
      simp only [Int.toNat_natCast]
      have hn := g.noted k (by have := g.le; omega)
      cases hf : f k with
      | none => rw [hf] at hn; exact last_none G peers k w (by omega) g.le g.hp hn
      | some n =>
        rw [hf] at hn
        obtain ⟨p, a, b⟩ := hn
        exact last_some G peers k p n w (by omega) g.le g.hp a b

theorem take_ok (G peers : Nat) (i : Int) (s : Nat) (w : World) (f : Nat → Option Nat) (g : GuardAt w G peers f) (hE : canE peers f i s = 0) :
    Calls Try.prog 11 #[.pointer (some ⟨G, 0, none⟩), .int .i64 i, .int .u64 s] w (TakeOk G peers f i.toNat s w) := by
  obtain ⟨k, rfl, hk⟩ := canE_lt hE
  exact take_yes G peers k s w f g hk hE

/-- another guard, while one is written. -/
theorem GuardAt.other {w w' : World} {G K peers peers' : Nat} {f f' : Nat → Option Nat} (g : GuardAt w G peers f) (k : GuardAt w K peers' f') (hne : G ≠ K) (hg : w.grownBy w' (some K)) : GuardAt w' G peers f := by
  have hk : ∀ {b o : Nat} {v : Value}, b ≠ K → w.cell? ⟨b, o, none⟩ = some v → w'.cell? ⟨b, o, none⟩ = some v := fun {b o v} hb h =>
    (World.cell?_of_block (w := w) (a := ⟨b, o, none⟩) (hg.block b (lt_of h) (by intro e; exact hb (Option.some.inj e)))).trans h
  obtain ⟨a0, ha0⟩ := k.ptr 0 (by omega)
  have hq : ∀ q n, w.cell? ⟨q, 0, none⟩ = some (.int .u64 n) → q ≠ K := by
    intro q n h e; subst e; rw [ha0] at h; cases h
  refine ⟨hk hne g.hp, g.le, fun i hi => ?_, fun i hi => ?_⟩
  · have hn := g.noted i hi
    cases hf : f i with
    | none => rw [hf] at hn; exact hk hne hn
    | some n =>
      rw [hf] at hn
      obtain ⟨p, a, b⟩ := hn
      exact ⟨p, hk hne a, hk (hq p n b) b⟩
  · have hl : G < w.heap.size := lt_of g.hp
    exact (World.frozen?_of_block (w := w) (a := ⟨G, i, none⟩) (hg.block G hl (by intro e; exact hne (Option.some.inj e)))).trans (g.free i hi)

theorem new_bad (p : Int) (w : World) (h : p < 0 ∨ 8 < p) :
    Calls Try.prog 7 #[.int .i64 p] w fun e w' => e = .returned (.tuple #[.pointer none, .int .i64 1]) ∧ w = w' := by
  rcases h with h | h
  · go_enter Try.func7, Try.ntmps7
    go_wp2
    go_ret2
    exact ⟨rfl, rfl⟩
  · have h' : ¬ p < 0 := by omega
    go_enter Try.func7, Try.ntmps7
    go_wp2
    go_ret2
    exact ⟨rfl, rfl⟩

def NewOk (p : Nat) (w : World) (e : Ending) (w' : World) : Prop :=
  e = .returned (.tuple #[.pointer (some ⟨w.heap.size, 0, none⟩), .int .i64 0]) ∧ GuardAt w' w.heap.size p (fun _ => none) ∧ Below w.heap.size w w' ∧ w.heap.size < w'.heap.size

theorem new_ok (p : Nat) (w : World) (h : p ≤ 8) : Calls Try.prog 7 #[.int .i64 p] w (NewOk p w) := by
  have h1 : ¬ (p : Int) < 0 := by omega
  have h2 : ¬ (8 : Int) < p := by omega
  go_enter Try.func7, Try.ntmps7
  go_wp2
  go_ret2
  refine ⟨rfl, ⟨by simp [go_sem], h, fun i hi => ?_, fun i hi => ?_⟩, by go_grown, by simp⟩
  · unfold Noted
    rcases (by omega : i = 0 ∨ i = 1 ∨ i = 2 ∨ i = 3 ∨ i = 4 ∨ i = 5 ∨ i = 6 ∨ i = 7) with rfl | rfl | rfl | rfl | rfl | rfl | rfl | rfl <;> simp [go_sem]
  · simp [go_sem]

theorem can_is {G peers : Nat} {i : Int} {s : Nat} {w : World} {f : Nat → Option Nat} (g : GuardAt w G peers f) (E : Int) (hE : canE peers f i s = E) :
    Calls Try.prog 9 #[.pointer (some ⟨G, 0, none⟩), .int .i64 i, .int .u64 s] w fun e w' => e = .returned (.int .i64 E) ∧ Below w.heap.size w w' := by
  rw [← hE]; exact can_any G peers i s w f g
theorem last_is {G peers : Nat} {i : Int} {w : World} {f : Nat → Option Nat} (g : GuardAt w G peers f) (n : Nat) (h : lastN peers f i = some n) :
    Calls Try.prog 13 #[.pointer (some ⟨G, 0, none⟩), .int .i64 i] w fun e w' => e = .returned (.tuple #[.int .u64 n, .bool true]) ∧ Below w.heap.size w w' := by
  have := last_any G peers i w f g
  rw [h] at this; exact this
theorem last_not {G peers : Nat} {i : Int} {w : World} {f : Nat → Option Nat} (g : GuardAt w G peers f) (h : lastN peers f i = none) :
    Calls Try.prog 13 #[.pointer (some ⟨G, 0, none⟩), .int .i64 i] w fun e w' => e = .returned (.tuple #[.int .u64 0, .bool false]) ∧ Below w.heap.size w w' := by
  have := last_any G peers i w f g
  rw [h] at this; exact this
theorem take_not {G peers : Nat} {i : Int} {s : Nat} {w : World} {f : Nat → Option Nat} (g : GuardAt w G peers f) (E : Int) (hE : canE peers f i s = E) (h : (E != 0) = true) :
    Calls Try.prog 11 #[.pointer (some ⟨G, 0, none⟩), .int .i64 i, .int .u64 s] w fun e w' => e = .returned (.int .i64 E) ∧ Below w.heap.size w w' := take_no G peers i s w f g E hE h
theorem take_is {G peers : Nat} {i : Int} {s : Nat} {w : World} {f : Nat → Option Nat} (g : GuardAt w G peers f) (hE : canE peers f i s = 0) :
    Calls Try.prog 11 #[.pointer (some ⟨G, 0, none⟩), .int .i64 i, .int .u64 s] w (TakeOk G peers f i.toNat s w) := take_ok G peers i s w f g hE
end Go.Proofs.Ythkpidmclechdaa
