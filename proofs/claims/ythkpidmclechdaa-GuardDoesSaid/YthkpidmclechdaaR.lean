/- The contracts of the reference's New, Can, Take, Last. -/
import Derived.Test.YthkpidmclechdaaA
import Derived.Deep.AppendLies
import Derived.Laws.OwnMore
import Derived.LoopTactic
import Derived.OwnWalk
namespace Go.Proofs.Ythkpidmclechdaa
open Go.RowKit
set_option maxHeartbeats 1000000
set_option maxRecDepth 100000
set_option linter.unusedVariables false

/-- the cells of notes: a peer, and its stamp. -/
def noteCells : List (Int × Nat) → List Value
  | [] => []
  | x :: l => .int .i64 x.1 :: .int .u64 (x.2 : Nat) :: noteCells l
theorem noteCells_len (l : List (Int × Nat)) : (noteCells l).length = l.length * 2 := by
  induction l with
  | nil => rfl
  | cons x l ih => simp only [noteCells, List.length_cons, ih]; omega
theorem noteCells_app (l : List (Int × Nat)) (x : Int × Nat) : noteCells (l ++ [x]) = noteCells l ++ [.int .i64 x.1, .int .u64 (x.2 : Nat)] := by
  induction l with
  | nil => rfl
  | cons y l ih => simp [noteCells, ih]
theorem noteCells_get (l : List (Int × Nat)) (k : Nat) (h : k < l.length) : (noteCells l)[k * 2]? = some (.int .i64 l[k].1) ∧ (noteCells l)[k * 2 + 1]? = some (.int .u64 (l[k].2 : Nat)) := by
  induction l generalizing k with
  | nil => simp at h
  | cons y l ih =>
    cases k with
    | zero => exact ⟨rfl, rfl⟩
    | succ k =>
      have := ih k (by simpa using h)
      have e1 : (k + 1) * 2 = k * 2 + 2 := by omega
      rw [e1]
      simpa [noteCells] using this
/-- the last stamp of a peer. -/
def lastOf (l : List (Int × Nat)) (p : Int) : Option Nat := l.foldl (fun a x => if x.1 = p then some x.2 else a) none
theorem lastOf_app (l : List (Int × Nat)) (x : Int × Nat) (p : Int) : lastOf (l ++ [x]) p = if x.1 = p then some x.2 else lastOf l p := by
  unfold lastOf; rw [List.foldl_append]; rfl
/-- what is not in the set stands as it did. -/
structure Only (S : Nat → Prop) (w w' : World) : Prop where
  os : w'.os = w.os
  tape : w'.tape = w.tape
  output : w'.output = w.output
  size : w.heap.size ≤ w'.heap.size
  block : ∀ k, k < w.heap.size → ¬ S k → w'.heap[k]? = w.heap[k]?
theorem Only.cell {S : Nat → Prop} {w w' : World} (h : Only S w w') {b o : Nat} {v : Value} (f : w.cell? ⟨b, o, none⟩ = some v) (hn : ¬ S b) : w'.cell? ⟨b, o, none⟩ = some v :=
  (World.cell?_of_block (w := w) (a := ⟨b, o, none⟩) (h.block b (lt_of f) hn)).trans f
theorem Only.below {S : Nat → Prop} {w0 w w' : World} {B : Nat} (hb : Below B w0 w) (hB : B ≤ w.heap.size) (h : Only S w w') (hn : ∀ k, S k → B ≤ k) : Below B w0 w' :=
  ⟨h.os.trans hb.os, h.tape.trans hb.tape, h.output.trans hb.output, Nat.le_trans hb.size h.size, fun k hk => (h.block k (by omega) (fun s => by have := hn k s; omega)).trans (hb.block k hk)⟩
theorem Only.of_below {S : Nat → Prop} {w w' : World} (hb : Below w.heap.size w w') : Only S w w' := ⟨hb.os, hb.tape, hb.output, hb.size, fun k hk _ => hb.block k hk⟩

/-- the reference's guard in block G. -/
structure RGuard (w : World) (G : Nat) (peers : Int) (v : Value) (l : List (Int × Nat)) : Prop where
  hp : w.cell? ⟨G, 0, none⟩ = some (.int .i64 peers)
  hl : w.cell? ⟨G, 1, none⟩ = some v
  own : w.ownsRow (G + 1) 52 2 v l.length (noteCells l)
  nil : l = [] → v = .slice none 0 0
  free : w.frozen? ⟨G, 1, none⟩ = false
theorem RGuard.form {w : World} {G : Nat} {peers : Int} {v : Value} {l : List (Int × Nat)} (r : RGuard w G peers v l) :
    ∃ a cap, v = .slice a l.length cap ∧ (0 < l.length → ∃ g, a = some ⟨g, 0, none⟩ ∧ G < g ∧ g < w.heap.size) := by
  rcases r.own.2 with ⟨rfl, h0⟩ | ⟨g, cap, cur, hv, hb, hg, _⟩
  · exact ⟨none, 0, by rw [h0], fun h => by omega⟩
  · refine ⟨_, _, hv, fun _ => ⟨g, rfl, hb, ?_⟩⟩
    rcases Nat.lt_or_ge g w.heap.size with hlt | hge
    · exact hlt
    · rw [Array.getElem?_eq_none hge] at hg; cases hg
theorem RGuard.kept {w w' : World} {G : Nat} {peers : Int} {v : Value} {l : List (Int × Nat)} (r : RGuard w G peers v l) {row : Option Nat} (h : w.grownBy w' row) (h1 : some G ≠ row) (h2 : v.ownBlock = none ∨ v.ownBlock ≠ row) : RGuard w' G peers v l :=
  ⟨(World.cell?_of_block (w := w) (a := ⟨G, 0, none⟩) (h.block G (lt_of r.hp) h1)).trans r.hp, (World.cell?_of_block (w := w) (a := ⟨G, 1, none⟩) (h.block G (lt_of r.hp) h1)).trans r.hl, r.own.kept h h2, r.nil,
    (World.frozen?_of_block (w := w) (a := ⟨G, 1, none⟩) (h.block G (lt_of r.hp) h1)).trans r.free⟩
theorem below_grown {w w' : World} (hb : Below w.heap.size w w') : w.grownBy w' none := ⟨hb.os, hb.tape, hb.output, hb.size, fun k hk _ => hb.block k hk⟩
theorem RGuard.keep {w w' : World} {G : Nat} {peers : Int} {v : Value} {l : List (Int × Nat)} (r : RGuard w G peers v l) (hb : Below w.heap.size w w') : RGuard w' G peers v l :=
  r.kept (below_grown hb) (by simp) (by cases v.ownBlock <;> simp)
/-- the row of the notes is no block that begins with something other than a peer. -/
theorem RGuard.row {w : World} {G : Nat} {peers : Int} {v : Value} {l : List (Int × Nat)} (r : RGuard w G peers v l) {q : Nat} {u : Value} (hq : w.cell? ⟨q, 0, none⟩ = some u) (hu : ∀ n, u ≠ .int .i64 n) : v.ownBlock ≠ some q := by
  intro e
  cases l with
  | nil => rw [r.nil rfl] at e; cases e
  | cons x l =>
    have := r.own.cells e 0 _ (by rfl : (noteCells (x :: l))[0]? = some (.int .i64 x.1))
    simp only [Addr.add, if_pos] at this
    rw [hq] at this
    exact hu _ (Option.some.inj this)

theorem rnew_bad (p : Int) (w : World) (h : p < 0 ∨ 8 < p) :
    Calls Try.prog 8 #[.int .i64 p] w fun e w' => e = .returned (.tuple #[.pointer none, .int .i64 1]) ∧ w = w' := by
  rcases h with h | h
  · go_enter Try.func8, Try.ntmps8
    go_wp2
    go_ret2
    exact ⟨rfl, rfl⟩
  · have h' : ¬ p < 0 := by omega
    go_enter Try.func8, Try.ntmps8
    go_wp2
    go_ret2
    exact ⟨rfl, rfl⟩

def RNewOk (p : Nat) (w : World) (e : Ending) (w' : World) : Prop :=
  e = .returned (.tuple #[.pointer (some ⟨w.heap.size, 0, none⟩), .int .i64 0]) ∧ RGuard w' w.heap.size p (.slice none 0 0) [] ∧ Below w.heap.size w w' ∧ w.heap.size < w'.heap.size

theorem rnew_ok (p : Nat) (w : World) (h : p ≤ 8) : Calls Try.prog 8 #[.int .i64 p] w (RNewOk p w) := by
  have h1 : ¬ (p : Int) < 0 := by omega
  have h2 : ¬ (8 : Int) < p := by omega
  go_enter Try.func8, Try.ntmps8
  go_wp2
  go_ret2
  exact ⟨rfl, ⟨by simp [go_sem], by simp [go_sem], World.ownsRow_nil _ _ _ _, fun _ => rfl, by simp [go_sem]⟩, by go_grown, by simp⟩

theorem rlast_any (G : Nat) (peers p : Int) (v : Value) (l : List (Int × Nat)) (w : World) (r : RGuard w G peers v l) (hl : l.length ≤ 1000) :
    Calls Try.prog 14 #[.pointer (some ⟨G, 0, none⟩), .int .i64 p] w fun e w' => e = .returned (lastR (lastOf l p)) ∧ w = w' := by
  obtain ⟨a, cap, rfl, hform⟩ := r.form
  have hc1 := r.hl
  have R := Lib.hid r
  have HF := Lib.hid hform
  clear r hform
  have hl' : (l.length : Int) ≤ 9223372036854775807 := by omega
  go_enter Try.func14, Try.ntmps14
  go_wp2_with fail
  go_loop [6, 7, 8] (fun n b i => ∃ k : Nat, k ≤ l.length ∧ i = .int .i64 k ∧ ((n = .int .u64 0 ∧ b = .bool false ∧ lastOf (l.take k) p = none) ∨ (∃ s : Nat, n = .int .u64 s ∧ b = .bool true ∧ lastOf (l.take k) p = some s))) (fun _ _ i => l.length - (intOf i).toNat)
  case atStart => exact ⟨0, Nat.zero_le _, rfl, .inl ⟨rfl, rfl, rfl⟩⟩
  case round =>
    obtain ⟨k, hk, rfl, hs⟩ := hrel
    by_cases hkl : k < l.length
    · obtain ⟨g, rfl, hg1, hg2⟩ := HF.out (by omega)
      have hg := noteCells_get l k hkl
      have hx0 := R.out.own.cellAt (k * 2) (by omega)
      have hx1 := R.out.own.cellAt (k * 2 + 1) (by omega)
      rw [hg.1] at hx0
      rw [hg.2] at hx1
      have htk := List.take_succ_eq_append_getElem hkl
      have hla := lastOf_app (l.take k) l[k] p
      rw [← htk] at hla
      generalize l[k] = x at hx0 hx1 hla
      have HL := Lib.hid hla
      have HS := Lib.hid hs
      clear hla htk hg hs
      have hkl' : (k : Int) < (l.length : Int) := by omega
      have hk0 : (0 : Int) ≤ (k : Int) := by omega
      by_cases hxp : x.1 = p
      · have hxp' : (x.1 == p) = true := beq_iff_eq.2 hxp
        rw [if_pos hxp] at HL
        clear hxp
        go_wp2_with fail
        go_round
        case rel => exact ⟨k + 1, by omega, by go_num, .inr ⟨x.2, rfl, rfl, HL.out⟩⟩
        case measure => (simp [intOf] <;> omega)
      · have hxp' : (x.1 == p) = false := beq_eq_false_iff_ne.2 hxp
        rw [if_neg hxp] at HL
        clear hxp
        go_wp2_with fail
        go_round
        case rel => exact ⟨k + 1, by omega, by go_num, by rw [HL.out]; exact HS.out⟩
        case measure => (simp [intOf] <;> omega)
    · obtain rfl : k = l.length := by omega
      rw [List.take_length] at hs
      clear hkl hk
      rcases hs with ⟨rfl, rfl, h⟩ | ⟨s, rfl, rfl, h⟩
      · have H := Lib.hid h
        clear h
        go_wp2_with fail
        go_ret2
        exact ⟨by rw [H.out]; rfl, rfl⟩
      · have H := Lib.hid h
        clear h
        go_wp2_with fail
        go_ret2
        exact ⟨by rw [H.out]; rfl, rfl⟩

def rcanE (peers : Nat) (l : List (Int × Nat)) (i : Int) (s : Nat) : Int :=
  if i < 0 ∨ (peers : Int) ≤ i then 5 else match lastOf l i with
    | none => 0
    | some n => if s ≤ n then 12 else 0

theorem rcan_any (G peers : Nat) (i : Int) (s : Nat) (v : Value) (l : List (Int × Nat)) (w : World) (r : RGuard w G peers v l) (hl : l.length ≤ 1000) :
    Calls Try.prog 10 #[.pointer (some ⟨G, 0, none⟩), .int .i64 i, .int .u64 s] w fun e w' => e = .returned (.int .i64 (rcanE peers l i s)) ∧ w = w' := by
  have hc0 := r.hp
  unfold rcanE
  by_cases h1 : i < 0
  · rw [if_pos (.inl h1)]
    clear r
    go_enter Try.func10, Try.ntmps10
    go_wp2
    go_ret
    exact ⟨rfl, rfl⟩
  · by_cases h2 : (peers : Int) ≤ i
    · rw [if_pos (.inr h2)]
      clear r
      go_enter Try.func10, Try.ntmps10
      go_wp2
      go_ret
      exact ⟨rfl, rfl⟩
    · rw [if_neg (by omega)]
      have t := fun W h => rlast_any G peers i v l W h hl
      have R := Lib.hid r
      cases hf : lastOf l i with
      | none =>
        rw [hf] at t
        have T := Lib.hid t
        clear t r hf
        go_enter Try.func10, Try.ntmps10
        go_wp2_with fail
        refine (T.out _ R.out).mono ?_
        rintro e w1 ⟨rfl, rfl⟩
        unfold lastR
        go_wp2_with fail
        go_ret
        exact ⟨rfl, rfl⟩
      | some n =>
        rw [hf] at t
        have T := Lib.hid t
        clear t r hf
        simp only []
        by_cases hs : s ≤ n
        · rw [if_pos hs]
          go_enter Try.func10, Try.ntmps10
          go_wp2_with fail
          refine (T.out _ R.out).mono ?_
          rintro e w1 ⟨rfl, rfl⟩
          unfold lastR
          go_wp2_with fail
          go_ret
          exact ⟨rfl, rfl⟩
        · rw [if_neg hs]
          go_enter Try.func10, Try.ntmps10
          go_wp2_with fail
          refine (T.out _ R.out).mono ?_
          rintro e w1 ⟨rfl, rfl⟩
          unfold lastR
          go_wp2_with fail
          go_ret
          exact ⟨rfl, rfl⟩

theorem rtake_no (G peers : Nat) (i : Int) (s : Nat) (v : Value) (l : List (Int × Nat)) (w : World) (r : RGuard w G peers v l) (hl : l.length ≤ 1000) (E : Int) (hE : rcanE peers l i s = E) (h : (E == 0) = false) :
    Calls Try.prog 12 #[.pointer (some ⟨G, 0, none⟩), .int .i64 i, .int .u64 s] w fun e w' => e = .returned (.int .i64 E) ∧ w = w' := by
  have t := fun W h => rcan_any G peers i s v l W h hl
  rw [hE] at t
  have T := Lib.hid t
  have R := Lib.hid r
  clear t r hE
  go_enter Try.func12, Try.ntmps12
  go_wp2_with fail
  refine (T.out _ R.out).mono ?_
  rintro e w1 ⟨rfl, rfl⟩
  go_wp2_with fail
  go_ret
  exact ⟨rfl, rfl⟩

theorem infoNote : (Try.prog.info? 52).map (fun i => (i.zero, i.size, i.bytes)) = some (some (.agg #[.int .i64 0, .int .u64 0]), 2, 16) := by kernel_rfl

theorem keepFA {w : World} (x : Obj) {b o : Nat} {v : Value} {z : Bool} (f : w.cell? ⟨b, o, none⟩ = some v) (g : w.frozen? ⟨b, o, none⟩ = z) : (w.alloc x).frozen? ⟨b, o, none⟩ = z := keepF ((Below.refl _ _).alloc (Nat.le_refl _) x) f g
theorem gset (w : World) (b o : Nat) (v : Value) : w.grownBy (w.setCell ⟨b, o, none⟩ v) (some b) := ⟨rfl, rfl, rfl, by simp [World.setCell], fun k hk hne => Below.heap_setCell w ⟨b, o, none⟩ v k (by rintro rfl; exact hne rfl)⟩
theorem rtake_shape {w w5 : World} {G peers : Nat} {i : Int} {s : Nat} {v : Value} {l : List (Int × Nat)} {ge cq : Nat} (r : RGuard w G peers v l)
    (hown : w5.ownsRow (G + 1) 52 2 (.slice (some ⟨ge, 0, none⟩) (l.length + 1) cq) (l.length + 1) (noteCells l ++ [.int .i64 i, .int .u64 s]))
    (hg : (w.alloc (Obj.cells #[.int .i64 i, .int .u64 s] 52)).grownBy w5 v.ownBlock) (hat : v.ownBlock = some ge ∨ ge = w.heap.size + 1) (hlt : ge < w5.heap.size) :
    RGuard (w5.setCell ⟨G, 1, none⟩ (.slice (some ⟨ge, 0, none⟩) (l.length + 1) cq)) G peers (.slice (some ⟨ge, 0, none⟩) (l.length + 1) cq) (l ++ [(i, s)]) ∧
      Only (fun k => k = G ∨ v.ownBlock = some k) w (w5.setCell ⟨G, 1, none⟩ (.slice (some ⟨ge, 0, none⟩) (l.length + 1) cq)) := by
  have hne : some G ≠ v.ownBlock := fun e => by have := (r.own.lt G e.symm).1; omega
  have lG := lt_of r.hp
  have d0 := hg.cell (keepA _ r.hp) hne
  have d1 := hg.cell (keepA _ r.hl) hne
  have y1 := (hg.frozen_far ⟨G, 1, none⟩ (by simp; omega) hne).trans (keepFA _ r.hl r.free)
  have hgG : G < ge := by
    rcases hat with e | e
    · have := (r.own.lt ge e).1; omega
    · omega
  have hge : (Value.slice (some ⟨ge, 0, none⟩) (l.length + 1) cq).ownBlock ≠ some G := by simp [Value.ownBlock]; omega
  refine ⟨⟨?_, World.cell?_setCell_same _ _ _ d1, ?_, fun h => by simp at h, by simpa using y1⟩, ⟨hg.os, hg.tape, hg.output, by have := hg.size; simp [World.setCell] at this ⊢; omega, fun k hk hn => ?_⟩⟩
  · rw [World.cell?_setCell_other _ _ _ _ (by simp)]; exact d0
  · rw [noteCells_app]
    simpa using hown.kept (gset w5 G 1 _) (.inr hge)
  · have h1 := (gset w5 G 1 (.slice (some ⟨ge, 0, none⟩) (l.length + 1) cq)).block k (by have := hg.size; simp at this; omega) (by intro e; exact hn (.inl (Option.some.inj e)))
    have h2 := hg.block k (by simp; omega) (by intro e; exact hn (.inr e.symm))
    exact (h1.trans h2).trans (((Below.refl w.heap.size w).alloc (Nat.le_refl _) _).block k hk)

def RTakeOk (G peers : Nat) (v : Value) (l : List (Int × Nat)) (w : World) (e : Ending) (w' : World) : Prop :=
  e = .returned (.int .i64 0) ∧ ∃ v', RGuard w' G peers v' l ∧ Only (fun k => k = G ∨ v.ownBlock = some k) w w'

theorem rtake_yes (G peers : Nat) (i : Int) (s : Nat) (v : Value) (l : List (Int × Nat)) (w : World) (r : RGuard w G peers v l) (hl : l.length ≤ 1000) (hE : rcanE peers l i s = 0) :
    Calls Try.prog 12 #[.pointer (some ⟨G, 0, none⟩), .int .i64 i, .int .u64 s] w (RTakeOk G peers v (l ++ [(i, s)]) w) := by
  have t := fun W h => rcan_any G peers i s v l W h hl
  rw [hE] at t
  have T := Lib.hid t
  have c0 := r.hp
  have c1 := r.hl
  have z1 := r.free
  have R := Lib.hid r
  have lG := lt_of c0
  obtain ⟨i0, hi0, hi1, hi2, hi3⟩ := info_parts infoNote
  have hne : some G ≠ v.ownBlock := fun e => by have := (r.own.lt G e.symm).1; omega
  clear t r hE
  go_enter Try.func12, Try.ntmps12
  go_wp2_with fail
  refine (T.out _ R.out).mono ?_
  rintro e w1 ⟨rfl, rfl⟩
  have HW := Lib.hid (R.out.own.alloc (Obj.cells #[.int .i64 i, .int .u64 s] 52))
  go_wp2_with (at_builtin; refine wpList_append_lies _ rfl _ _ _ rfl (G + 1) 52 i0 (.agg #[.int .i64 0, .int .u64 0]) 2 16 Try.underlying45 hi0 hi1 hi2 hi3 rfl (by decide) v l.length (noteCells l) rfl HW.out ⟨w.heap.size, 0, none⟩ 1 1 [.int .i64 i, .int .u64 s] rfl rfl (World.news_of_block (B := w.heap.size) (cs := #[.int .i64 i, .int .u64 s]) (t := 52) (fr := (0, 0)) (heap_alloc_new _ _)) (by simp [Value.oneCell']) (by omega) (by unfold maxLen; omega) (by omega) (by simp; omega) (w.heap.size + 1) (by simp) ?_; intro ge cq w5 hown5 hgrow5 hat5 hlt5; have d1 := hgrow5.cell (keepA _ c1) hne; have y1 := (hgrow5.frozen_far ⟨G, 1, none⟩ (by simp; omega) hne).trans (keepFA _ c1 z1))
  go_ret
  exact ⟨rfl, _, rtake_shape R.out hown5 hgrow5 hat5 hlt5⟩
end Go.Proofs.Ythkpidmclechdaa
