/- Same; one Alarms value and the rows that it told, as a law sees them; fixed. -/
import Derived.Test.YtjdeejbpkdgohaaK
namespace Go.Proofs.Ytjdeejbpkdgohaa
open Go.RowKit Go.Maps
set_option maxHeartbeats 2000000
set_option maxRecDepth 100000
set_option linter.unusedVariables false

/-- a slice of numbers that is read. -/
def Nums (w : World) (a : Option Addr) (L : List Nat) : Prop := ∀ k (h : k < L.length), ∃ g off, a = some ⟨g, off, none⟩ ∧ g < w.heap.size ∧ w.cell? ⟨g, off + k, none⟩ = some (.int .u64 (L[k] : Int))
theorem Nums.keep {w w' : World} {a : Option Addr} {L : List Nat} (r : Nums w a L) (hb : Below w.heap.size w w') : Nums w' a L := fun k h => by
  obtain ⟨g, off, ha, hl, c0⟩ := r k h
  exact ⟨g, off, ha, Nat.lt_of_lt_of_le hl hb.size, Ytjdeejbpkdgohaa.keep hb c0⟩
theorem Nums.lit (W : World) (t : TypeId) (L : List Nat) : Nums (W.alloc (.cells (u64s L).toArray t)) (some ⟨W.heap.size, 0, none⟩) L := by
  intro k hk
  refine ⟨W.heap.size, 0, rfl, by simp, ?_⟩
  rw [World.cell?_alloc_new]
  simp [u64s, hk]
theorem nums_of {w : World} {base : Nat} {a : Option Addr} {cap : Nat} {l : List Nat} (h : w.ownsRow base 29 1 (.slice a l.length cap) l.length (u64s l)) : Nums w a l := by
  intro k hk
  obtain ⟨a', cap', e, hf⟩ := row_form h
  injection e with e1 e2 e3
  subst e1
  obtain ⟨g, rfl, _, hl⟩ := hf (by omega)
  refine ⟨g, 0, rfl, hl, ?_⟩
  rw [Nat.zero_add]
  have e' : cap' = cap := e3.symm
  rw [h.cellAt k (by omega)]
  simp [u64s, hk]
theorem take_eq {L M : List Nat} {k : Nat} (h : L.length = M.length) (hk : k < L.length) (ht : L.take k = M.take k) : (L[k] = M[k] ↔ L.take (k + 1) = M.take (k + 1)) := by
  have hk2 : k < M.length := by omega
  have e1 := List.take_succ_eq_append_getElem hk
  have e2 := List.take_succ_eq_append_getElem hk2
  rw [e1, e2, ht]
  exact ⟨fun h => by rw [h], fun h => by have := List.append_cancel_left h; injection this⟩
theorem same_any {W : World} {a b : Option Addr} {ca cb : Nat} {L M : List Nat} (hL : Nums W a L) (hM : Nums W b M) (l1 : L.length ≤ 1000000) (l2 : M.length ≤ 1000000) :
    Calls Try.prog 14 #[.slice a L.length ca, .slice b M.length cb] W fun e w' => e = .returned (.bool (decide (L = M))) ∧ Below W.heap.size W w' := by
  by_cases hlen : L.length = M.length
  · have hne : ((L.length : Int) != (M.length : Int)) = false := by rw [hlen]; simp
    have HLEN := Lib.hid hlen
    have HL := Lib.hid hL
    have HM := Lib.hid hM
    clear hL hM hlen
    go_enter Try.func14, Try.ntmps14
    go_wp2_with fail
    go_loopw [5] (fun i wr => ∃ k : Nat, k ≤ L.length ∧ i = .int .i64 k ∧ L.take k = M.take k ∧ Below W.heap.size W wr) (fun i _ => L.length - (intOf i).toNat)
    case atStart => exact ⟨0, Nat.zero_le _, rfl, rfl, Below.refl _ _⟩
    case round =>
      obtain ⟨k, hk, rfl, ht, hB⟩ := hrel
      by_cases hkl : k < L.length
      · obtain ⟨g, off, rfl, hg, c1⟩ := (HL.out.keep hB) k hkl
        obtain ⟨g2, off2, rfl, hg2, c2⟩ := (HM.out.keep hB) k (by rw [← HLEN.out]; exact hkl)
        have hte := take_eq HLEN.out hkl ht
        have hkl' : (k : Int) < (L.length : Int) := by omega
        have hkm' : (k : Int) < (M.length : Int) := by have := HLEN.out; omega
        have hk0 : (0 : Int) ≤ (k : Int) := by omega
        have hget : L = M → L[k] = M[k]'(by rw [← HLEN.out]; exact hkl) := fun e => by subst e; rfl
        generalize L[k] = x at c1 hte hget
        generalize M[k]'(by rw [← HLEN.out]; exact hkl) = y at c2 hte hget
        by_cases hxy : x = y
        · have hq : ((x : Int) != (y : Int)) = false := by rw [hxy]; simp
          have HTE := Lib.hid (hte.1 hxy)
          clear hte hxy hget ht
          go_wp2_with fail
          go_quiet (fail)
          go_wp2_with fail
          go_roundw
          case rel => exact ⟨k + 1, by omega, by go_num, HTE.out, bdrewN hB _⟩
          case measure => (simp [intOf] <;> omega)
        · have hq : ((x : Int) != (y : Int)) = true := by simp; omega
          have HN := Lib.hid (show decide (L = M) = false by rw [decide_eq_false_iff_not]; exact fun e => hxy (hget e))
          clear hte hxy hget ht
          go_wp2_with fail
          go_quiet (fail)
          go_wp2_with fail
          go_ret
          exact ⟨by rw [HN.out]; rfl, bdrewN hB _⟩
      · obtain rfl : k = L.length := by omega
        have hLM : L = M := by
          have h2 := ht
          rw [List.take_length, HLEN.out, List.take_length] at h2
          exact h2
        have HN := Lib.hid (show decide (L = M) = true by simpa using hLM)
        clear hLM ht hkl hk
        go_wp2_with fail
        go_ret
        exact ⟨by rw [HN.out]; rfl, hB⟩
  · have hne : ((L.length : Int) != (M.length : Int)) = true := by simp; omega
    have HN := Lib.hid (show decide (L = M) = false by rw [decide_eq_false_iff_not]; exact fun e => hlen (by rw [e]))
    clear hlen
    go_enter Try.func14, Try.ntmps14
    go_wp2_with fail
    go_ret
    exact ⟨by rw [HN.out]; rfl, Below.refl _ _⟩

/-- one Alarms value at ba, with the alarms S, and rows that were told; all of it made since W0. -/
def St (W0 W : World) (ba : Nat) (S : List Al) (most : Int) (Rs : List (Value × List Nat)) : Prop :=
  ∃ F, AlarmAt W ba F S most ∧ (∀ b, F b → W0.heap.size ≤ b) ∧ Below W0.heap.size W0 W ∧ ∀ r ∈ Rs, W.ownsRow 0 29 1 r.1 r.2.length (u64s r.2) ∧ ∀ b, r.1.ownBlock = some b → ¬ F b
theorem St.below {W0 W : World} {ba : Nat} {S : List Al} {most : Int} {Rs : List (Value × List Nat)} (h : St W0 W ba S most Rs) : Below W0.heap.size W0 W := by obtain ⟨F, _, _, h, _⟩ := h; exact h
theorem owns_below {W W' : World} {base : Nat} {e : TypeId} {size : Nat} {v : Value} {n : Nat} {xs : List Value} (h : W.ownsRow base e size v n xs) (hb : Below W.heap.size W W') : W'.ownsRow base e size v n xs := row_keep h hb
theorem St.step {W0 W W' : World} {ba : Nat} {S : List Al} {most : Int} {Rs : List (Value × List Nat)} (h : St W0 W ba S most Rs) (hb : Below W.heap.size W W') : St W0 W' ba S most Rs := by
  obtain ⟨F, h1, h2, h3, h4⟩ := h
  exact ⟨F, h1.below hb, h2, below_from h3 h3.size hb, fun r hr => ⟨owns_below (h4 r hr).1 hb, (h4 r hr).2⟩⟩
theorem St.fewer {W0 W : World} {ba : Nat} {S : List Al} {most : Int} {Rs Qs : List (Value × List Nat)} (h : St W0 W ba S most Rs) (hs : ∀ r ∈ Qs, r ∈ Rs) : St W0 W ba S most Qs := by
  obtain ⟨F, h1, h2, h3, h4⟩ := h
  exact ⟨F, h1, h2, h3, fun r hr => h4 r (hs r hr)⟩
theorem St.nums {W0 W : World} {ba : Nat} {S : List Al} {most : Int} {Rs : List (Value × List Nat)} (h : St W0 W ba S most Rs) {a : Option Addr} {c : Nat} {L : List Nat} (hr : (.slice a L.length c, L) ∈ Rs) : Nums W a L := by
  obtain ⟨F, h1, h2, h3, h4⟩ := h
  exact nums_of (h4 _ hr).1
def NewSt (W0 : World) (most : Int) (e : Ending) (w' : World) : Prop := ∃ ba, e = .returned (apt ba) ∧ St W0 w' ba [] most []
theorem st_new {W0 W : World} (most : Int) (hB : Below W0.heap.size W0 W) : Calls Try.prog 9 #[.int .i64 most] W (NewSt W0 most) := by
  refine (new_al most W).mono fun e w' ⟨ba, F, he, hA, hT, hF⟩ => ⟨ba, he, F, hA, fun b hb => Nat.le_trans hB.size (hF b hb), ?_, fun r hr => by cases hr⟩
  exact below_from hB hB.size (hT.below (B := W.heap.size) (fun j h => h.elim) (Nat.le_refl _))
theorem st_turns {W0 W w' : World} {ba : Nat} {S' : List Al} {most : Int} {Rs : List (Value × List Nat)} {F : Nat → Prop} {v : Value} {e : Ending} (h2 : ∀ b, F b → W0.heap.size ≤ b) (h3 : Below W0.heap.size W0 W)
    (h4 : ∀ r ∈ Rs, W.ownsRow 0 29 1 r.1 r.2.length (u64s r.2) ∧ ∀ b, r.1.ownBlock = some b → ¬ F b) (ht : Turns W ba F S' most v e w') : e = .returned v ∧ St W0 w' ba S' most Rs := by
  obtain ⟨he, F', hA, hT, hF⟩ := ht
  refine ⟨he, F', hA, fun b hb => (hF b hb).elim (h2 b) (fun h => Nat.le_trans h3.size h), h3.trans (hT.below (B := W0.heap.size) h2 h3.size), fun r hr => ?_⟩
  obtain ⟨k1, k2⟩ := h4 r hr
  exact ⟨owns_touch k1 hT k2, fun b hb h => (hF b h).elim (k2 b hb) (fun hge => by have := (k1.lt b hb).2; omega)⟩
theorem st_put {W0 W : World} {ba : Nat} {S : List Al} {most : Int} {Rs : List (Value × List Nat)} (h : St W0 W ba S most Rs) {id t : Nat} (hid : id < 18446744073709551616) (ht : t < 18446744073709551616) (hl : S.length < 100000) :
    Calls Try.prog 10 #[apt ba, .int .u64 id, .int .u64 t] W fun e w' => e = .returned (.int .i64 (putE S most id)) ∧ St W0 w' ba (putS S most id t) most Rs := by
  obtain ⟨F, h1, h2, h3, h4⟩ := h
  exact (put_al h1 hid ht hl).mono fun e w' ht => st_turns h2 h3 h4 ht
theorem st_drop {W0 W : World} {ba : Nat} {S : List Al} {most : Int} {Rs : List (Value × List Nat)} (h : St W0 W ba S most Rs) {id : Nat} (hid : id < 18446744073709551616) (hl : S.length < 100000) :
    Calls Try.prog 12 #[apt ba, .int .u64 id] W fun e w' => e = .returned (.bool (hasS S id)) ∧ St W0 w' ba (dropS S id) most Rs := by
  obtain ⟨F, h1, h2, h3, h4⟩ := h
  exact (drop_al h1 hid hl).mono fun e w' ht => st_turns h2 h3 h4 ht
def DueSt (W0 : World) (ba : Nat) (S : List Al) (most : Int) (Rs : List (Value × List Nat)) (now : Nat) (e : Ending) (w' : World) : Prop :=
  ∃ a c, e = .returned (.slice a (idsOf (dueL S now)).length c) ∧ St W0 w' ba (restL S now) most ((.slice a (idsOf (dueL S now)).length c, idsOf (dueL S now)) :: Rs)
theorem st_due {W0 W : World} {ba : Nat} {S : List Al} {most : Int} {Rs : List (Value × List Nat)} (h : St W0 W ba S most Rs) {now : Nat} (hn : now < 18446744073709551616) (hl : S.length < 100000) :
    Calls Try.prog 15 #[apt ba, .int .u64 now] W (DueSt W0 ba S most Rs now) := by
  obtain ⟨F, h1, h2, h3, h4⟩ := h
  have hF : ∀ b, F b → b < W.heap.size := by obtain ⟨s, c, mb, H, a⟩ := h1; exact a.lt
  refine (due_al h1 hn hl hF).mono fun e w' ⟨v, he, hown, hA, hT⟩ => ?_
  obtain ⟨a, c, rfl, hf⟩ := row_form hown
  refine ⟨a, c, he, F, hA, h2, h3.trans (hT.below (B := W0.heap.size) h2 h3.size), fun r hr => ?_⟩
  rcases List.mem_cons.1 hr with rfl | hr
  · refine ⟨⟨hown.1, ?_⟩, fun b hb hFb => by have := hF b hFb; have := (hown.lt b hb).1; omega⟩
    rcases hown.2 with h | ⟨g, cap, cur, h, hb, hr⟩
    · exact .inl h
    · exact .inr ⟨g, cap, cur, h, Nat.zero_le _, hr⟩
  · exact ⟨owns_touch (h4 r hr).1 hT (h4 r hr).2, (h4 r hr).2⟩
theorem st_first {W0 W : World} {ba : Nat} {S : List Al} {most : Int} {Rs : List (Value × List Nat)} (h : St W0 W ba S most Rs) (hl : S.length ≤ 100000) : Calls Try.prog 17 #[apt ba] W fun e w' => e = .returned (.tuple #[.int .u64 (firstT S : Nat), .bool (someS S)]) ∧ W = w' := by
  obtain ⟨F, h1, h2, h3, h4⟩ := h
  exact first_al h1 hl
theorem st_len {W0 W : World} {ba : Nat} {S : List Al} {most : Int} {Rs : List (Value × List Nat)} (h : St W0 W ba S most Rs) : Calls Try.prog 19 #[apt ba] W fun e w' => e = .returned (.int .i64 (S.length : Nat)) ∧ W = w' := by
  obtain ⟨F, h1, h2, h3, h4⟩ := h
  exact len_al h1
theorem st_same {W0 W : World} {ba : Nat} {S : List Al} {most : Int} {Rs : List (Value × List Nat)} (h : St W0 W ba S most Rs) {a b : Option Addr} {ca cb : Nat} {L M : List Nat} (hL : Nums W a L) (hM : Nums W b M) (l1 : L.length ≤ 1000000) (l2 : M.length ≤ 1000000) :
    Calls Try.prog 14 #[.slice a L.length ca, .slice b M.length cb] W fun e w' => e = .returned (.bool (decide (L = M))) ∧ St W0 w' ba S most Rs ∧ Below W.heap.size W w' :=
  (same_any hL hM l1 l2).mono fun e w' ⟨he, hb⟩ => ⟨he, h.step hb, hb⟩

/-- calls at numbers that the text tells: what comes of them is reckoned ahead. -/
theorem fx_put {W0 W : World} {ba : Nat} {S S' : List Al} {most e : Int} {Rs : List (Value × List Nat)} (h : St W0 W ba S most Rs) (id t : Nat) (hid : id < 18446744073709551616) (ht : t < 18446744073709551616) (hl : S.length < 100000) (hE : putE S most id = e) (hS : putS S most id t = S') :
    Calls Try.prog 10 #[apt ba, .int .u64 id, .int .u64 t] W fun e' w' => e' = .returned (.int .i64 e) ∧ St W0 w' ba S' most Rs := by
  subst hE hS
  exact st_put h hid ht hl
theorem fx_drop {W0 W : World} {ba : Nat} {S S' : List Al} {most : Int} {z : Bool} {Rs : List (Value × List Nat)} (h : St W0 W ba S most Rs) (id : Nat) (hid : id < 18446744073709551616) (hl : S.length < 100000) (hE : hasS S id = z) (hS : dropS S id = S') :
    Calls Try.prog 12 #[apt ba, .int .u64 id] W fun e' w' => e' = .returned (.bool z) ∧ St W0 w' ba S' most Rs := by
  subst hE hS
  exact st_drop h hid hl
def DueFx (W0 : World) (ba : Nat) (S : List Al) (most : Int) (Rs : List (Value × List Nat)) (n : Nat) (L : List Nat) (e : Ending) (w' : World) : Prop :=
  ∃ a c, e = .returned (.slice a n c) ∧ St W0 w' ba S most ((.slice a n c, L) :: Rs)
theorem fx_due {W0 W : World} {ba : Nat} {S S' : List Al} {most : Int} {Rs : List (Value × List Nat)} (h : St W0 W ba S most Rs) (now : Nat) (L : List Nat) (n : Nat) (hn : now < 18446744073709551616) (hl : S.length < 100000) (hL : idsOf (dueL S now) = L) (hn2 : L.length = n) (hS : restL S now = S') :
    Calls Try.prog 15 #[apt ba, .int .u64 now] W (DueFx W0 ba S' most Rs n L) := by
  subst hL hS hn2
  exact st_due h hn hl
theorem fx_first {W0 W : World} {ba : Nat} {S : List Al} {most : Int} {Rs : List (Value × List Nat)} (h : St W0 W ba S most Rs) (hl : S.length ≤ 100000) (t : Int) (z : Bool) (h1 : (firstT S : Int) = t) (h2 : someS S = z) : Calls Try.prog 17 #[apt ba] W fun e w' => e = .returned (.tuple #[.int .u64 t, .bool z]) ∧ W = w' := by
  subst h1 h2
  exact st_first h hl
theorem fx_len {W0 W : World} {ba : Nat} {S : List Al} {most : Int} {Rs : List (Value × List Nat)} (h : St W0 W ba S most Rs) (n : Int) (hn : (S.length : Int) = n) : Calls Try.prog 19 #[apt ba] W fun e w' => e = .returned (.int .i64 n) ∧ W = w' := by
  subst hn
  exact st_len h
theorem fx_same {W0 W : World} {ba : Nat} {S : List Al} {most : Int} {Rs : List (Value × List Nat)} (h : St W0 W ba S most Rs) {a b : Option Addr} {ca cb n1 n2 : Nat} {L M : List Nat} {z : Bool} (hL : Nums W a L) (hM : Nums W b M) (l1 : L.length = n1) (l2 : M.length = n2) (q1 : n1 ≤ 1000000) (q2 : n2 ≤ 1000000) (hz : decide (L = M) = z) :
    Calls Try.prog 14 #[.slice a n1 ca, .slice b n2 cb] W fun e w' => e = .returned (.bool z) ∧ St W0 w' ba S most Rs ∧ Below W.heap.size W w' := by
  subst l1 l2 hz
  exact st_same h hL hM q1 q2
theorem fixed_any (w : World) : Calls Try.prog 20 #[] w fun e w' => e = .returned (.bool true) ∧ Below w.heap.size w w' := by
  go_enter Try.func20, Try.ntmps20
  go_wp2_with fail
  refine (st_new (W0 := w) 3 (Below.refl _ _)).mono ?_
  rintro e x0 ⟨ba, rfl, h⟩
  have H := Lib.hid h
  clear h
  unfold apt
  go_wp2_with fail
  refine (fx_put H.out 7 20 (by decide) (by decide) (by decide) (e := 0) (S' := [(7, 20)]) (by decide) (by decide)).mono ?_
  rintro e x1 ⟨rfl, h⟩
  have H := Lib.hid h
  clear h
  go_wp2_with fail
  refine (fx_put H.out 3 20 (by decide) (by decide) (by decide) (e := 0) (S' := [(3, 20), (7, 20)]) (by decide) (by decide)).mono ?_
  rintro e x2 ⟨rfl, h⟩
  have H := Lib.hid h
  clear h
  go_wp2_with fail
  refine (fx_put H.out 9 10 (by decide) (by decide) (by decide) (e := 0) (S' := [(9, 10), (3, 20), (7, 20)]) (by decide) (by decide)).mono ?_
  rintro e x3 ⟨rfl, h⟩
  have H := Lib.hid h
  clear h
  go_wp2_with fail
  refine (fx_put H.out 4 1 (by decide) (by decide) (by decide) (e := 8) (S' := [(9, 10), (3, 20), (7, 20)]) (by decide) (by decide)).mono ?_
  rintro e x4 ⟨rfl, h⟩
  have H := Lib.hid h
  clear h
  go_wp2_with fail
  refine (fx_first H.out (by decide) 10 true (by decide) rfl).mono ?_
  rintro e _ ⟨rfl, rfl⟩
  go_wp2_with fail
  refine (fx_put H.out 9 30 (by decide) (by decide) (by decide) (e := 0) (S' := [(3, 20), (7, 20), (9, 30)]) (by decide) (by decide)).mono ?_
  rintro e x5 ⟨rfl, h⟩
  have H := Lib.hid h
  clear h
  go_wp2_with fail
  refine (fx_drop H.out 3 (by decide) (by decide) (z := true) (S' := [(7, 20), (9, 30)]) (by decide) (by decide)).mono ?_
  rintro e x6 ⟨rfl, h⟩
  have H := Lib.hid h
  clear h
  go_wp2_with fail
  refine (fx_drop H.out 3 (by decide) (by decide) (z := false) (S' := [(7, 20), (9, 30)]) (by decide) (by decide)).mono ?_
  rintro e x7 ⟨rfl, h⟩
  have H := Lib.hid h
  clear h
  go_wp2_with fail
  refine (fx_put H.out 3 20 (by decide) (by decide) (by decide) (e := 0) (S' := [(3, 20), (7, 20), (9, 30)]) (by decide) (by decide)).mono ?_
  rintro e x8 ⟨rfl, h⟩
  have H := Lib.hid h
  clear h
  go_wp2_with fail
  refine (fx_due H.out 20 [3, 7] 2 (by decide) (by decide) (by decide) rfl (S' := [(9, 30)]) (by decide)).mono ?_
  rintro e x9 ⟨a1, ca1, rfl, h⟩
  have H := Lib.hid h
  clear h
  go_wp2_with fail
  refine (fx_due H.out 30 [9] 1 (by decide) (by decide) (by decide) rfl (S' := []) (by decide)).mono ?_
  rintro e x10 ⟨a2, ca2, rfl, h⟩
  have H := Lib.hid h
  clear h
  go_wp2_with fail
  refine (fx_first H.out (by decide) 0 false (by decide) rfl).mono ?_
  rintro e _ ⟨rfl, rfl⟩
  go_wp2_with fail
  refine (fx_same (z := true) (H.out.step ((Below.refl _ _).alloc (Nat.le_refl _) _)) (L := [3, 7]) (M := [3, 7]) ((H.out.nums (L := [3, 7]) (by exact List.mem_cons_of_mem _ (List.mem_cons_self ..))).keep ((Below.refl _ _).alloc (Nat.le_refl _) _)) (Nums.lit _ 29 [3, 7]) rfl rfl (by decide) (by decide) (by decide)).mono ?_
  rintro e x11 ⟨rfl, h, hb⟩
  have H := Lib.hid h
  clear h hb
  go_wp2_with fail
  refine (fx_same (z := true) (H.out.step ((Below.refl _ _).alloc (Nat.le_refl _) _)) (L := [9]) (M := [9]) ((H.out.nums (L := [9]) (by exact List.mem_cons_self ..)).keep ((Below.refl _ _).alloc (Nat.le_refl _) _)) (Nums.lit _ 29 [9]) rfl rfl (by decide) (by decide) (by decide)).mono ?_
  rintro e x12 ⟨rfl, h, hb⟩
  have H := Lib.hid h
  clear h hb
  go_wp2_with fail
  refine (fx_len H.out 0 rfl).mono ?_
  rintro e _ ⟨rfl, rfl⟩
  go_wp2_with fail
  go_ret
  exact ⟨rfl, H.out.below⟩
end Go.Proofs.Ytjdeejbpkdgohaa
