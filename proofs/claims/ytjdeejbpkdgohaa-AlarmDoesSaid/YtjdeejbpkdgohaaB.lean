/- The queue's methods. -/
import Derived.Test.YtjdeejbpkdgohaaRows
import Derived.Test.YtjdeejbpkdgohaaM
import Derived.Test.YtjdeejbpkdgohaaP
import Derived.Deep.QuietTactic
import Derived.BigRegion
import Derived.RegionTactic
import Derived.ChangeAlike
namespace Go.Proofs.Ytjdeejbpkdgohaa
open Go.RowKit
set_option maxHeartbeats 1000000
set_option maxRecDepth 100000
set_option linter.unusedVariables false

theorem row_len : ((Try.prog.info? 62).bind (fun i => i.methods.find? (·.name == "Len"))).map (fun m => (m.path, m.func)) = some (#[], some (45, false)) := by kernel_rfl
theorem row_less : ((Try.prog.info? 62).bind (fun i => i.methods.find? (·.name == "Less"))).map (fun m => (m.path, m.func)) = some (#[], some (46, false)) := by kernel_rfl
theorem row_swap : ((Try.prog.info? 62).bind (fun i => i.methods.find? (·.name == "Swap"))).map (fun m => (m.path, m.func)) = some (#[], some (47, false)) := by kernel_rfl
theorem row_pop : ((Try.prog.info? 62).bind (fun i => i.methods.find? (·.name == "Pop"))).map (fun m => (m.path, m.func)) = some (#[], some (48, true)) := by kernel_rfl
theorem row_push : ((Try.prog.info? 62).bind (fun i => i.methods.find? (·.name == "Push"))).map (fun m => (m.path, m.func)) = some (#[], some (49, true)) := by kernel_rfl

theorem wrapnil (xt : Nat) (a : Addr) (s s2 : String) (W : World) : (Builtin.ssaWrapNilChk_ #[xt] xt #[.pointer (some a), strVal s, strVal s2]).run Try.prog W = .ok (.pointer (some a)) W := rfl
theorem meth_value {t e f : Nat} {name : String} (n : Nat) (a : Addr) (W : World) (v : Value) (hr : ((Try.prog.info? t).bind (fun i => i.methods.find? (·.name == name))).map (fun m => (m.path, m.func)) = some (#[], some (f, false)))
    (ht : Try.prog.underlying t = some (.pointer e)) (hl : (loadVar e a).run Try.prog W = .ok v W) : (method (n+1) t (.pointer (some a)) name).run Try.prog W = .ok (f, v) W := by
  obtain ⟨m, hm, hp⟩ := Option.map_eq_some_iff.1 hr
  obtain ⟨i, hi, hf⟩ := Option.bind_eq_some_iff.1 hm
  injection hp with h1 h2
  unfold method
  simp [typeInfo, hi, hf, h1, h2, follow, receiverAt, underlying, ht, Place.get, wrapnil, asAddr, hl, Result.andThen, Sem.run_bind]
theorem meth_ptr {t e f : Nat} {name : String} (n : Nat) (a : Addr) (W : World) (hr : ((Try.prog.info? t).bind (fun i => i.methods.find? (·.name == name))).map (fun m => (m.path, m.func)) = some (#[], some (f, true)))
    (ht : Try.prog.underlying t = some (.pointer e)) : (method (n+1) t (.pointer (some a)) name).run Try.prog W = .ok (f, .pointer (some a)) W := by
  obtain ⟨m, hm, hp⟩ := Option.map_eq_some_iff.1 hr
  obtain ⟨i, hi, hf⟩ := Option.bind_eq_some_iff.1 hm
  injection hp with h1 h2
  unfold method
  simp [typeInfo, hi, hf, h1, h2, follow, receiverAt, underlying, ht, Place.get, asAddr, Result.andThen, Sem.run_bind]
theorem ahead {t e f : Nat} {z : Bool} {name : String} (n : Nat) (a : Addr) (W : World) (hr : ((Try.prog.info? t).bind (fun i => i.methods.find? (·.name == name))).map (fun m => (m.path, m.func)) = some (#[], some (f, z)))
    (ht : Try.prog.underlying t = some (.pointer e)) : (nilAhead (n+1) t (.pointer (some a)) name).run Try.prog W = .ok (some false) W := by
  obtain ⟨m, hm, hp⟩ := Option.map_eq_some_iff.1 hr
  obtain ⟨i, hi, hf⟩ := Option.bind_eq_some_iff.1 hm
  injection hp with h1 h2
  unfold nilAhead
  cases z <;> simp [typeInfo, hi, hf, h1, h2, followBlind, underlying, ht, Result.andThen, Sem.run_bind]
theorem load54 (a : Addr) (W : World) (s : Option Addr) (l c : Nat) (h : W.cell? a = some (.slice s l c)) : (loadVar 54 a).run Try.prog W = .ok (.slice s l c) W := by
  simp [loadVar, isAgg, underlying, Try.underlying54, h, Result.andThen]

def ptr (b : Nat) : Value := .pointer (some ⟨b, 0, none⟩)
def ptrs (H : List Ent) : List Value := H.map fun x => ptr x.b
/-- an alarm as its block has it, at a place. -/
def one (x : Ent) (i : Nat) : Array Value := #[.int .u64 (x.id : Int), .int .u64 (x.time : Int), .int .i64 (i : Int)]

theorem len_any (s : Option Addr) (n c : Nat) (W : World) : Calls Try.prog 45 #[.slice s n c] W fun e w' => e = .returned (.int .i64 n) ∧ W = w' := by
  go_enter Try.func45, Try.ntmps45
  go_wp2_with fail
  go_ret
  exact ⟨rfl, rfl⟩

theorem drewN_two (W : World) (a b : Nat) : (W.drewN a).drewN b = W.drewN (a + b) := by simp [World.drewN, Nat.add_assoc]
theorem less_any (g n c i k : Nat) (x y : Ent) (ix iy : Nat) (W : World) (hi : i < n) (hk : k < n) (hn : n ≤ 100000)
    (ci : W.cell? ⟨g, i, none⟩ = some (ptr x.b)) (ck : W.cell? ⟨g, k, none⟩ = some (ptr y.b)) (ox : At W x.b 60 (one x ix)) (oy : At W y.b 60 (one y iy)) :
    Calls Try.prog 46 #[.slice (some ⟨g, 0, none⟩) n c, .int .i64 i, .int .i64 k] W fun e w' => e = .returned (.bool (ltB x y)) ∧ ∃ m, w' = W.drewN m := by
  unfold ptr at ci ck
  have x0 : W.cell? ⟨x.b, 0, none⟩ = some (.int .u64 (x.id : Int)) := by rw [ox.rd]; rfl
  have x1 : W.cell? ⟨x.b, 1, none⟩ = some (.int .u64 (x.time : Int)) := by rw [ox.rd]; rfl
  have y0 : W.cell? ⟨y.b, 0, none⟩ = some (.int .u64 (y.id : Int)) := by rw [oy.rd]; rfl
  have y1 : W.cell? ⟨y.b, 1, none⟩ = some (.int .u64 (y.time : Int)) := by rw [oy.rd]; rfl
  have hi' : (i : Int) < (n : Int) := by omega
  have hk' : (k : Int) < (n : Int) := by omega
  have hi0 : (0 : Int) ≤ (i : Int) := by omega
  have hk0 : (0 : Int) ≤ (k : Int) := by omega
  clear ox oy
  unfold ltB ltA Ent.key
  by_cases he : x.time = y.time
  · have he' : (((x.time : Nat) : Int) != ((y.time : Nat) : Int)) = false := by rw [he]; simp
    rw [if_pos he]
    have HE := Lib.hid he
    clear he
    go_enter Try.func46, Try.ntmps46
    go_wp2_with fail
    go_quiet (fail)
    go_wp2_with fail
    go_quiet (fail)
    go_wp2_with fail
    go_ret
    exact ⟨ret_bool (by simp), _, drewN_two _ _ _⟩
  · have he' : (((x.time : Nat) : Int) != ((y.time : Nat) : Int)) = true := by simp; omega
    rw [if_neg he]
    clear he
    go_enter Try.func46, Try.ntmps46
    go_wp2_with fail
    go_quiet (fail)
    go_wp2_with fail
    go_quiet (fail)
    go_wp2_with fail
    go_ret
    exact ⟨ret_bool (by simp), _, drewN_two _ _ _⟩

def swapRow (W : World) (g i k : Nat) (x y : Nat) : World := (W.setCell ⟨g, i, none⟩ (ptr y)).setCell ⟨g, k, none⟩ (ptr x)
def swapW (W : World) (g i k : Nat) (x y : Nat) : World := ((((swapRow W g i k x y).drew).setCell ⟨y, 2, none⟩ (.int .i64 (i : Int))).setCell ⟨x, 2, none⟩ (.int .i64 (k : Int))).drew
theorem cell_set {W : World} {p : Addr} {v u : Value} (h : W.cell? p = some v) : (W.setCell p u).cell? p = some u := World.cell?_setCell_same _ _ _ h
theorem cell_far {W : World} {p q : Addr} {v u : Value} (h : W.cell? p = some v) (hn : q ≠ p) : (W.setCell q u).cell? p = some v := by
  rw [World.cell?_setCell_other _ _ _ _ hn]; exact h
theorem swap_any (g n c i k : Nat) (x y : Ent) (ix iy : Nat) (W : World) (hi : i < n) (hk : k < n) (hn : n ≤ 100000) (hik : i ≠ k) (hxy : x.b ≠ y.b) (hgx : x.b ≠ g) (hgy : y.b ≠ g)
    (ci : W.cell? ⟨g, i, none⟩ = some (ptr x.b)) (ck : W.cell? ⟨g, k, none⟩ = some (ptr y.b)) (fi : W.frozen? ⟨g, i, none⟩ = false) (fk : W.frozen? ⟨g, k, none⟩ = false) (ox : At W x.b 60 (one x ix)) (oy : At W y.b 60 (one y iy)) :
    Calls Try.prog 47 #[.slice (some ⟨g, 0, none⟩) n c, .int .i64 i, .int .i64 k] W fun e w' => e = .returned (.tuple #[]) ∧ w' = swapW W g i k x.b y.b := by
  have c1 : (swapRow W g i k x.b y.b).drew.cell? ⟨g, i, none⟩ = some (ptr y.b) := by
    show ((W.setCell ⟨g, i, none⟩ (ptr y.b)).setCell ⟨g, k, none⟩ (ptr x.b)).cell? ⟨g, i, none⟩ = _
    exact cell_far (cell_set ci) (fun e => hik (by injection e with _ e; exact e.symm))
  have c2 : (swapRow W g i k x.b y.b).drew.cell? ⟨g, k, none⟩ = some (ptr x.b) := by
    show ((W.setCell ⟨g, i, none⟩ (ptr y.b)).setCell ⟨g, k, none⟩ (ptr x.b)).cell? ⟨g, k, none⟩ = _
    exact cell_set (cell_far ck (fun e => hik (by injection e with _ e)))
  have ox1 : At (swapRow W g i k x.b y.b).drew x.b 60 (one x ix) := ((ox.other hgx).other hgx)
  have oy1 : At (swapRow W g i k x.b y.b).drew y.b 60 (one y iy) := ((oy.other hgy).other hgy)
  have lg1 : g < (swapRow W g i k x.b y.b).drew.heap.size := lt_of c1
  have x2 : (swapRow W g i k x.b y.b).drew.cell? ⟨x.b, 2, none⟩ = some (.int .i64 (ix : Int)) := by rw [ox1.rd]; rfl
  have y2 : (swapRow W g i k x.b y.b).drew.cell? ⟨y.b, 2, none⟩ = some (.int .i64 (iy : Int)) := by rw [oy1.rd]; rfl
  have xf := ox1.fr 2
  have yf := oy1.fr 2
  have lx := ox1.lt
  have ly := oy1.lt
  have hW1 : ((W.setCell ⟨g, i, none⟩ (ptr y.b)).setCell ⟨g, k, none⟩ (ptr x.b)).drew = (swapRow W g i k x.b y.b).drew := rfl
  unfold swapW
  generalize (swapRow W g i k x.b y.b).drew = W1 at c1 c2 x2 y2 xf yf hW1 lx ly lg1 ⊢
  have HF := Lib.hid (And.intro (And.intro c1 c2) (And.intro (And.intro x2 y2) (And.intro (And.intro xf yf) (And.intro lg1 (And.intro lx ly)))))
  have HW := Lib.hid hW1
  clear c1 c2 x2 y2 xf yf hW1 ox1 oy1 ox oy lx ly lg1
  unfold ptr at ci ck HW
  have hi' : (i : Int) < (n : Int) := by omega
  have hk' : (k : Int) < (n : Int) := by omega
  have hi0 : (0 : Int) ≤ (i : Int) := by omega
  have hk0 : (0 : Int) ≤ (k : Int) := by omega
  have lg := lt_of ci
  go_enter Try.func47, Try.ntmps47
  go_wp2_with fail
  go_region
  rw [HW.out]
  clear ci ck fi fk lg
  obtain ⟨⟨c1, c2⟩, ⟨x2, y2⟩, ⟨xf, yf⟩, lg1, lx, ly⟩ := HF.out
  unfold ptr at c1 c2
  go_wp2_with fail
  go_region
  go_wp2_with fail
  go_end0
  exact ⟨rfl, rfl⟩
theorem swap_self (g n c i : Nat) (x : Ent) (ix : Nat) (W : World) (hi : i < n) (hn : n ≤ 100000) (hgx : x.b ≠ g)
    (ci : W.cell? ⟨g, i, none⟩ = some (ptr x.b)) (fi : W.frozen? ⟨g, i, none⟩ = false) (ox : At W x.b 60 (one x ix)) :
    Calls Try.prog 47 #[.slice (some ⟨g, 0, none⟩) n c, .int .i64 i, .int .i64 i] W fun e w' => e = .returned (.tuple #[]) ∧ w' = swapW W g i i x.b x.b := by
  have c1 : (swapRow W g i i x.b x.b).drew.cell? ⟨g, i, none⟩ = some (ptr x.b) := by
    show ((W.setCell ⟨g, i, none⟩ (ptr x.b)).setCell ⟨g, i, none⟩ (ptr x.b)).cell? ⟨g, i, none⟩ = _
    exact cell_set (cell_set ci)
  have ox1 : At (swapRow W g i i x.b x.b).drew x.b 60 (one x ix) := ((ox.other hgx).other hgx)
  have lg1 : g < (swapRow W g i i x.b x.b).drew.heap.size := lt_of c1
  have x2 : (swapRow W g i i x.b x.b).drew.cell? ⟨x.b, 2, none⟩ = some (.int .i64 (ix : Int)) := by rw [ox1.rd]; rfl
  have xf := ox1.fr 2
  have lx := ox1.lt
  have hW1 : ((W.setCell ⟨g, i, none⟩ (ptr x.b)).setCell ⟨g, i, none⟩ (ptr x.b)).drew = (swapRow W g i i x.b x.b).drew := rfl
  unfold swapW
  generalize (swapRow W g i i x.b x.b).drew = W1 at c1 x2 xf hW1 lx lg1 ⊢
  have HF := Lib.hid (And.intro c1 (And.intro x2 (And.intro xf (And.intro lg1 lx))))
  have HW := Lib.hid hW1
  clear c1 x2 xf hW1 ox1 ox lx lg1
  unfold ptr at ci HW
  have hi' : (i : Int) < (n : Int) := by omega
  have hi0 : (0 : Int) ≤ (i : Int) := by omega
  have lg := lt_of ci
  go_enter Try.func47, Try.ntmps47
  go_wp2_with fail
  go_region
  rw [HW.out]
  clear ci fi lg
  obtain ⟨c1, x2, xf, lg1, lx⟩ := HF.out
  unfold ptr at c1
  go_wp2_with fail
  go_region
  go_wp2_with fail
  go_end0
  exact ⟨rfl, rfl⟩

/-! What becomes of the world: only the blocks of a set change. -/
structure Touch (T : Nat → Prop) (w w' : World) : Prop where
  os : w'.os = w.os
  tape : w'.tape = w.tape
  output : w'.output = w.output
  size : w.heap.size ≤ w'.heap.size
  block : ∀ k, k < w.heap.size → ¬ T k → w'.heap[k]? = w.heap[k]?
theorem Touch.refl (T : Nat → Prop) (w : World) : Touch T w w := ⟨rfl, rfl, rfl, Nat.le_refl _, fun _ _ _ => rfl⟩
theorem Touch.trans {T T2 : Nat → Prop} {a b c : World} (h : Touch T a b) (k : Touch T2 b c) (hT : ∀ j, T2 j → T j ∨ a.heap.size ≤ j) : Touch T a c :=
  ⟨k.os.trans h.os, k.tape.trans h.tape, k.output.trans h.output, Nat.le_trans h.size k.size, fun j hj hn => (k.block j (Nat.lt_of_lt_of_le hj h.size) (fun h2 => (hT j h2).elim hn (by omega))).trans (h.block j hj hn)⟩
theorem Touch.mono {T T2 : Nat → Prop} {a b : World} (h : Touch T a b) (hT : ∀ j, T j → T2 j) : Touch T2 a b := ⟨h.os, h.tape, h.output, h.size, fun j hj hn => h.block j hj (fun h2 => hn (hT j h2))⟩
theorem Touch.drewN {T : Nat → Prop} {a b : World} (h : Touch T a b) (n : Nat) : Touch T a (b.drewN n) := ⟨h.os, h.tape, h.output, h.size, h.block⟩
theorem Touch.drew {T : Nat → Prop} {a b : World} (h : Touch T a b) : Touch T a b.drew := ⟨h.os, h.tape, h.output, h.size, h.block⟩
theorem Touch.set {T : Nat → Prop} {a b : World} (h : Touch T a b) {g o : Nat} (v : Value) (hT : T g ∨ a.heap.size ≤ g) : Touch T a (b.setCell ⟨g, o, none⟩ v) :=
  ⟨h.os, h.tape, h.output, by simpa [World.setCell] using h.size, fun j hj hn => (Below.heap_setCell b ⟨g, o, none⟩ v j (by rintro rfl; exact hT.elim hn (by omega))).trans (h.block j hj hn)⟩
theorem Touch.alloc {T : Nat → Prop} {a b : World} (h : Touch T a b) (o : Obj) : Touch T a (b.alloc o) :=
  ⟨h.os, h.tape, h.output, Nat.le_trans h.size (by simp), fun j hj hn => (((Below.refl b.heap.size b).alloc (Nat.le_refl _) o).block j (Nat.lt_of_lt_of_le hj h.size)).trans (h.block j hj hn)⟩
theorem Touch.below {T : Nat → Prop} {a b : World} (h : Touch T a b) {B : Nat} (hB : ∀ j, T j → B ≤ j) (hs : B ≤ a.heap.size) : Below B a b := ⟨h.os, h.tape, h.output, h.size, fun k hk => h.block k (by omega) (fun h2 => by have := hB k h2; omega)⟩
theorem Touch.grown {T : Nat → Prop} {a b c : World} {row : Option Nat} (h : Touch T a b) (k : b.grownBy c row) (hr : ∀ j, row = some j → T j ∨ a.heap.size ≤ j) : Touch T a c :=
  ⟨k.os.trans h.os, k.tape.trans h.tape, k.output.trans h.output, Nat.le_trans h.size k.size, fun j hj hn => (k.block j (Nat.lt_of_lt_of_le hj h.size) (fun e => (hr j e.symm).elim hn (by omega))).trans (h.block j hj hn)⟩
theorem At.touch {T : Nat → Prop} {W W' : World} {b : Nat} {t : TypeId} {C : Array Value} (h : At W b t C) (k : Touch T W W') (hn : ¬ T b) : At W' b t C := (k.block b h.lt hn).trans h

/-- the queue: its slice v, its alarms in their places. -/
structure Q (W : World) (ba : Nat) (v m most : Value) (H : List Ent) : Prop where
  hd : At W ba 56 #[v, m, most]
  row : W.ownsRow 0 57 1 v H.length (ptrs H)
  ones : ∀ i, i < H.length → At W (gt H i).b 60 (one (gt H i) i)
  nd : ∀ i k, i < H.length → k < H.length → (gt H i).b = (gt H k).b → i = k
  sep : ∀ i, i < H.length → (gt H i).b ≠ ba ∧ v.ownBlock ≠ some (gt H i).b
  sep2 : v.ownBlock ≠ some ba
/-- the blocks that a change of the order writes. -/
def foot (v : Value) (H : List Ent) (b : Nat) : Prop := v.ownBlock = some b ∨ ∃ x ∈ H, x.b = b
theorem foot_perm {v : Value} {H K : List Ent} (h : H.Perm K) (b : Nat) : foot v H b ↔ foot v K b := by
  unfold foot
  constructor
  · rintro (h1 | ⟨x, hx, e⟩)
    · exact .inl h1
    · exact .inr ⟨x, h.mem_iff.1 hx, e⟩
  · rintro (h1 | ⟨x, hx, e⟩)
    · exact .inl h1
    · exact .inr ⟨x, h.mem_iff.2 hx, e⟩
theorem foot_gt {v : Value} {H : List Ent} {i : Nat} (h : i < H.length) : foot v H (gt H i).b := .inr ⟨_, gt_mem h, rfl⟩
theorem ptrs_get {H : List Ent} {i : Nat} (h : i < H.length) : (ptrs H)[i]? = some (ptr (gt H i).b) := by
  unfold ptrs; rw [gt_lt h]; simp [h]
theorem ptrs_swp {H : List Ent} {i k : Nat} : ptrs (swp H i k) = ((ptrs H).set i (ptr (gt H k).b)).set k (ptr (gt H i).b) := by
  unfold ptrs swp; rw [List.map_set, List.map_set]
theorem Q.form {W : World} {ba : Nat} {v m most : Value} {H : List Ent} (q : Q W ba v m most H) : ∃ s c, v = .slice s H.length c ∧ (0 < H.length → ∃ g, s = some ⟨g, 0, none⟩ ∧ g < W.heap.size) := by
  obtain ⟨s, c, e, h⟩ := row_form q.row
  exact ⟨s, c, e, fun h0 => by obtain ⟨g, h1, _, h3⟩ := h h0; exact ⟨g, h1, h3⟩⟩
theorem Q.drewN {W : World} {ba : Nat} {v m most : Value} {H : List Ent} (q : Q W ba v m most H) (n : Nat) : Q (W.drewN n) ba v m most H := ⟨q.hd, q.row, q.ones, q.nd, q.sep, q.sep2⟩
theorem one_set {x : Ent} {i k : Nat} : (one x i).setIfInBounds 2 (.int .i64 (k : Int)) = one x k := rfl
theorem Q.swap {W : World} {ba g n c : Nat} {m most : Value} {H : List Ent} (q : Q W ba (.slice (some ⟨g, 0, none⟩) n c) m most H) {i k : Nat} (hi : i < H.length) (hk : k < H.length) :
    Q (swapW W g i k (gt H i).b (gt H k).b) ba (.slice (some ⟨g, 0, none⟩) n c) m most (swp H i k) ∧ Touch (foot (.slice (some ⟨g, 0, none⟩) n c) H) W (swapW W g i k (gt H i).b (gt H k).b) := by
  obtain ⟨hd, row, ones, nd, sep, sep2⟩ := q
  have hgb : ba ≠ g := fun e => sep2 (by rw [e]; rfl)
  have hg : ∀ j, j < H.length → (gt H j).b ≠ g := fun j hj e => (sep j hj).2 (by rw [e]; rfl)
  have en : n = H.length := by
    obtain ⟨s, c2, e, _⟩ := row_form row
    injection e
  subst en
  have r1 := ((row.stored i (ptr (gt H k).b)).1.stored k (ptr (gt H i).b)).1
  have hlen : (swp H i k).length = H.length := swp_len _ _ _
  refine ⟨⟨?_, ?_, ?_, ?_, ?_, sep2⟩, ?_⟩
  · exact ((((hd.other hgb).other hgb) : At (swapRow W g i k (gt H i).b (gt H k).b).drew ba 56 _).other (fun e => (sep k hk).1 e.symm)).other (fun e => (sep i hi).1 e.symm)
  · rw [hlen, ptrs_swp]
    have r2 : (swapRow W g i k (gt H i).b (gt H k).b).drew.ownsRow 0 57 1 (.slice (some ⟨g, 0, none⟩) H.length c) H.length (((ptrs H).set i (ptr (gt H k).b)).set k (ptr (gt H i).b)) := r1
    have n1 : (Value.slice (some ⟨g, 0, none⟩) H.length c).ownBlock ≠ some (gt H k).b := (sep k hk).2
    have n2 : (Value.slice (some ⟨g, 0, none⟩) H.length c).ownBlock ≠ some (gt H i).b := (sep i hi).2
    have r3 := r2.kept (gset _ (gt H k).b 2 (.int .i64 (i : Int))) (.inr n1)
    have r4 := r3.kept (gset _ (gt H i).b 2 (.int .i64 (k : Int))) (.inr n2)
    exact r4
  · intro j hj
    rw [hlen] at hj
    have g0 := gt_swp hi hk j
    have o1 : ∀ t, t < H.length → At (swapRow W g i k (gt H i).b (gt H k).b).drew (gt H t).b 60 (one (gt H t) t) := fun t ht => ((ones t ht).other (hg t ht)).other (hg t ht)
    rw [g0]
    by_cases hjk : j = k
    · rw [if_pos hjk]
      subst hjk
      by_cases hij : i = j
      · subst hij
        exact ((o1 i hi).set).set
      · have hne : (gt H i).b ≠ (gt H j).b := fun e => hij (nd i j hi hj e)
        exact ((o1 i hi).other hne).set
    · rw [if_neg hjk]
      by_cases hji : j = i
      · rw [if_pos hji]
        subst hji
        have hne : (gt H k).b ≠ (gt H j).b := fun e => hjk (nd k j hk hj e).symm
        exact ((o1 k hk).set).other hne
      · rw [if_neg hji]
        have n1 : (gt H j).b ≠ (gt H k).b := fun e => hjk (nd j k hj hk e)
        have n2 : (gt H j).b ≠ (gt H i).b := fun e => hji (nd j i hj hi e)
        exact ((o1 j hj).other n1).other n2
  · intro a b ha hb he
    rw [hlen] at ha hb
    rw [gt_swp hi hk, gt_swp hi hk] at he
    have f : ∀ t, t < H.length → ∃ s, s < H.length ∧ (if t = k then gt H i else if t = i then gt H k else gt H t) = gt H s ∧ (s = if t = k then i else if t = i then k else t) := fun t ht => by
      split
      · exact ⟨i, hi, rfl, rfl⟩
      · split
        · exact ⟨k, hk, rfl, rfl⟩
        · exact ⟨t, ht, rfl, rfl⟩
    obtain ⟨s1, l1, e1, d1⟩ := f a ha
    obtain ⟨s2, l2, e2, d2⟩ := f b hb
    rw [e1, e2] at he
    have := nd s1 s2 l1 l2 he
    clear e1 e2 he f l1 l2
    by_cases a1 : a = k
    · by_cases b1 : b = k
      · omega
      · rw [if_neg b1] at d2
        rw [if_pos a1] at d1
        by_cases b2 : b = i
        · rw [if_pos b2] at d2; omega
        · rw [if_neg b2] at d2; omega
    · rw [if_neg a1] at d1
      by_cases a2 : a = i
      · rw [if_pos a2] at d1
        by_cases b1 : b = k
        · rw [if_pos b1] at d2; omega
        · rw [if_neg b1] at d2
          by_cases b2 : b = i
          · omega
          · rw [if_neg b2] at d2; omega
      · rw [if_neg a2] at d1
        by_cases b1 : b = k
        · rw [if_pos b1] at d2; omega
        · rw [if_neg b1] at d2
          by_cases b2 : b = i
          · rw [if_pos b2] at d2; omega
          · rw [if_neg b2] at d2; omega
  · intro j hj
    rw [hlen] at hj
    rw [gt_swp hi hk]
    split
    · exact sep i hi
    · split
      · exact sep k hk
      · exact sep j hj
  · have t1 : Touch (foot (.slice (some ⟨g, 0, none⟩) H.length c) H) W (swapRow W g i k (gt H i).b (gt H k).b) := ((Touch.refl _ _).set _ (.inl (.inl rfl))).set _ (.inl (.inl rfl))
    exact ((t1.drew.set _ (.inl (foot_gt hk))).set _ (.inl (foot_gt hi))).drew
end Go.Proofs.Ytjdeejbpkdgohaa
