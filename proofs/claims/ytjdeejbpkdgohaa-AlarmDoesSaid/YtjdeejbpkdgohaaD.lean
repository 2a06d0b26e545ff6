/- The queue's Push and Pop; the heap's Fix, Push, Pop, Remove. -/
import Derived.Test.YtjdeejbpkdgohaaC
namespace Go.Proofs.Ytjdeejbpkdgohaa
open Go.RowKit
set_option maxHeartbeats 1000000
set_option maxRecDepth 100000
set_option linter.unusedVariables false

theorem infoP : (Try.prog.info? 57).map (fun i => (i.zero, i.size, i.bytes)) = some (some (.pointer none), 1, 8) := by kernel_rfl

theorem tass (a : Addr) (W : World) : (Instr.typeAssert (.iface 57 (.pointer (some a))) 20 57 true).run Try.prog W = .ok (.tuple #[.pointer (some a), .bool true]) W := by kernel_rfl
theorem row_less_one {w : World} {g n c : Nat} {xs : List Value} (h : w.ownsRow 0 57 1 (.slice (some ⟨g, 0, none⟩) (n + 1) c) (n + 1) xs) : w.ownsRow 0 57 1 (.slice (some ⟨g, 0, none⟩) n c) n xs.dropLast := by
  have hl := h.1
  rcases h.2 with ⟨h', _⟩ | ⟨g', cap', cur, h', hb, hg, hnc, hcm, hcs, htake⟩
  · simp at h'
  · simp only [Value.slice.injEq, Option.some.injEq, Addr.mk.injEq, and_true, true_and] at h'
    obtain ⟨rfl, rfl⟩ := h'
    refine ⟨by simp [hl], .inr ⟨g, c, cur, rfl, hb, hg, by omega, hcm, hcs, ?_⟩⟩
    rw [← htake]
    have hlen : (n + 1) * 1 ≤ cur.toList.length := by simp; omega
    rw [List.dropLast_eq_take, List.take_take, List.length_take]
    congr 1; omega

theorem ptrs_drop {H : List Ent} : ptrs H.dropLast = (ptrs H).dropLast := by unfold ptrs; rw [List.map_dropLast]
theorem Q.pop {W w' : World} {ba g n c : Nat} {m most : Value} {H : List Ent} (q : Q W ba (.slice (some ⟨g, 0, none⟩) (n + 1) c) m most H) (hw : w' = W.setCell ⟨ba, 0, none⟩ (.slice (some ⟨g, 0, none⟩) n c)) :
    Q w' ba (.slice (some ⟨g, 0, none⟩) n c) m most H.dropLast ∧ Touch (fun b => b = ba) W w' ∧ At w' (gt H n).b 60 (one (gt H n) n) := by
  obtain ⟨hd, row, ones, nd, sep, sep2⟩ := q
  have en : n + 1 = H.length := by
    obtain ⟨s, c2, e, _⟩ := row_form row
    injection e
  have hdl : H.dropLast.length = n := by simp; omega
  subst hw
  have hgd : ∀ j, j < n → gt H.dropLast j = gt H j := fun j hj => gt_dropLast (by omega)
  refine ⟨⟨?_, ?_, ?_, ?_, ?_, sep2⟩, (Touch.refl _ _).set _ (.inl rfl), ?_⟩
  · have := hd.set (o := 0) (v := .slice (some ⟨g, 0, none⟩) n c)
    exact this
  · rw [hdl, ptrs_drop]
    rw [← en] at row
    exact (row_less_one row).kept (gset _ ba 0 _) (.inr sep2)
  · intro i hi
    rw [hdl] at hi
    rw [hgd i hi]
    exact (ones i (by omega)).other (sep i (by omega)).1
  · intro i k hi hk he
    rw [hdl] at hi hk
    rw [hgd i hi, hgd k hk] at he
    exact nd i k (by omega) (by omega) he
  · intro i hi
    rw [hdl] at hi
    rw [hgd i hi]
    exact sep i (by omega)
  · exact (ones n (by omega)).other (sep n (by omega)).1

theorem popM_any {W : World} {ba g n c : Nat} {m most : Value} {H : List Ent} (q : Q W ba (.slice (some ⟨g, 0, none⟩) (n + 1) c) m most H) (hl : n ≤ 100000) (hc : n + 1 ≤ c) :
    Calls Try.prog 48 #[.pointer (some ⟨ba, 0, none⟩)] W fun e w' => e = .returned (.iface 57 (ptr (gt H n).b)) ∧ Q w' ba (.slice (some ⟨g, 0, none⟩) n c) m most H.dropLast ∧ Touch (fun b => b = ba) W w' ∧ At w' (gt H n).b 60 (one (gt H n) n) := by
  have en : n + 1 = H.length := by
    obtain ⟨s, c2, e, _⟩ := row_form q.row
    injection e
  have c0 : W.cell? ⟨ba, 0, none⟩ = some (.slice (some ⟨g, 0, none⟩) (n + 1) c) := by rw [q.hd.rd]; rfl
  have f0 := q.hd.fr 0
  have cl : W.cell? ⟨g, n, none⟩ = some (.pointer (some ⟨(gt H n).b, 0, none⟩)) := by
    have row := q.row
    rw [← en] at row
    rw [row.cellAt n (by omega), ptrs_get (by omega)]; rfl
  have l0 := q.hd.lt
  have lg := lt_of cl
  have HP := Lib.hid (fun w' hw => q.pop (w' := w') hw)
  have hc' : (n : Int) ≤ (c : Int) := by omega
  unfold ptr
  clear q
  have EN := Lib.hid en
  clear en
  go_enter Try.func48, Try.ntmps48
  go_wp2_with fail
  go_ret
  exact ⟨rfl, HP.out _ rfl⟩

/-- what Push leaves. -/
def PushOk (W : World) (ba : Nat) (v m most : Value) (H : List Ent) (x : Ent) (e : Ending) (w' : World) : Prop :=
  e = .returned (.tuple #[]) ∧ ∃ g c, Q w' ba (.slice (some ⟨g, 0, none⟩) (H.length + 1) c) m most (H ++ [x]) ∧ Touch (fun b => b = ba ∨ b = x.b ∨ v.ownBlock = some b) W w' ∧ (v.ownBlock = some g ∨ W.heap.size ≤ g)
theorem ptrs_app {H : List Ent} {x : Ent} : ptrs (H ++ [x]) = ptrs H ++ [ptr x.b] := by unfold ptrs; simp
theorem own_lt {W : World} {v : Value} {n : Nat} {xs : List Value} (h : W.ownsRow 0 57 1 v n xs) {j : Nat} (hj : v.ownBlock = some j) : j < W.heap.size := (h.lt j hj).2
/-- what append leaves, behind the store of the new slice. -/
theorem push_close {W w5 : World} {ba c ix g cq : Nat} {s : Option Addr} {m most : Value} {H : List Ent} {x : Ent} {o : Obj} (q : Q W ba (.slice s H.length c) m most H) (ox : At W x.b 60 (one x ix))
    (hx : x.b ≠ ba) (hxv : (Value.slice s H.length c).ownBlock ≠ some x.b) (hxn : ∀ i, i < H.length → (gt H i).b ≠ x.b)
    (hown : w5.ownsRow 0 57 1 (.slice (some ⟨g, 0, none⟩) (H.length + 1) cq) (H.length + 1) (ptrs H ++ [ptr x.b]))
    (hgrow : ((W.setCell ⟨x.b, 2, none⟩ (.int .i64 (H.length : Int))).alloc o).grownBy w5 (Value.slice s H.length c).ownBlock) (hat : (Value.slice s H.length c).ownBlock = some g ∨ g = W.heap.size + 1) :
    w5.cell? ⟨ba, 0, none⟩ = some (.slice s H.length c) ∧ w5.frozen? ⟨ba, 0, none⟩ = false ∧ ba < w5.heap.size ∧ PushOk W ba (.slice s H.length c) m most H x (.returned (.tuple #[])) (w5.setCell ⟨ba, 0, none⟩ (.slice (some ⟨g, 0, none⟩) (H.length + 1) cq)) := by
  obtain ⟨hd, row, ones, nd, sep, sep2⟩ := q
  have T1 : Touch (fun b => b = ba ∨ b = x.b ∨ (Value.slice s H.length c).ownBlock = some b) W ((W.setCell ⟨x.b, 2, none⟩ (.int .i64 (H.length : Int))).alloc o) := ((Touch.refl _ _).set _ (.inl (.inr (.inl rfl)))).alloc _
  have hd1 : At ((W.setCell ⟨x.b, 2, none⟩ (.int .i64 (H.length : Int))).alloc o) ba 56 #[.slice s H.length c, m, most] := (hd.other (Ne.symm hx)).alloc _
  have hd5 := hd1.grown hgrow (Ne.symm sep2)
  have hgne : g ≠ ba := by
    rcases hat with h | h
    · rintro rfl; exact sep2 h
    · have := hd.lt; omega
  have o1 : ∀ i, i < H.length → At ((W.setCell ⟨x.b, 2, none⟩ (.int .i64 (H.length : Int))).alloc o) (gt H i).b 60 (one (gt H i) i) := fun i hi => ((ones i hi).other (hxn i hi)).alloc _
  have ox1 : At ((W.setCell ⟨x.b, 2, none⟩ (.int .i64 (H.length : Int))).alloc o) x.b 60 (one x H.length) := (ox.set (o := 2) (v := .int .i64 (H.length : Int))).alloc _
  have o5 : ∀ i, i < H.length → At w5 (gt H i).b 60 (one (gt H i) i) := fun i hi => (o1 i hi).grown hgrow (Ne.symm (sep i hi).2)
  have ox5 := ox1.grown hgrow (Ne.symm hxv)
  have hga : ∀ i, i < H.length → (gt H i).b ≠ g := fun i hi => by
    rcases hat with h | h
    · rintro e; exact (sep i hi).2 (by rw [h, e])
    · have := (ones i hi).lt; omega
  have hgx : x.b ≠ g := by
    rcases hat with h | h
    · rintro e; exact hxv (by rw [h, e])
    · have := ox.lt; omega
  have hl : (H ++ [x]).length = H.length + 1 := by simp
  have gx : ∀ i, i < H.length → gt (H ++ [x]) i = gt H i := fun i hi => by rw [gt_app, if_pos hi]
  have gx2 : gt (H ++ [x]) H.length = x := by rw [gt_app, if_neg (by omega), if_pos rfl]
  refine ⟨by rw [hd5.rd]; rfl, hd5.fr 0, hd5.lt, rfl, g, cq, ⟨?_, ?_, ?_, ?_, ?_, ?_⟩, ?_, ?_⟩
  · exact hd5.set
  · rw [hl, ptrs_app]
    exact hown.kept (gset _ ba 0 _) (.inr (by simp [Value.ownBlock]; exact hgne))
  · intro i hi
    rw [hl] at hi
    by_cases e : i = H.length
    · subst e; rw [gx2]; exact ox5.other hx
    · rw [gx i (by omega)]; exact (o5 i (by omega)).other (sep i (by omega)).1
  · intro i k hi hk he
    rw [hl] at hi hk
    by_cases e : i = H.length
    · by_cases e2 : k = H.length
      · omega
      · rw [e, gx2, gx k (by omega)] at he
        exact absurd he.symm (hxn k (by omega))
    · by_cases e2 : k = H.length
      · rw [e2, gx2, gx i (by omega)] at he
        exact absurd he (hxn i (by omega))
      · rw [gx i (by omega), gx k (by omega)] at he
        exact nd i k (by omega) (by omega) he
  · intro i hi
    rw [hl] at hi
    by_cases e : i = H.length
    · subst e; rw [gx2]; exact ⟨hx, by simp [Value.ownBlock]; exact Ne.symm hgx⟩
    · rw [gx i (by omega)]; exact ⟨(sep i (by omega)).1, by simp [Value.ownBlock]; exact Ne.symm (hga i (by omega))⟩
  · simp [Value.ownBlock]; exact hgne
  · exact (T1.grown hgrow (fun j hj => .inl (.inr (.inr hj)))).set _ (.inl (.inl rfl))
  · rcases hat with h | h
    · exact .inl h
    · exact .inr (by omega)
theorem pushM_any {W : World} {ba n c ix : Nat} {s : Option Addr} {m most : Value} {H : List Ent} {x : Ent} (q : Q W ba (.slice s n c) m most H) (hl : H.length ≤ 100000) (ox : At W x.b 60 (one x ix))
    (hx : x.b ≠ ba) (hxv : (Value.slice s n c).ownBlock ≠ some x.b) (hxn : ∀ i, i < H.length → (gt H i).b ≠ x.b) :
    Calls Try.prog 49 #[.pointer (some ⟨ba, 0, none⟩), .iface 57 (ptr x.b)] W (PushOk W ba (.slice s n c) m most H x) := by
  obtain ⟨i0, hi0, hi1, hi2, hi3⟩ := info_parts infoP
  have en : n = H.length := by
    obtain ⟨s, c2, e, _⟩ := row_form q.row
    injection e
  subst en
  have c0 : W.cell? ⟨ba, 0, none⟩ = some (.slice s H.length c) := by rw [q.hd.rd]; rfl
  have f0 := q.hd.fr 0
  have x2 : W.cell? ⟨x.b, 2, none⟩ = some (.int .i64 (ix : Int)) := by rw [ox.rd]; rfl
  have xf := ox.fr 2
  have lx := ox.lt
  have l0 := q.hd.lt
  have HQ := Lib.hid q
  have HOX := Lib.hid ox
  have hn1 : ∀ j, (Value.slice s H.length c).ownBlock = some j → j < W.heap.size := fun j hj => (q.row.lt j hj).2
  have HN1 := Lib.hid hn1
  have HXV := Lib.hid hxv
  have HXN := Lib.hid hxn
  clear q ox hn1 hxv hxn
  unfold ptr
  have ta := tass
  go_enter Try.func49, Try.ntmps49
  have HW1 := Lib.hid ((HQ.out.row.kept (gset W x.b 2 (.int .i64 (H.length : Int))) (.inr HXV.out)).alloc (.cells #[.pointer (some ⟨x.b, 0, none⟩)] 57))
  have hxba := hx
  go_wp2_with (at_builtin; refine wpList_append_lies _ rfl _ _ _ rfl 0 57 i0 (.pointer none) 1 8 Try.underlying54 hi0 hi1 hi2 hi3 rfl (by decide) (.slice s H.length c) H.length (ptrs H) rfl HW1.out ⟨W.heap.size, 0, none⟩ 1 1 [ptr x.b] rfl rfl (World.news_of_block (B := W.heap.size) (cs := #[ptr x.b]) (t := 57) (fr := (0, 0)) (news1 (by simp [World.setCell]))) (by simp [Value.oneCell', ptr]) (by omega) (by unfold maxLen; omega) (by omega) (Nat.zero_le _) (W.heap.size + 1) (by simp) ?_; intro ge cq w5 hown5 hgrow5 hat5 hlt5; obtain ⟨k1, k2, k3, k4⟩ := push_close HQ.out HOX.out hx HXV.out HXN.out hown5 hgrow5 hat5; have K4 := Lib.hid k4; clear k4 hown5 hgrow5 hat5)
  go_end0
  exact K4.out

theorem findp {W : World} {ba f : Nat} {name : String} (hr : ((Try.prog.info? 62).bind (fun i => i.methods.find? (·.name == name))).map (fun m => (m.path, m.func)) = some (#[], some (f, true))) :
    (method 191 62 (.pointer (some ⟨ba, 0, none⟩)) name).run Try.prog W = .ok (f, .pointer (some ⟨ba, 0, none⟩)) W := meth_ptr 190 _ _ hr Try.underlying62
/-- what Fix leaves. -/
def FixOk (W : World) (ba : Nat) (v m most : Value) (H : List Ent) (e : Ending) (w' : World) : Prop :=
  e = .returned (.tuple #[]) ∧ ∃ K : List Ent, K.Perm H ∧ HeapOn K K.length ∧ Q w' ba v m most K ∧ Touch (foot v H) W w'
theorem fix_any {W : World} {ba g n c : Nat} {m most : Value} {H : List Ent} (q : Q W ba (.slice (some ⟨g, 0, none⟩) n c) m most H) {i : Nat} (hi : i < H.length) (hl : H.length ≤ 100000) (hh : HE H H.length i) :
    Calls Try.prog 21 #[hp ba, .int .i64 i] W (FixOk W ba (.slice (some ⟨g, 0, none⟩) n c) m most H) := by
  have en : n = H.length := by
    obtain ⟨s, c2, e, _⟩ := row_form q.row
    injection e
  subst en
  have hm := find q row_len
  have hah := fun W => ahead 190 ⟨ba, 0, none⟩ W row_len Try.underlying62
  have HD := Lib.hid (down_any q (i0 := i) (Nat.le_refl _) (by omega) hl hh)
  clear hh q
  unfold hp at *
  go_enter Try.func21, Try.ntmps21
  go_wp2_with fail
  refine (len_any _ _ _ _).mono ?_
  rintro e _ ⟨rfl, rfl⟩
  go_wp2_with fail
  refine HD.out.mono ?_
  rintro e w1 ⟨K, hperm, hrest, q, hT, ⟨rfl, hheap⟩ | ⟨rfl, rfl, hu⟩⟩
  · have HQ := Lib.hid q
    have HT := Lib.hid hT
    have HP := Lib.hid hperm
    have HR := Lib.hid hrest
    have HH := Lib.hid hheap
    clear q hT hperm hrest hheap hm HD
    go_wp2_with fail
    go_end0
    exact ⟨rfl, K, HP.out, by rw [HP.out.length_eq]; exact HH.out, HQ.out, HT.out⟩
  · have HU2 := Lib.hid (up_any q (Nat.le_refl _) hi hl hu)
    have HT := Lib.hid hT
    unfold hp at HU2
    clear q hT hperm hrest hm HD hu
    go_wp2_with fail
    refine HU2.out.mono ?_
    rintro e w2 ⟨rfl, K2, hperm2, hheap2, _, q2, hT2⟩
    have HQ := Lib.hid q2
    have HT2 := Lib.hid hT2
    have HP := Lib.hid hperm2
    have HH := Lib.hid hheap2
    clear q2 hT2 hperm2 hheap2 HU2
    go_wp2_with fail
    go_end0
    exact ⟨rfl, K2, HP.out, by rw [HP.out.length_eq]; exact HH.out, HQ.out, HT.out.trans HT2.out (fun _ h => .inl h)⟩

/-- what heap.Push leaves. -/
def HPushOk (W : World) (ba : Nat) (v m most : Value) (H : List Ent) (x : Ent) (e : Ending) (w' : World) : Prop :=
  e = .returned (.tuple #[]) ∧ ∃ (g c : Nat) (K : List Ent), K.Perm (H ++ [x]) ∧ HeapOn K K.length ∧ Q w' ba (.slice (some ⟨g, 0, none⟩) K.length c) m most K ∧ Touch (fun b => b = ba ∨ b = x.b ∨ foot v H b) W w' ∧ (v.ownBlock = some g ∨ W.heap.size ≤ g)
theorem hpush_any {W : World} {ba n c ix : Nat} {s : Option Addr} {m most : Value} {H : List Ent} {x : Ent} (q : Q W ba (.slice s n c) m most H) (hl : H.length < 100000) (ox : At W x.b 60 (one x ix))
    (hx : x.b ≠ ba) (hxv : (Value.slice s n c).ownBlock ≠ some x.b) (hxn : ∀ i, i < H.length → (gt H i).b ≠ x.b) (hh : HeapOn H H.length) :
    Calls Try.prog 22 #[hp ba, .iface 57 (ptr x.b)] W (HPushOk W ba (.slice s n c) m most H x) := by
  have hm := findp (W := W) (ba := ba) row_push
  have hah := fun W => ahead 190 ⟨ba, 0, none⟩ W row_push Try.underlying62
  have hah2 := fun W => ahead 190 ⟨ba, 0, none⟩ W row_len Try.underlying62
  have HP := Lib.hid (pushM_any q (by omega) ox hx hxv hxn)
  have HU0 := Lib.hid (hu_app x hh)
  clear hh q ox hxv hxn
  unfold hp ptr at *
  go_enter Try.func22, Try.ntmps22
  go_wp2_with fail
  refine HP.out.mono ?_
  rintro e w1 ⟨rfl, g, c2, q1, hT1, hg⟩
  have hm2 := find q1 row_len
  have hl1 : ((H.length + 1 : Nat) : Int) - 1 = (H.length : Int) := by omega
  have HU2 := Lib.hid (up_any q1 (j := H.length) (N := H.length + 1) (by simp) (by omega) (by simp; omega) HU0.out)
  have HT1 := Lib.hid hT1
  have HG := Lib.hid hg
  clear q1 hT1 hm HP hg
  unfold hp at HU2
  go_wp2_with fail
  refine (len_any _ _ _ _).mono ?_
  rintro e _ ⟨rfl, rfl⟩
  go_wp2_with fail
  refine HU2.out.mono ?_
  rintro e w2 ⟨rfl, K, hperm, hheap, _, q2, hT2⟩
  have HQ := Lib.hid q2
  have HT2 := Lib.hid hT2
  have HPE := Lib.hid hperm
  have HH := Lib.hid hheap
  clear q2 hT2 hperm hheap HU2
  go_wp2_with fail
  go_end0
  have hlen : K.length = H.length + 1 := by rw [HPE.out.length_eq]; simp
  refine ⟨rfl, g, c2, K, HPE.out, by rw [hlen]; exact HH.out, by rw [hlen]; exact HQ.out, (HT1.out.mono (fun b hb => ?_)).trans HT2.out (fun b hb => ?_), HG.out⟩
  · rcases hb with h | h | h
    · exact .inl h
    · exact .inr (.inl h)
    · exact .inr (.inr (.inl h))
  · rcases hb with h | ⟨y, hy, h⟩
    · rcases HG.out with h2 | h2
      · left; right; right; left; rw [h2]; exact h
      · right
        simp [Value.ownBlock] at h
        omega
    · rcases List.mem_append.1 hy with hy | hy
      · exact .inl (.inr (.inr (.inr ⟨y, hy, h⟩)))
      · simp at hy; subst hy; exact .inl (.inr (.inl h.symm))
end Go.Proofs.Ytjdeejbpkdgohaa
