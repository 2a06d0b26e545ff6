/- The walk of AlarmMoves. -/
import Derived.Test.YtjdeejbpkdgohaaL
namespace Go.Proofs.Ytjdeejbpkdgohaa
open Go.RowKit Go.Maps
set_option maxHeartbeats 4000000
set_option maxRecDepth 100000
set_option linter.unusedVariables false

theorem mv1 {id id2 a T : Nat} (h : id ≠ id2) (hT : a < T) : putE [(id, a)] 2 id2 = 0 ∧ putS [(id, a)] 2 id2 T = [(id, a), (id2, T)] := by
  have h1 : hasS [(id, a)] id2 = false := by unfold hasS; simp [h]
  have h2 : ltA (id2, T) (id, a) = false := by rw [ltA_not]; simp; omega
  unfold putE putS
  rw [h1]
  refine ⟨rfl, ?_⟩
  have : ¬ (2 : Int) ≤ (([(id, a)] : List Al).length : Int) := by simp
  rw [if_neg (by simp), if_neg this]
  unfold putL
  rw [drop_none h1]
  unfold insA
  rw [h2]; rfl
theorem mv2 {id id2 a t T : Nat} (h : id ≠ id2) (hT : t < T) : putE [(id, a), (id2, T)] 2 id = 0 ∧ putS [(id, a), (id2, T)] 2 id t = [(id, t), (id2, T)] := by
  have h1 : hasS [(id, a), (id2, T)] id = true := by unfold hasS; simp
  have h2 : ltA (id, t) (id2, T) = true := by rw [ltA_iff]; simp; omega
  unfold putE putS
  rw [h1]
  refine ⟨rfl, ?_⟩
  rw [if_pos rfl]
  unfold putL dropS
  rw [List.filter_cons, List.filter_cons]
  simp only [bne_self_eq_false, Bool.false_eq_true, if_false, List.filter_nil]
  rw [if_pos (by simp; exact Ne.symm h)]
  unfold insA
  rw [h2]; rfl
theorem mv3 {id id2 t T n : Nat} (h : n < t) : idsOf (dueL [(id, t), (id2, T)] n) = [] ∧ restL [(id, t), (id2, T)] n = [(id, t), (id2, T)] := by
  have := due_stop (x := (id, t)) (S := [(id2, T)]) (now := n) (by simp; omega)
  exact ⟨by rw [this.1]; rfl, this.2⟩
theorem mv4 {id id2 t T n : Nat} (h : t ≤ n) (h2 : n < T) : idsOf (dueL [(id, t), (id2, T)] n) = [id] ∧ restL [(id, t), (id2, T)] n = [(id2, T)] := by
  have e1 := due_cons (x := (id, t)) (S := [(id2, T)]) (now := n) h
  have e2 := due_stop (x := (id2, T)) (S := []) (now := n) (by simp; omega)
  exact ⟨by rw [e1.1, e2.1]; rfl, by rw [e1.2, e2.2]⟩
theorem mv5 {id id2 T n : Nat} (h : id ≠ id2) : hasS [(id2, T)] id = false ∧ dropS [(id2, T)] id = [(id2, T)] := by
  have h1 : hasS [(id2, T)] id = false := by unfold hasS; simp [Ne.symm h]
  exact ⟨h1, drop_none h1⟩
theorem mv6 {id2 T n : Nat} (h : T ≤ n) : idsOf (dueL [(id2, T)] n) = [id2] ∧ restL [(id2, T)] n = [] := by
  have e1 := due_cons (x := (id2, T)) (S := []) (now := n) h
  exact ⟨by rw [e1.1]; rfl, e1.2⟩
theorem wrap_next {id : Nat} (h : id < 18446744073709551616) : ∃ id2 : Nat, IntKind.u64.wrap ((id : Int) + 1) = (id2 : Int) ∧ id2 < 18446744073709551616 ∧ id ≠ id2 := by
  by_cases e : id = 18446744073709551615
  · subst e
    exact ⟨0, by decide, by omega, by omega⟩
  · refine ⟨id + 1, ?_, by omega, by omega⟩
    have e1 : ((id + 1 : Nat) : Int) = (id : Int) + 1 := by omega
    rw [e1]
    exact IntWalk.u64_in _ (by omega)

theorem moves_core (id a t : Nat) (w : World) (hid : id < 18446744073709551616) (ha : a < 4294967296) (ht : t < 4294967296) :
    Calls Try.prog 8 #[.int .u64 id, .int .u32 a, .int .u32 t] w fun e w' => e = .returned (.bool true) ∧ Below w.heap.size w w' := by
  obtain ⟨id2, hwr, hid2, hne⟩ := wrap_next hid
  obtain ⟨T, hT⟩ : ∃ T, a + t + 1 = T := ⟨_, rfl⟩
  have htt : (a : Int) + (t : Int) + 1 = (T : Int) := by omega
  have HID := Lib.hid (And.intro hid (And.intro hid2 hne))
  have HB := Lib.hid (And.intro (show t < T by omega) (And.intro (show a < T by omega) (show T ≤ 1099511627776 by omega)))
  have HT4 := Lib.hid ht
  have ht9 : t ≤ 4294967295 := by omega
  have ha9 : a ≤ 4294967295 := by omega
  clear hid hid2 hne hT ha ht
  by_cases h0 : t = 0
  · have htp : ¬ (0 : Int) < (t : Int) := by omega
    have HT0 := Lib.hid h0
    clear h0
    go_enter Try.func8, Try.ntmps8
    go_wp2_with fail
    refine (st_new (W0 := w) 2 (Below.refl _ _)).mono ?_
    rintro e x0 ⟨ba, rfl, h⟩
    have H := Lib.hid h
    clear h
    unfold apt
    go_wp2_with fail
    refine (fx_put H.out id a HID.out.1 (by omega) (by simp) (e := 0) (S' := [(id, a)]) (by rfl) (by rfl)).mono ?_
    rintro e x1 ⟨rfl, h⟩
    have H := Lib.hid h
    clear h
    go_wp2_with fail
    refine (fx_put H.out id2 T HID.out.2.1 (by have := HB.out; omega) (by simp) (mv1 HID.out.2.2 HB.out.2.1).1 (mv1 HID.out.2.2 HB.out.2.1).2).mono ?_
    rintro e x2 ⟨rfl, h⟩
    have H := Lib.hid h
    clear h
    go_wp2_with fail
    refine (fx_put H.out id t HID.out.1 (by have := HT4.out; omega) (by simp) (mv2 HID.out.2.2 HB.out.1).1 (mv2 HID.out.2.2 HB.out.1).2).mono ?_
    rintro e x3 ⟨rfl, h⟩
    have H := Lib.hid h
    clear h
    go_wp2_with fail
    refine (fx_first H.out (by simp) t true rfl rfl).mono ?_
    rintro e _ ⟨rfl, rfl⟩
    go_wp2_with fail
    have H := Lib.hid (H.out.step ((Below.refl _ _).alloc (Nat.le_refl _) (Obj.cells #[] 29)))
    refine (fx_due H.out t [id] 1 (by have := HT4.out; omega) (by simp) (mv4 (Nat.le_refl _) HB.out.1).1 rfl (mv4 (Nat.le_refl _) HB.out.1).2).mono ?_
    rintro e x5 ⟨a1, c1, rfl, h⟩
    have H := Lib.hid h
    clear h
    go_wp2_with fail
    refine (fx_drop H.out id HID.out.1 (by simp) (mv5 (n := 0) HID.out.2.2).1 (mv5 (n := 0) HID.out.2.2).2).mono ?_
    rintro e x6 ⟨rfl, h⟩
    have H := Lib.hid h
    clear h
    go_wp2_with fail
    refine (fx_due H.out 1099511627776 [id2] 1 (by decide) (by simp) (mv6 HB.out.2.2).1 rfl (mv6 HB.out.2.2).2).mono ?_
    rintro e x7 ⟨a2, c2, rfl, h⟩
    have H := Lib.hid h
    clear h
    go_wp2_with fail
    refine (fx_same (z := true) (H.out.step ((Below.refl _ _).alloc (Nat.le_refl _) _)) (L := [id]) (M := [id]) ((H.out.nums (L := [id]) (by exact List.mem_cons_of_mem _ (List.mem_cons_self ..))).keep ((Below.refl _ _).alloc (Nat.le_refl _) _)) (Nums.lit _ 29 [id]) rfl rfl (by simp) (by simp) (by simp)).mono ?_
    rintro e x8 ⟨rfl, h, hb⟩
    have H := Lib.hid h
    clear h hb
    go_wp2_with fail
    refine (fx_same (z := true) (H.out.step ((Below.refl _ _).alloc (Nat.le_refl _) _)) (L := [id2]) (M := [id2]) ((H.out.nums (L := [id2]) (by exact List.mem_cons_self ..)).keep ((Below.refl _ _).alloc (Nat.le_refl _) _)) (Nums.lit _ 29 [id2]) rfl rfl (by simp) (by simp) (by simp)).mono ?_
    rintro e x9 ⟨rfl, h, hb⟩
    have H := Lib.hid h
    clear h hb
    go_wp2_with fail
    refine (fixed_any _).mono ?_
    rintro e x10 ⟨rfl, hb⟩
    have hB := below_from H.out.below H.out.below.size hb
    clear hb
    go_wp2
    go_ret
    exact ⟨rfl, hB⟩
  · obtain ⟨t1, hte⟩ : ∃ t1, t1 + 1 = t := ⟨t - 1, by omega⟩
    have ht1 : (t : Int) - 1 = (t1 : Int) := by omega
    have htp : (0 : Int) < (t : Int) := by omega
    have HTE := Lib.hid hte
    clear hte h0
    go_enter Try.func8, Try.ntmps8
    go_wp2_with fail
    refine (st_new (W0 := w) 2 (Below.refl _ _)).mono ?_
    rintro e x0 ⟨ba, rfl, h⟩
    have H := Lib.hid h
    clear h
    unfold apt
    go_wp2_with fail
    refine (fx_put H.out id a HID.out.1 (by omega) (by simp) (e := 0) (S' := [(id, a)]) (by rfl) (by rfl)).mono ?_
    rintro e x1 ⟨rfl, h⟩
    have H := Lib.hid h
    clear h
    go_wp2_with fail
    refine (fx_put H.out id2 T HID.out.2.1 (by have := HB.out; omega) (by simp) (mv1 HID.out.2.2 HB.out.2.1).1 (mv1 HID.out.2.2 HB.out.2.1).2).mono ?_
    rintro e x2 ⟨rfl, h⟩
    have H := Lib.hid h
    clear h
    go_wp2_with fail
    refine (fx_put H.out id t HID.out.1 (by have := HT4.out; omega) (by simp) (mv2 HID.out.2.2 HB.out.1).1 (mv2 HID.out.2.2 HB.out.1).2).mono ?_
    rintro e x3 ⟨rfl, h⟩
    have H := Lib.hid h
    clear h
    go_wp2_with fail
    refine (fx_first H.out (by simp) t true rfl rfl).mono ?_
    rintro e _ ⟨rfl, rfl⟩
    go_wp2_with fail
    have H := Lib.hid (H.out.step ((Below.refl _ _).alloc (Nat.le_refl _) (Obj.cells #[] 29)))
    refine (fx_due H.out t1 [] 0 (by have := HT4.out; have := HTE.out; omega) (by simp) (mv3 (by have := HTE.out; omega)).1 rfl (mv3 (by have := HTE.out; omega)).2).mono ?_
    rintro e x4 ⟨a0, c0, rfl, h⟩
    have H := Lib.hid h
    clear h
    go_wp2_with fail
    refine (fx_due H.out t [id] 1 (by have := HT4.out; omega) (by simp) (mv4 (Nat.le_refl _) HB.out.1).1 rfl (mv4 (Nat.le_refl _) HB.out.1).2).mono ?_
    rintro e x5 ⟨a1, c1, rfl, h⟩
    have H := Lib.hid h
    clear h
    go_wp2_with fail
    refine (fx_drop H.out id HID.out.1 (by simp) (mv5 (n := 0) HID.out.2.2).1 (mv5 (n := 0) HID.out.2.2).2).mono ?_
    rintro e x6 ⟨rfl, h⟩
    have H := Lib.hid h
    clear h
    go_wp2_with fail
    refine (fx_due H.out 1099511627776 [id2] 1 (by decide) (by simp) (mv6 HB.out.2.2).1 rfl (mv6 HB.out.2.2).2).mono ?_
    rintro e x7 ⟨a2, c2, rfl, h⟩
    have H := Lib.hid h
    clear h
    go_wp2_with fail
    refine (fx_same (z := true) (H.out.step ((Below.refl _ _).alloc (Nat.le_refl _) _)) (L := [id]) (M := [id]) ((H.out.nums (L := [id]) (by exact List.mem_cons_of_mem _ (List.mem_cons_self ..))).keep ((Below.refl _ _).alloc (Nat.le_refl _) _)) (Nums.lit _ 29 [id]) rfl rfl (by simp) (by simp) (by simp)).mono ?_
    rintro e x8 ⟨rfl, h, hb⟩
    have H := Lib.hid h
    clear h hb
    go_wp2_with fail
    refine (fx_same (z := true) (H.out.step ((Below.refl _ _).alloc (Nat.le_refl _) _)) (L := [id2]) (M := [id2]) ((H.out.nums (L := [id2]) (by exact List.mem_cons_self ..)).keep ((Below.refl _ _).alloc (Nat.le_refl _) _)) (Nums.lit _ 29 [id2]) rfl rfl (by simp) (by simp) (by simp)).mono ?_
    rintro e x9 ⟨rfl, h, hb⟩
    have H := Lib.hid h
    clear h hb
    go_wp2_with fail
    refine (fixed_any _).mono ?_
    rintro e x10 ⟨rfl, hb⟩
    have hB := below_from H.out.below H.out.below.size hb
    clear hb
    go_wp2
    go_ret
    exact ⟨rfl, hB⟩
theorem moves_int (x y z : Int) (w : World) (hx : (Lit.int .u64 x).wf = true) (hy : (Lit.int .u32 y).wf = true) (hz : (Lit.int .u32 z).wf = true) :
    Calls Try.prog 8 #[.int .u64 x, .int .u32 y, .int .u32 z] w fun e w' => e = .returned (.bool true) ∧ Below w.heap.size w w' := by
  obtain ⟨a, rfl, ha⟩ := nat_u64 hx
  obtain ⟨b, rfl, hb⟩ := nat_u32 hy
  obtain ⟨c, rfl, hc⟩ := nat_u32 hz
  exact moves_core a b c w ha hb hc
end Go.Proofs.Ytjdeejbpkdgohaa
