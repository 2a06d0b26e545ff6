/- The heap's Pop and Remove. -/
import Derived.Test.YtjdeejbpkdgohaaD
namespace Go.Proofs.Ytjdeejbpkdgohaa
open Go.RowKit
set_option maxHeartbeats 1000000
set_option maxRecDepth 100000
set_option linter.unusedVariables false

/-- what Pop and Remove leave: x is gone. -/
def RemOk (W : World) (ba g c : Nat) (m most : Value) (H : List Ent) (x : Ent) (e : Ending) (w' : World) : Prop :=
  e = .returned (.iface 57 (ptr x.b)) ∧ ∃ K : List Ent, (x :: K).Perm H ∧ HeapOn K K.length ∧ Q w' ba (.slice (some ⟨g, 0, none⟩) K.length c) m most K ∧ Touch (fun b => b = ba ∨ foot (.slice (some ⟨g, 0, none⟩) H.length c) H b) W w' ∧ ∃ p, At w' x.b 60 (one x p)
theorem rem_close {W w1 w2 : World} {ba g c n : Nat} {m most : Value} {H K : List Ent} {x : Ent} {e : Ending} (en : n + 1 = H.length) (hp : K.Perm H) (hx : gt K n = x) (hh : HeapOn K n)
    (hT : Touch (foot (.slice (some ⟨g, 0, none⟩) H.length c) H) W w1)
    (h : e = .returned (.iface 57 (ptr (gt K n).b)) ∧ Q w2 ba (.slice (some ⟨g, 0, none⟩) n c) m most K.dropLast ∧ Touch (fun b => b = ba) w1 w2 ∧ At w2 (gt K n).b 60 (one (gt K n) n)) : RemOk W ba g c m most H x e w2 := by
  obtain ⟨he, q2, hT2, ho⟩ := h
  have hlen := hp.length_eq
  have hdl : K.dropLast.length = n := by simp; omega
  have hpl := perm_last (H := K) (by omega)
  rw [show K.length - 1 = n by omega, hx] at hpl
  rw [hx] at he ho
  refine ⟨he, K.dropLast, hpl.trans hp, ?_, by rw [hdl]; exact q2, (hT.mono (fun b hb => .inr hb)).trans hT2 (fun b hb => .inl (.inl hb)), n, ho⟩
  rw [hdl]
  exact heap_same hh (fun k hk => gt_dropLast (by omega))

theorem hpop_any {W : World} {ba g n c : Nat} {m most : Value} {H : List Ent} (q : Q W ba (.slice (some ⟨g, 0, none⟩) (n + 1) c) m most H) (hl : H.length ≤ 100000) (hc : n + 1 ≤ c) (hh : HeapOn H H.length) :
    Calls Try.prog 25 #[hp ba] W (RemOk W ba g c m most H (gt H 0)) := by
  have en : n + 1 = H.length := by
    obtain ⟨s, c2, e, _⟩ := row_form q.row
    injection e
  have hm := find q row_len
  have hms := find q row_swap
  have hah := fun W => ahead 190 ⟨ba, 0, none⟩ W row_len Try.underlying62
  have hah2 := fun W => ahead 190 ⟨ba, 0, none⟩ W row_swap Try.underlying62
  have hah3 := fun W => ahead 190 ⟨ba, 0, none⟩ W row_pop Try.underlying62
  have hmp := fun W => findp (W := W) (ba := ba) row_pop
  have hn1 : ((n + 1 : Nat) : Int) - 1 = (n : Int) := by omega
  have HSW := Lib.hid (swap_q q (i := 0) (k := n) (by omega) (by omega) hl)
  have gsw := gt_swp (H := H) (i := 0) (k := n) (by omega) (by omega)
  have HHE := Lib.hid (he_of (H' := swp H 0 n) (n := n) (i := 0) hh (by omega) (by omega) (fun k hk k0 => by rw [gsw, if_neg (by omega), if_neg k0]))
  have HGN := Lib.hid (show gt (swp H 0 n) n = gt H 0 by rw [gsw, if_pos rfl])
  have HPW := Lib.hid (swp_perm (H := H) (i := 0) (k := n) (by omega) (by omega))
  have EN := Lib.hid en
  have hn9 : n ≤ 100000 := by omega
  clear q hh gsw en
  unfold hp at *
  go_enter Try.func25, Try.ntmps25
  go_wp2_with fail
  refine (len_any _ _ _ _).mono ?_
  rintro e _ ⟨rfl, rfl⟩
  go_wp2_with fail
  refine HSW.out.mono ?_
  rintro e w1 ⟨rfl, q1, hT1⟩
  have HD := Lib.hid (down_any q1 (i0 := 0) (N := n) (by rw [swp_len, ← EN.out]; omega) (by omega) (by rw [swp_len]; exact hl) HHE.out)
  have HT1 := Lib.hid hT1
  unfold hp at HD
  clear q1 hT1 hm hms HSW
  go_wp2_with fail
  refine HD.out.mono ?_
  rintro e w2 ⟨K, hperm, hrest, q2, hT2, hcase⟩
  have hheap : HeapOn K n := by
    rcases hcase with ⟨_, h⟩ | ⟨_, rfl, hu⟩
    · exact h
    · exact up_end hu (.inl rfl)
  have HK := Lib.hid (And.intro (hperm.trans HPW.out) (And.intro (show gt K n = gt H 0 by rw [hrest n (Nat.le_refl _)]; exact HGN.out) hheap))
  have HT2 := Lib.hid (HT1.out.trans hT2 (fun b hb => .inl ((foot_perm HPW.out b).1 hb)))
  have HPO := Lib.hid (popM_any q2 hn9 hc)
  rcases hcase with ⟨rfl, hz⟩ | ⟨rfl, hz⟩
  all_goals
    clear hz hperm hrest q2 hT2 hheap HD
    go_wp2_with fail
    refine HPO.out.mono ?_
    intro e w3 h3
    have he := h3.1
    have H3 := Lib.hid (rem_close EN.out HK.out.1 HK.out.2.1 HK.out.2.2 (by have := HT2.out; rw [← EN.out]; exact this) h3)
    subst he
    clear h3 HPO
    go_wp2_with fail
    go_ret
    exact H3.out

theorem hrem_any {W : World} {ba g n c : Nat} {m most : Value} {H : List Ent} {i : Nat} (q : Q W ba (.slice (some ⟨g, 0, none⟩) (n + 1) c) m most H) (hi : i < H.length) (hl : H.length ≤ 100000) (hc : n + 1 ≤ c) (hh : HeapOn H H.length) :
    Calls Try.prog 24 #[hp ba, .int .i64 i] W (RemOk W ba g c m most H (gt H i)) := by
  have en : n + 1 = H.length := by
    obtain ⟨s, c2, e, _⟩ := row_form q.row
    injection e
  have hm := find q row_len
  have hms := find q row_swap
  have hah := fun W => ahead 190 ⟨ba, 0, none⟩ W row_len Try.underlying62
  have hah2 := fun W => ahead 190 ⟨ba, 0, none⟩ W row_swap Try.underlying62
  have hah3 := fun W => ahead 190 ⟨ba, 0, none⟩ W row_pop Try.underlying62
  have hmp := fun W => findp (W := W) (ba := ba) row_pop
  have hn1 : ((n + 1 : Nat) : Int) - 1 = (n : Int) := by omega
  have hn9 : n ≤ 100000 := by omega
  have hin : i ≤ n := by omega
  by_cases hne : n = i
  · subst hne
    have HPO := Lib.hid (popM_any q hn9 hc)
    have EN := Lib.hid en
    have HH := Lib.hid hh
    have heq : ((n : Int) != (n : Int)) = false := by simp
    clear q hh en hms
    unfold hp at *
    go_enter Try.func24, Try.ntmps24
    go_wp2_with fail
    refine (len_any _ _ _ _).mono ?_
    rintro e _ ⟨rfl, rfl⟩
    go_wp2_with fail
    refine HPO.out.mono ?_
    intro e w3 h3
    have he := h3.1
    have H3 := Lib.hid (rem_close EN.out (List.Perm.refl _) rfl (heap_mono HH.out (by have := EN.out; omega)) (Touch.refl _ _) h3)
    subst he
    clear h3 HPO hm
    go_wp2_with fail
    go_ret
    exact H3.out
  · have hil : i < n := by omega
    have heq : ((n : Int) != (i : Int)) = true := by simp; omega
    have HSW := Lib.hid (swap_q q (i := i) (k := n) (by omega) (by omega) hl)
    have gsw := gt_swp (H := H) (i := i) (k := n) (by omega) (by omega)
    have HHE := Lib.hid (he_of (H' := swp H i n) (n := n) (i := i) hh (by omega) (by omega) (fun k hk k0 => by rw [gsw, if_neg (by omega), if_neg k0]))
    have HGN := Lib.hid (show gt (swp H i n) n = gt H i by rw [gsw, if_pos rfl])
    have HPW := Lib.hid (swp_perm (H := H) (i := i) (k := n) (by omega) (by omega))
    have EN := Lib.hid en
    clear q hh gsw en hne
    unfold hp at *
    go_enter Try.func24, Try.ntmps24
    go_wp2_with fail
    refine (len_any _ _ _ _).mono ?_
    rintro e _ ⟨rfl, rfl⟩
    go_wp2_with fail
    refine HSW.out.mono ?_
    rintro e w1 ⟨rfl, q1, hT1⟩
    have HD := Lib.hid (down_any q1 (i0 := i) (N := n) (by rw [swp_len, ← EN.out]; omega) (by omega) (by rw [swp_len]; exact hl) HHE.out)
    have HT1 := Lib.hid hT1
    unfold hp at HD
    clear q1 hT1 hm hms HSW
    go_wp2_with fail
    refine HD.out.mono ?_
    rintro e w2 ⟨K, hperm, hrest, q2, hT2, ⟨rfl, hheap⟩ | ⟨rfl, hks, hu⟩⟩
    · have HK := Lib.hid (And.intro (hperm.trans HPW.out) (And.intro (show gt K n = gt H i by rw [hrest n (Nat.le_refl _)]; exact HGN.out) hheap))
      have HT2 := Lib.hid (HT1.out.trans hT2 (fun b hb => .inl ((foot_perm HPW.out b).1 hb)))
      have HPO := Lib.hid (popM_any q2 hn9 hc)
      clear hperm hrest q2 hT2 hheap HD
      go_wp2_with fail
      refine HPO.out.mono ?_
      intro e w3 h3
      have he := h3.1
      have H3 := Lib.hid (rem_close EN.out HK.out.1 HK.out.2.1 HK.out.2.2 (by have := HT2.out; rw [← EN.out]; exact this) h3)
      subst he
      clear h3 HPO
      go_wp2_with fail
      go_ret
      exact H3.out
    · subst hks
      have HT2 := Lib.hid (HT1.out.trans hT2 (fun b hb => .inl ((foot_perm HPW.out b).1 hb)))
      have HUP := Lib.hid (up_any q2 (j := i) (N := n) (by rw [swp_len, ← EN.out]; omega) hil (by rw [swp_len]; exact hl) hu)
      unfold hp at HUP
      clear hperm hrest q2 hT2 hu HD
      go_wp2_with fail
      refine HUP.out.mono ?_
      rintro e w3 ⟨rfl, K, hperm, hheap, hrest, q3, hT3⟩
      have HK := Lib.hid (And.intro (hperm.trans HPW.out) (And.intro (show gt K n = gt H i by rw [hrest n (Nat.le_refl _)]; exact HGN.out) hheap))
      have HT3 := Lib.hid (HT2.out.trans hT3 (fun b hb => .inl ((foot_perm HPW.out b).1 hb)))
      have HPO := Lib.hid (popM_any q3 hn9 hc)
      clear hperm hrest q3 hT3 hheap HUP
      go_wp2_with fail
      refine HPO.out.mono ?_
      intro e w4 h3
      have he := h3.1
      have H3 := Lib.hid (rem_close EN.out HK.out.1 HK.out.2.1 HK.out.2.2 (by have := HT3.out; rw [← EN.out]; exact this) h3)
      subst he
      clear h3 HPO
      go_wp2_with fail
      go_ret
      exact H3.out
end Go.Proofs.Ytjdeejbpkdgohaa
