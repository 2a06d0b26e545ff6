/- The heap's down and up. -/
import Derived.Test.YtjdeejbpkdgohaaB
import Derived.Deep.DeepCutAuto
namespace Go.Proofs.Ytjdeejbpkdgohaa
open Go.RowKit
set_option maxHeartbeats 1000000
set_option maxRecDepth 100000
set_option linter.unusedVariables false

theorem less_q {W : World} {ba g n c : Nat} {m most : Value} {H : List Ent} (q : Q W ba (.slice (some ⟨g, 0, none⟩) n c) m most H) {i k : Nat} (hi : i < H.length) (hk : k < H.length) (hl : H.length ≤ 100000) :
    Calls Try.prog 46 #[.slice (some ⟨g, 0, none⟩) n c, .int .i64 i, .int .i64 k] W fun e w' => e = .returned (.bool (ltB (gt H i) (gt H k))) ∧ ∃ m, w' = W.drewN m := by
  have en : n = H.length := by
    obtain ⟨s, c2, e, _⟩ := row_form q.row
    injection e
  subst en
  exact less_any g H.length c i k _ _ i k W hi hk hl (by rw [q.row.cellAt i (by omega), ptrs_get hi]) (by rw [q.row.cellAt k (by omega), ptrs_get hk]) (q.ones i hi) (q.ones k hk)
theorem swap_q {W : World} {ba g n c : Nat} {m most : Value} {H : List Ent} (q : Q W ba (.slice (some ⟨g, 0, none⟩) n c) m most H) {i k : Nat} (hi : i < H.length) (hk : k < H.length) (hl : H.length ≤ 100000) :
    Calls Try.prog 47 #[.slice (some ⟨g, 0, none⟩) n c, .int .i64 i, .int .i64 k] W fun e w' => e = .returned (.tuple #[]) ∧ Q w' ba (.slice (some ⟨g, 0, none⟩) n c) m most (swp H i k) ∧ Touch (foot (.slice (some ⟨g, 0, none⟩) n c) H) W w' := by
  have en : n = H.length := by
    obtain ⟨s, c2, e, _⟩ := row_form q.row
    injection e
  subst en
  have hs := q.swap hi hk
  have hg : ∀ j, j < H.length → (gt H j).b ≠ g := fun j hj e => (q.sep j hj).2 (by rw [e]; rfl)
  by_cases hik : i = k
  · subst hik
    refine (swap_self g H.length c i _ i W hi hl (hg i hi) (by rw [q.row.cellAt i (by omega), ptrs_get hi]) (q.row.frozenAt i) (q.ones i hi)).mono fun e w' h => ⟨h.1, ?_⟩
    rw [h.2]; exact hs
  · refine (swap_any g H.length c i k _ _ i k W hi hk hl hik (fun e => hik (q.nd i k hi hk e)) (hg i hi) (hg k hk) (by rw [q.row.cellAt i (by omega), ptrs_get hi]) (by rw [q.row.cellAt k (by omega), ptrs_get hk]) (q.row.frozenAt i) (q.row.frozenAt k) (q.ones i hi) (q.ones k hk)).mono fun e w' h => ⟨h.1, ?_⟩
    rw [h.2]; exact hs
def hp (ba : Nat) : Value := .iface 62 (.pointer (some ⟨ba, 0, none⟩))

theorem find {W : World} {ba : Nat} {s : Option Addr} {n c f : Nat} {m most : Value} {H : List Ent} {name : String} (q : Q W ba (.slice s n c) m most H)
    (hr : ((Try.prog.info? 62).bind (fun i => i.methods.find? (·.name == name))).map (fun m => (m.path, m.func)) = some (#[], some (f, false))) : (method 191 62 (.pointer (some ⟨ba, 0, none⟩)) name).run Try.prog W = .ok (f, .slice s n c) W :=
  meth_value 190 _ _ _ hr Try.underlying62 (load54 _ _ _ _ _ (by rw [q.hd.rd]; rfl))
theorem upEnd {H : List Ent} {n j : Nat} {x : Ent} (h : HU H n j) (he : ltB (gt H j) (gt H (par j)) = false) : HeapOn H n := up_end h (.inr he)
/-- what up leaves. -/
def UpOk (W : World) (ba : Nat) (v m most : Value) (H : List Ent) (N : Nat) (e : Ending) (w' : World) : Prop :=
  e = .returned (.tuple #[]) ∧ ∃ K : List Ent, K.Perm H ∧ HeapOn K N ∧ (∀ k, N ≤ k → gt K k = gt H k) ∧ Q w' ba v m most K ∧ Touch (foot v H) W w'
theorem up_any {W : World} {ba g n c : Nat} {m most : Value} {H : List Ent} (q : Q W ba (.slice (some ⟨g, 0, none⟩) n c) m most H) {j N : Nat} (hN : N ≤ H.length) (hj : j < N) (hl : H.length ≤ 100000) (hu : HU H N j) :
    Calls Try.prog 27 #[hp ba, .int .i64 j] W (UpOk W ba (.slice (some ⟨g, 0, none⟩) n c) m most H N) := by
  unfold hp
  go_enter Try.func27, Try.ntmps27
  go_wp2_with fail
  go_loopw [1] (fun v wr => ∃ (j : Nat) (K : List Ent), v = .int .i64 j ∧ j < N ∧ K.Perm H ∧ HU K N j ∧ (∀ k, N ≤ k → gt K k = gt H k) ∧ Q wr ba (.slice (some ⟨g, 0, none⟩) n c) m most K ∧ Touch (foot (.slice (some ⟨g, 0, none⟩) n c) H) W wr) (fun v _ => (intOf v).toNat)
  case atStart => exact ⟨j, H, rfl, hj, List.Perm.refl _, hu, fun _ _ => rfl, q, Touch.refl _ _⟩
  case round =>
    clear hu hj q
    obtain ⟨j, K, rfl, hj, hperm, hu, hrest, q, hT⟩ := hrel
    have hlen := hperm.length_eq
    have HLEN := Lib.hid hlen
    have hlK : j < K.length := by omega
    have hl2 : K.length ≤ 100000 := by omega
    have HN := Lib.hid (show N ≤ K.length by omega)
    clear hlen
    have HP := Lib.hid hperm
    have HU' := Lib.hid hu
    have HR := Lib.hid hrest
    have HQ := Lib.hid q
    have HT := Lib.hid hT
    clear hperm hu hrest q hT
    by_cases h0 : j = 0
    · subst h0
      have hE : HeapOn K N := up_end HU'.out (.inl rfl)
      go_wp2_with fail
      go_end0
      exact ⟨rfl, K, HP.out, hE, HR.out, HQ.out, HT.out⟩
    · obtain ⟨i, hi⟩ : ∃ i, par j = i := ⟨_, rfl⟩
      have hij : i < j := by unfold par at hi; omega
      have hii : ((j : Int) - 1) / 2 = (i : Int) := by unfold par at hi; omega
      have hne : ((i : Int) == (j : Int)) = false := by rw [beq_eq_false_iff_ne]; omega
      have hm := find HQ.out row_less
      have hah := fun W => ahead 190 ⟨ba, 0, none⟩ W row_less Try.underlying62
      have HI := Lib.hid hi
      have hj0 : (0 : Int) ≤ (j : Int) := by omega
      have hj9 : (j : Int) ≤ 100000 := by omega
      clear hi
      have t1 := less_q HQ.out (i := j) (k := i) hlK (by omega) hl2
      cases hlt : ltB (gt K j) (gt K i)
      · rw [hlt] at t1
        have hE : HeapOn K N := up_end HU'.out (.inr (by rw [HI.out]; exact hlt))
        have T1 := Lib.hid t1
        clear t1 hlt
        go_wp2_with fail
        refine T1.out.mono ?_
        rintro e w1 ⟨rfl, d, rfl⟩
        go_wp2_with fail
        go_end0
        exact ⟨rfl, K, HP.out, hE, HR.out, HQ.out.drewN _, HT.out.drewN _⟩
      · rw [hlt] at t1
        have T1 := Lib.hid t1
        have hst := up_step (H := K) HN.out HU'.out (by omega) hj (by rw [HI.out]; exact hlt)
        rw [HI.out] at hst
        have HS := Lib.hid hst
        have hm2 := fun d => find (HQ.out.drewN d) row_swap
        have hah2 := fun W => ahead 190 ⟨ba, 0, none⟩ W row_swap Try.underlying62
        have g1 := gt_swp (H := K) (i := i) (k := j) (by omega) hlK
        have HG := Lib.hid g1
        clear t1 hlt hst g1
        go_wp2_with fail
        refine T1.out.mono ?_
        rintro e w1 ⟨rfl, d, rfl⟩
        go_wp2_with fail
        refine (swap_q (HQ.out.drewN d) (i := i) (k := j) (by omega) hlK hl2).mono ?_
        rintro e w2 ⟨rfl, q2, T2⟩
        have HQ2 := Lib.hid q2
        have HT2 := Lib.hid T2
        clear q2 T2 hm hm2
        go_wp2_with fail
        go_roundw
        case rel => exact ⟨i, swp K i j, rfl, by omega, (swp_perm (by omega) hlK).trans HP.out, HS.out, fun k hk => by rw [HG.out, if_neg (by omega), if_neg (by omega)]; exact HR.out k hk, HQ2.out, (HT.out.drewN d).trans HT2.out (fun b hb => .inl ((foot_perm HP.out b).1 hb))⟩
        case measure => (simp [intOf] <;> omega)
/-- what down leaves to its caller. -/
def DownOk (W : World) (ba : Nat) (v m most : Value) (H : List Ent) (N i0 : Nat) (e : Ending) (w' : World) : Prop :=
  ∃ K : List Ent, K.Perm H ∧ (∀ k, N ≤ k → gt K k = gt H k) ∧ Q w' ba v m most K ∧ Touch (foot v H) W w' ∧ ((e = .returned (.bool true) ∧ HeapOn K N) ∨ (e = .returned (.bool false) ∧ K = H ∧ HU H N i0))
theorem downOk {W w' : World} {ba : Nat} {v m most : Value} {H K : List Ent} {N i0 i : Nat} {e : Ending} (d : Down H N i0 K i) (he : ∀ k, 0 < k → k < N → par k = i → leq (gt K i) (gt K k)) (q : Q w' ba v m most K) (hT : Touch (foot v H) W w')
    (hr : e = .returned (.bool (decide (i0 < i)))) : DownOk W ba v m most H N i0 e w' := by
  have h := down_end d he
  refine ⟨K, d.perm, d.rest, q, hT, ?_⟩
  by_cases hi : i0 < i
  · exact .inl ⟨by rw [hr]; simp [hi], h.1 hi⟩
  · exact .inr ⟨by rw [hr]; simp [hi], (h.2 hi).1, (h.2 hi).2⟩
theorem down_any {W : World} {ba g n c : Nat} {m most : Value} {H : List Ent} (q : Q W ba (.slice (some ⟨g, 0, none⟩) n c) m most H) {i0 N : Nat} (hN : N ≤ H.length) (hi0 : i0 ≤ 100000) (hl : H.length ≤ 100000) (hh : HE H N i0) :
    Calls Try.prog 26 #[hp ba, .int .i64 i0, .int .i64 N] W (DownOk W ba (.slice (some ⟨g, 0, none⟩) n c) m most H N i0) := by
  unfold hp
  have hN1 : N ≤ 100000 := by omega
  go_enter Try.func26, Try.ntmps26
  go_wp2_with fail
  go_loopw [7] (fun v wr => ∃ (i : Nat) (K : List Ent), v = .int .i64 i ∧ i ≤ 100000 ∧ Down H N i0 K i ∧ Q wr ba (.slice (some ⟨g, 0, none⟩) n c) m most K ∧ Touch (foot (.slice (some ⟨g, 0, none⟩) n c) H) W wr) (fun v _ => 100000 - (intOf v).toNat)
  case atStart => exact ⟨i0, H, rfl, hi0, down_start hh, q, Touch.refl _ _⟩
  case round =>
    clear hh q
    obtain ⟨i, K, rfl, hi, hd, q, hT⟩ := hrel
    have HLEN := Lib.hid hd.len
    have HN := Lib.hid (show N ≤ K.length by rw [hd.len]; exact hN)
    have HL2 := Lib.hid (show K.length ≤ 100000 by rw [hd.len]; exact hl)
    have HD := Lib.hid hd
    have HQ := Lib.hid q
    have HT := Lib.hid hT
    clear hd q hT
    obtain ⟨a, ha⟩ : ∃ a, 2 * i + 1 = a := ⟨_, rfl⟩
    obtain ⟨b, hb⟩ : ∃ b, a + 1 = b := ⟨_, rfl⟩
    have hai : 2 * (i : Int) + 1 = (a : Int) := by omega
    have hbi : (a : Int) + 1 = (b : Int) := by omega
    have hib : i < a := by omega
    have haN : a ≤ 200001 := by omega
    have HA := Lib.hid ha
    have HB := Lib.hid hb
    clear ha hb
    have ha0 : (0 : Int) ≤ (a : Int) := by omega
    have hm := find HQ.out row_less
    have hah := fun W => ahead 190 ⟨ba, 0, none⟩ W row_less Try.underlying62
    have hm1 := fun d => find (HQ.out.drewN d) row_less
    have hah2 := fun W => ahead 190 ⟨ba, 0, none⟩ W row_swap Try.underlying62
    have hm2 := fun d => find (HQ.out.drewN d) row_swap
    by_cases h1 : a < N
    · have hla : a < K.length := by have := HN.out; omega
      by_cases h2 : b < N
      · have hlb : b < K.length := by have := HN.out; omega
        have t1 := less_q HQ.out (i := b) (k := a) hlb hla HL2.out
        cases hlt : ltB (gt K b) (gt K a)
        · rw [hlt] at t1
          have T1 := Lib.hid t1
          have hmin : ∀ k, 0 < k → k < N → par k = i → leq (gt K a) (gt K k) := fun k k0 kn pk => by
            have h3 := kids pk k0
            have h4 := HA.out
            have h5 := HB.out
            by_cases e : k = a
            · subst e; exact leq_refl _
            · obtain rfl : k = b := by omega
              exact hlt
          clear t1 hlt
          have HMIN := Lib.hid hmin
          clear hmin
          have t2 := fun d => less_q (HQ.out.drewN d) (i := a) (k := i) hla (by omega) HL2.out
          have t20 := less_q HQ.out (i := a) (k := i) hla (by omega) HL2.out
          cases hlt2 : ltB (gt K a) (gt K i)
          · rw [hlt2] at t20
            have HE2 := Lib.hid (show ∀ k, 0 < k → k < N → par k = i → leq (gt K i) (gt K k) from fun k k0 kn pk => leq_trans hlt2 (HMIN.out k k0 kn pk))
            simp only [hlt2] at t2
            have T2 := Lib.hid t2
            have T20 := Lib.hid t20
            clear t2 t20 hlt2
            go_wp2_with fail
            refine T1.out.mono ?_
            rintro e w1 ⟨rfl, d, rfl⟩
            go_wp2_with fail
            refine (T2.out d).mono ?_
            rintro e w2 ⟨rfl, d2, rfl⟩
            go_wp2_with fail
            go_ret
            exact downOk HD.out HE2.out (HQ.out.drewN (d + d2)) (HT.out.drewN (d + d2)) rfl
          · rw [hlt2] at t20
            simp only [hlt2] at t2
            have HST := Lib.hid (down_step (j := a) HN.out HD.out (by have := HA.out; have := HB.out; omega) h1 HMIN.out hlt2)
            have T2 := Lib.hid t2
            have T20 := Lib.hid t20
            clear t2 t20 hlt2
            go_wp2_with fail
            refine T1.out.mono ?_
            rintro e w1 ⟨rfl, d, rfl⟩
            go_wp2_with fail
            refine (T2.out d).mono ?_
            rintro e w2 ⟨rfl, d2, rfl⟩
            go_wp2_with fail
            refine (swap_q (HQ.out.drewN (d + d2)) (i := i) (k := a) (by omega) hla HL2.out).mono ?_
            rintro e w3 ⟨rfl, q2, T3⟩
            have HQ2 := Lib.hid q2
            have HT2 := Lib.hid T3
            clear q2 T3 hm hm1 hm2
            go_wp2_with fail
            go_roundw
            case rel => exact ⟨a, swp K i a, rfl, by omega, HST.out, HQ2.out, (HT.out.drewN (d + d2)).trans HT2.out (fun x hx => .inl ((foot_perm HD.out.perm x).1 hx))⟩
            case measure => (simp [intOf] <;> omega)
        · rw [hlt] at t1
          have T1 := Lib.hid t1
          have hmin : ∀ k, 0 < k → k < N → par k = i → leq (gt K b) (gt K k) := fun k k0 kn pk => by
            have h3 := kids pk k0
            have h4 := HA.out
            have h5 := HB.out
            by_cases e : k = b
            · subst e; exact leq_refl _
            · obtain rfl : k = a := by omega
              exact leq_of_lt hlt
          clear t1 hlt
          have HMIN := Lib.hid hmin
          clear hmin
          have t2 := fun d => less_q (HQ.out.drewN d) (i := b) (k := i) hlb (by omega) HL2.out
          have t20 := less_q HQ.out (i := b) (k := i) hlb (by omega) HL2.out
          cases hlt2 : ltB (gt K b) (gt K i)
          · rw [hlt2] at t20
            have HE2 := Lib.hid (show ∀ k, 0 < k → k < N → par k = i → leq (gt K i) (gt K k) from fun k k0 kn pk => leq_trans hlt2 (HMIN.out k k0 kn pk))
            simp only [hlt2] at t2
            have T2 := Lib.hid t2
            have T20 := Lib.hid t20
            clear t2 t20 hlt2
            go_wp2_with fail
            refine T1.out.mono ?_
            rintro e w1 ⟨rfl, d, rfl⟩
            go_wp2_with fail
            refine (T2.out d).mono ?_
            rintro e w2 ⟨rfl, d2, rfl⟩
            go_wp2_with fail
            go_ret
            exact downOk HD.out HE2.out (HQ.out.drewN (d + d2)) (HT.out.drewN (d + d2)) rfl
          · rw [hlt2] at t20
            simp only [hlt2] at t2
            have HST := Lib.hid (down_step (j := b) HN.out HD.out (by have := HA.out; have := HB.out; omega) h2 HMIN.out hlt2)
            have T2 := Lib.hid t2
            have T20 := Lib.hid t20
            clear t2 t20 hlt2
            go_wp2_with fail
            refine T1.out.mono ?_
            rintro e w1 ⟨rfl, d, rfl⟩
            go_wp2_with fail
            refine (T2.out d).mono ?_
            rintro e w2 ⟨rfl, d2, rfl⟩
            go_wp2_with fail
            refine (swap_q (HQ.out.drewN (d + d2)) (i := i) (k := b) (by omega) hlb HL2.out).mono ?_
            rintro e w3 ⟨rfl, q2, T3⟩
            have HQ2 := Lib.hid q2
            have HT2 := Lib.hid T3
            clear q2 T3 hm hm1 hm2
            go_wp2_with fail
            go_roundw
            case rel => exact ⟨b, swp K i b, rfl, by omega, HST.out, HQ2.out, (HT.out.drewN (d + d2)).trans HT2.out (fun x hx => .inl ((foot_perm HD.out.perm x).1 hx))⟩
            case measure => (simp [intOf] <;> omega)
      · have hmin : ∀ k, 0 < k → k < N → par k = i → leq (gt K a) (gt K k) := fun k k0 kn pk => by
          have h3 := kids pk k0
          have h4 := HA.out
          have h5 := HB.out
          obtain rfl : k = a := by omega
          exact leq_refl _
        have HMIN := Lib.hid hmin
        clear hmin
        have t2 := fun d => less_q (HQ.out.drewN d) (i := a) (k := i) hla (by omega) HL2.out
        have t20 := less_q HQ.out (i := a) (k := i) hla (by omega) HL2.out
        cases hlt2 : ltB (gt K a) (gt K i)
        · rw [hlt2] at t20
          have HE2 := Lib.hid (show ∀ k, 0 < k → k < N → par k = i → leq (gt K i) (gt K k) from fun k k0 kn pk => leq_trans hlt2 (HMIN.out k k0 kn pk))
          simp only [hlt2] at t2
          have T2 := Lib.hid t2
          have T20 := Lib.hid t20
          clear t2 t20 hlt2
          go_wp2_with fail
          refine T20.out.mono ?_
          rintro e w2 ⟨rfl, d2, rfl⟩
          go_wp2_with fail
          go_ret
          exact downOk HD.out HE2.out (HQ.out.drewN d2) (HT.out.drewN d2) rfl
        · rw [hlt2] at t20
          simp only [hlt2] at t2
          have HST := Lib.hid (down_step (j := a) HN.out HD.out (by have := HA.out; have := HB.out; omega) h1 HMIN.out hlt2)
          have T2 := Lib.hid t2
          have T20 := Lib.hid t20
          clear t2 t20 hlt2
          go_wp2_with fail
          refine T20.out.mono ?_
          rintro e w2 ⟨rfl, d2, rfl⟩
          go_wp2_with fail
          refine (swap_q (HQ.out.drewN d2) (i := i) (k := a) (by omega) hla HL2.out).mono ?_
          rintro e w3 ⟨rfl, q2, T3⟩
          have HQ2 := Lib.hid q2
          have HT2 := Lib.hid T3
          clear q2 T3 hm hm1 hm2
          go_wp2_with fail
          go_roundw
          case rel => exact ⟨a, swp K i a, rfl, by omega, HST.out, HQ2.out, (HT.out.drewN d2).trans HT2.out (fun x hx => .inl ((foot_perm HD.out.perm x).1 hx))⟩
          case measure => (simp [intOf] <;> omega)
    · have hE := Lib.hid (show ∀ k, 0 < k → k < N → par k = i → leq (gt K i) (gt K k) from fun k k0 kn pk => by
        have := kids pk k0; have := HA.out; omega)
      go_wp2_with fail
      go_ret
      exact downOk HD.out hE.out HQ.out HT.out rfl
end Go.Proofs.Ytjdeejbpkdgohaa
