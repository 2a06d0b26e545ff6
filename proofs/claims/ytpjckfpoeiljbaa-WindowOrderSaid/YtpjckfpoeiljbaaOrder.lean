/- The walk of WindowOrder. -/
import Derived.Test.YtpjckfpoeiljbaaStays
import Derived.Test.YtpjckfpoeiljbaaH2
import Derived.BigQuiet
namespace Go.Proofs.Ytpjckfpoeiljbaa
open Go.RowKit
set_option maxHeartbeats 4000000
set_option maxRecDepth 100000
set_option linter.unusedVariables false

/-- the numbers in order, and backwards. -/
def fwd (F : Nat) (g : Nat → Nat) (i : Nat) : Nat := F + g i % 64
def bwd (F : Nat) (g : Nat → Nat) (n i : Nat) : Nat := F + g (n - 1 - i) % 64

theorem order_eq {F n : Nat} {g : Nat → Nat} (hF : F < 9223372036854775808) : nextOf (fwd F g) n = nextOf (bwd F g n) n ∧ bitsOf (fwd F g) n = bitsOf (bwd F g n) n := by
  have h1 := of_inv (g := fwd F g) (k := n) (fun i _ => by unfold fwd; omega)
  have h2 := of_inv (g := bwd F g n) (k := n) (fun i _ => by unfold bwd; omega)
  refine h1.1.unique h2.1 fun m => ?_
  rw [mem_firsts, mem_firsts]
  constructor
  · rintro ⟨i, hi, rfl⟩
    exact ⟨n - 1 - i, by omega, by unfold bwd fwd; rw [show n - 1 - (n - 1 - i) = i by omega]⟩
  · rintro ⟨i, hi, rfl⟩
    exact ⟨n - 1 - i, by omega, rfl⟩

theorem order_has {F n : Nat} {g : Nat → Nat} (hF : F < 9223372036854775808) (hn : 0 < n) : hasB (nextOf (fwd F g) n) (bitsOf (fwd F g) n) (fwd F g 0) = true ∧ F < nextOf (fwd F g) n := by
  have h1 := (of_inv (g := fwd F g) (k := n) (fun i _ => by unfold fwd; omega)).1
  have hm : fwd F g 0 ∈ firsts (fwd F g) n := mem_firsts.2 ⟨0, hn, rfl⟩
  obtain ⟨a, b⟩ := h1.top (fun e => by rw [e] at hm; simp at hm)
  obtain ⟨i, hi, e⟩ := mem_firsts.1 b
  have h2 := h1.lt _ hm
  unfold fwd at e h2 ⊢
  refine ⟨(h1.has _).2 ⟨hm, ?_⟩, by omega⟩
  show nextOf (fwd F g) n ≤ F + g 0 % 64 + 64
  unfold fwd
  omega

theorem order_core (a : Option Addr) (len cap : Nat) (g : Nat → Nat) (from' : Nat) (w : World) (hr : URow .u8 256 w a len g) (hf : from' < 18446744073709551616) :
    Calls Try.prog 6 #[.slice a len cap, .int .u64 from'] w fun e w' => e = .returned (.bool true) ∧ Below w.heap.size w w' := by
  obtain ⟨hlen, hcell, hlt⟩ := hr
  obtain ⟨F, hF2⟩ : ∃ F, from' / 2 = F := ⟨_, rfl⟩
  have hE : (from' : Int) / 2 = (F : Int) := by omega
  have hF : F < 9223372036854775808 := by omega
  clear hF2
  go_enter Try.func6, Try.ntmps6
  go_upto_region 3 with (fail)
  go_cut [7] (fun s7 wx => ∃ n : Nat, s7 = .int .i64 n ∧ n ≤ len ∧ n ≤ 40 ∧ wx.cell? ⟨w.heap.size, 0, none⟩ = some (.int .u64 0) ∧ wx.cell? ⟨w.heap.size, 1, none⟩ = some (.int .u64 0) ∧ wx.cell? ⟨w.heap.size + 1, 0, none⟩ = some (.int .u64 0) ∧ wx.cell? ⟨w.heap.size + 1, 1, none⟩ = some (.int .u64 0) ∧ wx.frozen? ⟨w.heap.size, 0, none⟩ = false ∧ wx.frozen? ⟨w.heap.size, 1, none⟩ = false ∧ wx.frozen? ⟨w.heap.size + 1, 0, none⟩ = false ∧ wx.frozen? ⟨w.heap.size + 1, 1, none⟩ = false ∧ Below w.heap.size w wx)
  case first =>
    by_cases h40 : len ≤ 40
    · have h40' : (len : Int) ≤ 40 := by omega
      go_wp2_with fail
      all_goals go_meet
      all_goals exact ⟨len, by simp, by omega, by omega, by simp [go_sem], by simp [go_sem], by simp [go_sem], by simp [go_sem], by simp [go_sem], by simp [go_sem], by simp [go_sem], by simp [go_sem], by go_grown⟩
    · have h40' : ¬ (len : Int) ≤ 40 := by omega
      go_wp2_with fail
      go_meet
      exact ⟨40, by simp, by omega, by omega, by simp [go_sem], by simp [go_sem], by simp [go_sem], by simp [go_sem], by simp [go_sem], by simp [go_sem], by simp [go_sem], by simp [go_sem], by go_grown⟩
  case rest =>
  obtain ⟨n, rfl, hnl, hn40, c0, c1, c2, c3, z0, z1, z2, z3, hB⟩ := hcut
  clear hE
  go_wp2_with fail
  go_loopw [8] (fun i wr => ∃ j : Nat, j ≤ n ∧ i = .int .i64 j ∧ wr.cell? ⟨w.heap.size, 0, none⟩ = some (.int .u64 (nextOf (fwd F g) j)) ∧ wr.cell? ⟨w.heap.size, 1, none⟩ = some (.int .u64 (bitsOf (fwd F g) j)) ∧ wr.cell? ⟨w.heap.size + 1, 0, none⟩ = some (.int .u64 (nextOf (bwd F g n) j)) ∧ wr.cell? ⟨w.heap.size + 1, 1, none⟩ = some (.int .u64 (bitsOf (bwd F g n) j)) ∧ wr.frozen? ⟨w.heap.size, 0, none⟩ = false ∧ wr.frozen? ⟨w.heap.size, 1, none⟩ = false ∧ wr.frozen? ⟨w.heap.size + 1, 0, none⟩ = false ∧ wr.frozen? ⟨w.heap.size + 1, 1, none⟩ = false ∧ Below w.heap.size w wr) (fun i _ => n - (intOf i).toNat)
  case atStart => exact ⟨0, Nat.zero_le _, rfl, by rw [(of_zero _).1]; exact c0, by rw [(of_zero _).2]; exact c1, by rw [(of_zero _).1]; exact c2, by rw [(of_zero _).2]; exact c3, z0, z1, z2, z3, hB⟩
  case round =>
    clear c0 c1 c2 c3 z0 z1 z2 z3 hB
    obtain ⟨j, hjn, rfl, c0, c1, c2, c3, z0, z1, z2, z3, hB⟩ := hrel
    have l0 : w.heap.size < wr.heap.size := lt_of c0
    have l1 : w.heap.size + 1 < wr.heap.size := lt_of c2
    by_cases hin : j < n
    · obtain ⟨blk, off, rfl, hci⟩ := hcell j (by omega)
      obtain ⟨blk', off', e', hci'⟩ := hcell (n - 1 - j) (by omega)
      cases e'
      have hgj := hlt j (by omega)
      have hgk := hlt (n - 1 - j) (by omega)
      have e1 := keep hB hci
      have e2 := keep hB hci'
      obtain ⟨hI, hN, hBt⟩ := of_inv (g := fwd F g) (k := j) (fun i _ => by unfold fwd; omega)
      obtain ⟨hJ, hM, hCt⟩ := of_inv (g := bwd F g n) (k := j) (fun i _ => by unfold bwd; omega)
      clear hI hJ hci hci'
      have hV : fwd F g j < 18446744073709551615 := by unfold fwd; omega
      have hU : bwd F g n j < 18446744073709551615 := by unfold bwd; omega
      have v1 : F + g j % 64 = fwd F g j := rfl
      have u1 : F + g (n - 1 - j) % 64 = bwd F g n j := rfl
      have hs1 := fun h => of_yes (g := fwd F g) (k := j) h
      have hs2 := fun h => of_no (g := fwd F g) (k := j) h
      have hs3 := fun h => of_yes (g := bwd F g n) (k := j) h
      have hs4 := fun h => of_no (g := bwd F g n) (k := j) h
      generalize nextOf (fwd F g) j = N at *
      generalize bitsOf (fwd F g) j = B at *
      generalize nextOf (bwd F g n) j = M at *
      generalize bitsOf (bwd F g n) j = C at *
      generalize fwd F g j = V at *
      generalize bwd F g n j = U at *
      have hcell' := Lib.hid hcell
      have hlt' := Lib.hid hlt
      have S1 := Lib.hid hs1
      have S2 := Lib.hid hs2
      have S3 := Lib.hid hs3
      have S4 := Lib.hid hs4
      clear hcell hlt hs1 hs2 hs3 hs4
      go_upto_region 7 with (fail)
      go_cut [9, 10] (fun s1 s2 wx => ∃ p : Nat, s1 = .pointer (some ⟨p, 0, none⟩) ∧ s2 = .int .i64 (takeErr N B V) ∧ wr.heap.size ≤ p ∧ wx.cell? ⟨p, 0, none⟩ = some (.int .u64 (takeNext N B V)) ∧ wx.cell? ⟨p, 1, none⟩ = some (.int .u64 (takeBits N B V)) ∧ Below wr.heap.size wr wx)
      case first =>
        have n2 := lt_of e1
        have hj0 : (0 : Int) ≤ (j : Int) := by omega
        have hjl : (j : Int) < (len : Int) := by omega
        generalize hx : g j % 64 = R at v1
        have hr1 : Int.tmod ((g j : Nat) : Int) 64 = (R : Int) := by rw [Int.tmod_eq_emod_of_nonneg (by omega)]; omega
        have hr2 : IntKind.u64.wrap (R : Int) = (R : Int) := IntWalk.u64_in _ ⟨by omega, by omega⟩
        have hr3 : IntKind.u64.wrap ((F : Int) + (R : Int)) = (V : Int) := by rw [IntWalk.u64_in _ ⟨by omega, by omega⟩]; omega
        clear hx v1 u1
        have hS := X.hold3D (B := wr.heap.size) ⟨c0, c1, e1, Below.refl _ _, Nat.le_refl _⟩
        go_region_held3 (fun W => W.cell? ⟨w.heap.size, 0, none⟩ = some (.int .u64 N) ∧ W.cell? ⟨w.heap.size, 1, none⟩ = some (.int .u64 B) ∧ W.cell? ⟨blk, off + j, none⟩ = some (.int .u8 (g j : Nat)) ∧ Below wr.heap.size wr W ∧ wr.heap.size ≤ W.heap.size)
          (((repeat (first | assumption | exact ⟨c0, c1, e1, Below.refl _ _, Nat.le_refl _⟩ | (refine X.hold3D ?_) | (refine X.hold3A ?_ _) | (refine X.hold3S ?_ ?_ ?_ ?_ ?_; rotate_left 1; iterate 4 (first | omega | (simp only [World.size_alloc, World.size_drew]; omega))))); done))
          (first | (go_at_call 9; (with_reducible refine (take_any _ _ _ _ (by omega) hN hBt).mono ?_); rintro e w' ⟨rfl, hb⟩; obtain ⟨hc, hf⟩ := bcell hb; have hs := X.hold3 (by assumption) hb; have q0 := hs.2.2.2.2))
        · go_wp2_with fail
          go_meet
          exact ⟨w'.heap.size, rfl, rfl, hs.2.2.2.2, by simp [World.cell?_alloc_new], by simp [World.cell?_alloc_new], Below.alloc hs.2.2.2.1 hs.2.2.2.2 _⟩
        · go_wp2_with fail
          go_meet
          have y0 : w'.cell? ⟨wr.heap.size, 0, none⟩ = some (.int .u64 0) := (hc _ _ (by simp)).trans (by simp [go_sem])
          have y1 : w'.cell? ⟨wr.heap.size, 1, none⟩ = some (.int .u64 0) := (hc _ _ (by simp)).trans (by simp [go_sem])
          exact ⟨wr.heap.size, rfl, rfl, Nat.le_refl _, by go_cell, by go_cell, Below.setCell (Below.setCell hs.2.2.2.1 (Nat.le_refl _) _) (Nat.le_refl _) _⟩
      case rest =>
      obtain ⟨p, rfl, rfl, hp, d0, d1, hY⟩ := hcut
      have hB1 := below_from hB hB.size hY
      have g0 := keep hY c0
      have g1 := keep hY c1
      have g2 := keep hY c2
      have g3 := keep hY c3
      have x0 := keepF hY c0 z0
      have x1 := keepF hY c1 z1
      have x2 := keepF hY c2 z2
      have x3 := keepF hY c3 z3
      have e3 := keep hY e2
      have hl := hY.size
      have lp := lt_of d0
      clear c0 c1 c2 c3 z0 z1 z2 z3 hB hY e1 e2 v1
      generalize wc = wd at *
      go_upto_region 8 with (fail)
      go_cut [11, 12] (fun s1 s2 wx => ∃ q : Nat, s1 = .pointer (some ⟨q, 0, none⟩) ∧ s2 = .int .i64 (takeErr M C U) ∧ wd.heap.size ≤ q ∧ wx.cell? ⟨q, 0, none⟩ = some (.int .u64 (takeNext M C U)) ∧ wx.cell? ⟨q, 1, none⟩ = some (.int .u64 (takeBits M C U)) ∧ Below wd.heap.size wd wx)
      case first =>
        have n2 := lt_of e3
        have hj0 : (0 : Int) ≤ (j : Int) := by omega
        generalize hK : n - 1 - j = K at e3 u1 hgk
        have hK0 : (0 : Int) ≤ (K : Int) := by omega
        have hKl : (K : Int) < (len : Int) := by omega
        generalize hx : g K % 64 = R at u1
        have hr1 : Int.tmod ((g K : Nat) : Int) 64 = (R : Int) := by rw [Int.tmod_eq_emod_of_nonneg (by omega)]; omega
        have hr2 : IntKind.u64.wrap (R : Int) = (R : Int) := IntWalk.u64_in _ ⟨by omega, by omega⟩
        have hr3 : IntKind.u64.wrap ((F : Int) + (R : Int)) = (U : Int) := by rw [IntWalk.u64_in _ ⟨by omega, by omega⟩]; omega
        have hr4 : IntKind.i64.wrap ((n : Int) - 1) = (n : Int) - 1 := IntWalk.i64_in _ ⟨by omega, by omega⟩
        have hr5 : IntKind.i64.wrap ((n : Int) - 1 - (j : Int)) = (K : Int) := by rw [IntWalk.i64_in _ ⟨by omega, by omega⟩]; omega
        clear hx u1 hK
        go_region_held3 (fun W => W.cell? ⟨w.heap.size + 1, 0, none⟩ = some (.int .u64 M) ∧ W.cell? ⟨w.heap.size + 1, 1, none⟩ = some (.int .u64 C) ∧ W.cell? ⟨blk, off + K, none⟩ = some (.int .u8 (g K : Nat)) ∧ Below wd.heap.size wd W ∧ wd.heap.size ≤ W.heap.size)
          (((repeat (first | assumption | exact ⟨g2, g3, e3, Below.refl _ _, Nat.le_refl _⟩ | (refine X.hold3D ?_) | (refine X.hold3A ?_ _) | (refine X.hold3S ?_ ?_ ?_ ?_ ?_; rotate_left 1; iterate 4 (first | omega | (simp only [World.size_alloc, World.size_drew]; omega))))); done))
          (first | (go_at_call 9; (with_reducible refine (take_any _ _ _ _ (by omega) hM hCt).mono ?_); rintro e w' ⟨rfl, hb⟩; obtain ⟨hc, hf⟩ := bcell hb; have hs := X.hold3 (by assumption) hb; have q0 := hs.2.2.2.2))
        · go_wp2_with fail
          go_meet
          exact ⟨w'.heap.size, rfl, rfl, hs.2.2.2.2, by simp [World.cell?_alloc_new], by simp [World.cell?_alloc_new], Below.alloc hs.2.2.2.1 hs.2.2.2.2 _⟩
        · go_wp2_with fail
          go_meet
          have y0 : w'.cell? ⟨wd.heap.size, 0, none⟩ = some (.int .u64 0) := (hc _ _ (by simp)).trans (by simp [go_sem])
          have y1 : w'.cell? ⟨wd.heap.size, 1, none⟩ = some (.int .u64 0) := (hc _ _ (by simp)).trans (by simp [go_sem])
          exact ⟨wd.heap.size, rfl, rfl, Nat.le_refl _, by go_cell, by go_cell, Below.setCell (Below.setCell hs.2.2.2.1 (Nat.le_refl _) _) (Nat.le_refl _) _⟩
      case rest =>
      obtain ⟨q, rfl, rfl, hq, d2, d3, hY⟩ := hcut
      have hB2 := below_from hB1 hB1.size hY
      have k0 := keep hY g0
      have k1 := keep hY g1
      have k2 := keep hY g2
      have k3 := keep hY g3
      have z0 := keepF hY g0 x0
      have z1 := keepF hY g1 x1
      have z2 := keepF hY g2 x2
      have z3 := keepF hY g3 x3
      have p0 := keep hY d0
      have p1 := keep hY d1
      clear g0 g1 g2 g3 x0 x1 x2 x3 hB1 hY e3 u1 d0 d1
      have hne1 : w.heap.size ≠ p := by omega
      have hne2 : w.heap.size ≠ q := by omega
      have hne3 : w.heap.size + 1 ≠ p := by omega
      have hne4 : w.heap.size + 1 ≠ q := by omega
      have hne5 : p ≠ q := by omega
      cases hc1 : canB N B V <;> cases hc2 : canB M C U
      · have E1 : takeErr N B V = 12 := (take_is_old (by omega) hc1).2.2
        have E2 : takeErr M C U = 12 := (take_is_old (by omega) hc2).2.2
        have r1 := Lib.hid (S2.out hc1)
        have r2 := Lib.hid (S4.out hc2)
        go_wp2
        go_roundw
        case rel => exact ⟨j + 1, by omega, by go_num, by rw [r1.out.1]; exact k0, by rw [r1.out.2]; exact k1, by rw [r2.out.1]; exact k2, by rw [r2.out.2]; exact k3, z0, z1, z2, z3, hB2⟩
        case measure => simp [intOf]; omega
      · have E1 : takeErr N B V = 12 := (take_is_old (by omega) hc1).2.2
        have E2 : takeErr M C U = 0 := err_yes (by omega) hc2
        have r1 := Lib.hid (S2.out hc1)
        have r2 := Lib.hid (S3.out hc2)
        go_wp2
        go_roundw
        case rel => exact ⟨j + 1, by omega, by go_num, by rw [r1.out.1]; go_cell, by rw [r1.out.2]; go_cell, by rw [r2.out.1]; go_cell, by rw [r2.out.2]; go_cell, by simp [go_sem, *], by simp [go_sem, *], by simp [go_sem, *], by simp [go_sem, *], by go_grown⟩
        case measure => simp [intOf]; omega
      · have E1 : takeErr N B V = 0 := err_yes (by omega) hc1
        have E2 : takeErr M C U = 12 := (take_is_old (by omega) hc2).2.2
        have r1 := Lib.hid (S1.out hc1)
        have r2 := Lib.hid (S4.out hc2)
        go_wp2
        go_roundw
        case rel => exact ⟨j + 1, by omega, by go_num, by rw [r1.out.1]; go_cell, by rw [r1.out.2]; go_cell, by rw [r2.out.1]; go_cell, by rw [r2.out.2]; go_cell, by simp [go_sem, *], by simp [go_sem, *], by simp [go_sem, *], by simp [go_sem, *], by go_grown⟩
        case measure => simp [intOf]; omega
      · have E1 : takeErr N B V = 0 := err_yes (by omega) hc1
        have E2 : takeErr M C U = 0 := err_yes (by omega) hc2
        have r1 := Lib.hid (S1.out hc1)
        have r2 := Lib.hid (S3.out hc2)
        go_wp2
        go_roundw
        case rel => exact ⟨j + 1, by omega, by go_num, by rw [r1.out.1]; go_cell, by rw [r1.out.2]; go_cell, by rw [r2.out.1]; go_cell, by rw [r2.out.2]; go_cell, by simp [go_sem, *], by simp [go_sem, *], by simp [go_sem, *], by simp [go_sem, *], by go_grown⟩
        case measure => simp [intOf]; omega
    · obtain rfl : j = n := by omega
      obtain ⟨e1, e2⟩ := order_eq (F := F) (n := j) (g := g) hF
      have hh := fun h => order_has (F := F) (n := j) (g := g) hF h
      obtain ⟨hI, hN, hBt⟩ := of_inv (g := fwd F g) (k := j) (fun i _ => by unfold fwd; omega)
      clear hI
      rw [← e1] at c2
      rw [← e2] at c3
      clear e1 e2
      have v1 : F + g 0 % 64 = fwd F g 0 := rfl
      have hV : fwd F g 0 < 18446744073709551615 := by unfold fwd; omega
      generalize nextOf (fwd F g) j = N at *
      generalize bitsOf (fwd F g) j = B at *
      generalize fwd F g 0 = V at *
      by_cases hj0 : j = 0
      · have hjz : ((j : Int) == 0) = true := by simp [hj0]
        have hj0' := Lib.hid hj0
        clear hj0
        have hcell' := Lib.hid hcell
        have hlt' := Lib.hid hlt
        have hh' := Lib.hid hh
        clear hcell hlt hh v1
        go_wp2_with fail
        refine wp_region_quiet (C := fun W => W.cell? ⟨w.heap.size, 0, none⟩ = some (.int .u64 N) ∧ W.cell? ⟨w.heap.size, 1, none⟩ = some (.int .u64 B) ∧ W.cell? ⟨w.heap.size + 1, 0, none⟩ = some (.int .u64 N) ∧ W.cell? ⟨w.heap.size + 1, 1, none⟩ = some (.int .u64 B) ∧ Below w.heap.size w W ∧ w.heap.size ≤ W.heap.size) (by kernel_rfl) (by kernel_rfl) (X.hold4D ⟨c0, c1, c2, c3, hB, hB.size⟩) ?_
        simp only []
        clear c0 c1 c2 c3 z0 z1 z2 z3 hB l0 l1 hh' hlt' hcell'
        repeat (first
          | go_big_quiet_skip
          | (go_big_quiet_want; apply Exists.intro; refine ⟨fun wq hq => ?_, ?_⟩; focus (first
              | (obtain ⟨c0, c1, c2, c3, _, _⟩ := hq; go_simp; exact rfl)
              | (have hq' := hq; obtain ⟨c0, c1, c2, c3, _, _⟩ := hq'; go_simp; go_at_call 16; refine (fixed_any _).mono fun e w2 h => ⟨h.1, X.hold4 hq h.2⟩))
             simp only [Act.put, List.setIfInBounds_toArray, List.set_cons_succ, List.set_cons_zero]
             go_big_quiet_on))
        refine wpQuiet_nil ?_
        intro wf hf
        have hBf := hf.2.2.2.2.1
        clear hf
        go_wp2
        go_ret
        exact ⟨rfl, hBf⟩
      · obtain ⟨h1, h2⟩ := hh (by omega)
        obtain ⟨blk, off, rfl, hci⟩ := hcell 0 (by omega)
        have hg0 := hlt 0 (by omega)
        have hcell' := Lib.hid hcell
        have hlt' := Lib.hid hlt
        have e0 : wr.cell? ⟨blk, off, none⟩ = some (.int .u8 (g 0 : Nat)) := keep hB hci
        clear hcell hlt hh hci
        have hjz : ((j : Int) == 0) = false := by simp; omega
        have hl0 : 0 < len := by omega
        have ha := fun w => has_any N B V w hN hBt
        rw [h1] at ha
        have HA := Lib.hid ha
        clear ha h1
        generalize hx : g 0 % 64 = R at v1
        have hr1 : Int.tmod ((g 0 : Nat) : Int) 64 = (R : Int) := by rw [Int.tmod_eq_emod_of_nonneg (by omega)]; omega
        have hr2 : IntKind.u64.wrap (R : Int) = (R : Int) := IntWalk.u64_in _ ⟨by omega, by omega⟩
        have hr3 : IntKind.u64.wrap ((F : Int) + (R : Int)) = (V : Int) := by rw [IntWalk.u64_in _ ⟨by omega, by omega⟩]; omega
        have hlF : (F : Int) < (N : Int) := by omega
        have hlF2 : decide ((F : Int) < (N : Int)) = true := by simp; omega
        clear hx v1
        go_wp2_with fail
        go_region_held3 (fun W => W.cell? ⟨w.heap.size, 0, none⟩ = some (.int .u64 N) ∧ W.cell? ⟨w.heap.size, 1, none⟩ = some (.int .u64 B) ∧ W.cell? ⟨w.heap.size + 1, 0, none⟩ = some (.int .u64 N) ∧ W.cell? ⟨w.heap.size + 1, 1, none⟩ = some (.int .u64 B) ∧ W.cell? ⟨blk, off, none⟩ = some (.int .u8 (g 0 : Nat)) ∧ Below w.heap.size w W ∧ w.heap.size ≤ W.heap.size)
          (((repeat (first | assumption | exact ⟨c0, c1, c2, c3, e0, hB, hB.size⟩ | (refine X.hold5D ?_))); done))
          (first
            | (go_at_call 14; (with_reducible refine (HA.out _).mono ?_); rintro e w' ⟨rfl, hb⟩; have hs := X.hold5 (by assumption) hb)
            | (go_at_call 16; (with_reducible refine (fixed_any _).mono ?_); rintro e w' ⟨rfl, hb⟩; have hs := X.hold5 (by assumption) hb))
        go_wp2
        go_ret
        exact ⟨rfl, hs.2.2.2.2.2.1⟩
end Go.Proofs.Ytpjckfpoeiljbaa
