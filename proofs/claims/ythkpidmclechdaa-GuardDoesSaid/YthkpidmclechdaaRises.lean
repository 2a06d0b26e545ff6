/- The walk of GuardRises. -/
import Derived.Test.YthkpidmclechdaaPeers
import Derived.Deep.DeepCutAuto
namespace Go.Proofs.Ythkpidmclechdaa
open Go.RowKit
set_option maxHeartbeats 4000000
set_option maxRecDepth 100000
set_option linter.unusedVariables false

/-- the last stamp as an int, -1 where there is none. -/
def lv (f : Nat → Option Nat) (i : Nat) : Int := match f i with
  | none => -1
  | some m => m
theorem lv_upd_same {f : Nat → Option Nat} {i s : Nat} : lv (upd f i s) i = s := by unfold lv upd; simp
theorem lv_upd_other {f : Nat → Option Nat} {i s k : Nat} (h : k ≠ i) : lv (upd f i s) k = lv f k := by unfold lv upd; simp [h]
theorem canE_lv {f : Nat → Option Nat} {i s : Nat} (hi : i < 8) : canE 8 f i s = if lv f i < s then 0 else 12 := by
  unfold canE lv
  rw [if_neg (by omega)]
  simp only [Int.toNat_natCast]
  cases h : f i with
  | none => simp; omega
  | some m => simp only []; by_cases e : s ≤ m
              · rw [if_pos e, if_neg (by omega)]
              · rw [if_neg e, if_pos (by omega)]

/-- what is so of the world in a round: the guard lies in G, the law's own list of the last stamps in L. -/
structure RS (w wr : World) (G L : Nat) (f h : Nat → Option Nat) : Prop where
  g : GuardAt wr G 8 f
  c : ∀ i, i < 8 → wr.cell? ⟨L, i, none⟩ = some (.int .i64 (lv h i))
  z : ∀ i, i < 8 → wr.frozen? ⟨L, i, none⟩ = false
  b : ∀ i m, f i = some m → m < 256
  B : Below w.heap.size w wr
  ne : L ≠ G
  leG : w.heap.size ≤ G
  leL : w.heap.size ≤ L
theorem RS.keep {w wr w' : World} {G L : Nat} {f h : Nat → Option Nat} (r : RS w wr G L f h) (hb : Below wr.heap.size wr w') : RS w w' G L f h :=
  ⟨r.g.keep hb, fun i hi => Ythkpidmclechdaa.keep hb (r.c i hi), fun i hi => keepF hb (r.c i hi) (r.z i hi), r.b, below_from r.B r.B.size hb, r.ne, r.leG, r.leL⟩
theorem RS.take {w wr w' : World} {G L i s : Nat} {f h : Nat → Option Nat} (r : RS w wr G L f h) (g : GuardAt w' G 8 (upd f i s)) (hg : wr.grownBy w' (some G)) (hs : s < 256) : RS w w' G L (upd f i s) h := by
  have hl : L < wr.heap.size := lt_of (r.c 0 (by omega))
  have hb : w'.heap[L]? = wr.heap[L]? := hg.block L hl (by intro e; exact r.ne (Option.some.inj e))
  refine ⟨g, fun k hk => (World.cell?_of_block (w := wr) (a := ⟨L, k, none⟩) hb).trans (r.c k hk), fun k hk => (World.frozen?_of_block (w := wr) (a := ⟨L, k, none⟩) hb).trans (r.z k hk), fun k m e => ?_, r.B.grown hg r.B.size (fun k e => by cases e; exact r.leG), r.ne, r.leG, r.leL⟩
  unfold upd at e
  by_cases h1 : k = i
  · rw [if_pos h1] at e; cases e; exact hs
  · rw [if_neg h1] at e; exact r.b k m e
/-- the law's list is brought up to the guard. -/
theorem RS.store {w wr : World} {G L i : Nat} {v : Int} {f h h' : Nat → Option Nat} (r : RS w wr G L f h) (hi : i < 8) (hv : v = lv h' i) (ho : ∀ k, k ≠ i → lv h' k = lv h k) : RS w (wr.setCell ⟨L, i, none⟩ (.int .i64 v)) G L f h' := by
  obtain ⟨a0, ha0⟩ := r.g.ptr 0 (by omega)
  have hq : ∀ q n, wr.cell? ⟨q, 0, none⟩ = some (.int .u64 n) → q ≠ L := by
    intro q n h e; subst e; rw [r.c 0 (by omega)] at h; cases h
  have gk : ∀ {k : Nat} {u : Value}, wr.cell? ⟨G, k, none⟩ = some u → (wr.setCell ⟨L, i, none⟩ (.int .i64 v)).cell? ⟨G, k, none⟩ = some u := fun h => keepS h (Ne.symm r.ne)
  refine ⟨⟨gk r.g.hp, r.g.le, fun k hk => ?_, fun k hk => ?_⟩, fun k hk => ?_, fun k hk => ?_, r.b, r.B.setCell r.leL _, r.ne, r.leG, r.leL⟩
  · have hn := r.g.noted k hk
    cases hf : f k with
    | none => rw [hf] at hn; exact gk hn
    | some n =>
      rw [hf] at hn
      obtain ⟨p, a, b⟩ := hn
      exact ⟨p, gk a, keepS b (hq p n b)⟩
  · simpa using r.g.free k hk
  · by_cases e : k = i
    · subst e; rw [hv]; exact World.cell?_setCell_same _ _ _ (r.c k hk)
    · rw [World.cell?_setCell_other _ _ _ _ (by simp <;> omega), ho k e]; exact r.c k hk
  · simpa using r.z k hk

theorem rises_core (a b : Option Addr) (la ca lb cb : Nat) (p q : Nat → Nat) (w : World) (hr1 : URow .u8 256 w a la p) (hr2 : URow .u8 256 w b lb q) :
    Calls Try.prog 4 #[.slice a la ca, .slice b lb cb] w fun e w' => e = .returned (.bool true) ∧ Below w.heap.size w w' := by
  obtain ⟨hl1, hc1, ht1⟩ := hr1
  obtain ⟨hl2, hc2, ht2⟩ := hr2
  have H1 := Lib.hid hc1
  have H2 := Lib.hid hc2
  have T1 := Lib.hid ht1
  have T2 := Lib.hid ht2
  clear hc1 hc2 ht1 ht2
  go_enter Try.func4, Try.ntmps4
  go_wp2_with fail
  refine (new_ok 8 _ (by omega)).mono ?_
  rintro e w1 ⟨rfl, g1, hb1, hlt1⟩
  have HG := Lib.hid g1
  clear g1
  go_wp2_with fail
  have hLG : w1.heap.size ≠ w.heap.size := by omega
  go_loopw [8] (fun i wr => ∃ k f, k ≤ la ∧ k ≤ lb ∧ k ≤ 40 ∧ i = .int .i64 (k : Nat) ∧ RS w wr w.heap.size w1.heap.size f f) (fun i _ => 40 - (intOf i).toNat)
  case atStart =>
    refine ⟨0, fun _ => none, Nat.zero_le _, Nat.zero_le _, Nat.zero_le _, rfl, ⟨HG.out.keep ((Below.refl _ _).alloc (Nat.le_refl _) _), fun i hi => ?_, fun i hi => by simp [go_sem], fun i m e => by simp at e, (hb1.alloc hb1.size _), hLG, Nat.le_refl _, by omega⟩⟩
    rcases (by omega : i = 0 ∨ i = 1 ∨ i = 2 ∨ i = 3 ∨ i = 4 ∨ i = 5 ∨ i = 6 ∨ i = 7) with rfl | rfl | rfl | rfl | rfl | rfl | rfl | rfl <;> simp [go_sem, lv]
  case round =>
    obtain ⟨k, f, hk1, hk2, hk3, rfl, hR⟩ := hrel
    by_cases hin : k < la ∧ k < lb ∧ k < 40
    · obtain ⟨hka, hkb, hk40⟩ := hin
      obtain ⟨blk, off, rfl, hc1⟩ := H1.out k hka
      obtain ⟨blk', off', rfl, hc2⟩ := H2.out k hkb
      have hp := T1.out k hka
      have hq := T2.out k hkb
      have e1 := keep hR.B hc1
      have e2 := keep hR.B hc2
      generalize hP : p k % 8 = P
      have hP8 : P < 8 := by omega
      have hp0 : (0 : Int) ≤ (k : Int) := by omega
      have hp1 : (k : Int) < (la : Int) := by omega
      have hp2 : (k : Int) < (lb : Int) := by omega
      have hr1 : IntKind.i64.wrap ((p k : Nat) : Int) = ((p k : Nat) : Int) := IntWalk.i64_in _ ⟨by omega, by omega⟩
      have hr2 : Int.tmod ((p k : Nat) : Int) 8 = (P : Int) := by rw [Int.tmod_eq_emod_of_nonneg (by omega)]; omega
      have hr3 : IntKind.i64.wrap ((q k : Nat) : Int) = ((q k : Nat) : Int) := IntWalk.i64_in _ ⟨by omega, by omega⟩
      have HR := Lib.hid hR
      have HP := Lib.hid hP
      clear hR hP hc1 hc2
      go_wp2_with fail
      go_quiet (fail)
      clear hr1 hr2 hr3 e1 e2
      have HR1 := Lib.hid (HR.out.keep (below_drewN (Below.refl _ _) nq))
      generalize wr.drewN nq = wd at HR1 ⊢
      clear HR
      have hcl := HR1.out.c P hP8
      have hz := HR1.out.z P hP8
      have hP0 : (0 : Int) ≤ (P : Int) := by omega
      have hP1 : (P : Int) < 8 := by omega
      have hll : -1 ≤ lv f P := by unfold lv; cases f P <;> simp <;> omega
      by_cases hacc : lv f P < (q k : Nat)
      · have hE : canE 8 f (P : Int) (q k) = 0 := by rw [canE_lv hP8, if_pos hacc]
        have hE' := Lib.hid hE
        clear hE
        go_wp2_with fail
        refine (take_is HR1.out.g hE'.out).mono ?_
        rintro e w2 ⟨rfl, g2, hg2⟩
        rw [Int.toNat_natCast] at g2
        have HR2 := Lib.hid (HR1.out.take g2 hg2 hq)
        have hcl2 := HR2.out.c P hP8
        have hz2 := HR2.out.z P hP8
        clear g2 hg2 HR1 hcl hz
        have hmx : ¬ (q k : Nat) ≤ lv f P := by omega
        go_wp2_with fail
        have HR3 := Lib.hid (HR2.out.store (h' := upd f P (q k)) hP8 lv_upd_same.symm (fun _ h => lv_upd_other h))
        generalize upd f P (q k) = F at HR3
        generalize hwx : w2.setCell _ _ = W3 at HR3 ⊢
        clear hwx
        have hB3 := Lib.hid HR3.out.B
        obtain ⟨wo, hwo⟩ : ∃ wo : World, wo = wd := ⟨_, rfl⟩
        clear hwo HR2 hcl2 hz2 hE'
        go_loopw [12] (fun i wx => ∃ m : Nat, m ≤ 8 ∧ i = .int .i64 m ∧ RS w wx w.heap.size w1.heap.size F F) (fun i _ => 8 - (intOf i).toNat)
        case atStart => exact ⟨0, Nat.zero_le _, rfl, HR3.out⟩
        case round =>
          obtain ⟨m, hm, rfl, hS⟩ := hrel
          have HS := Lib.hid hS
          clear hS
          by_cases hm8 : m < 8
          · have hcm := HS.out.c m hm8
            have hm0 : (0 : Int) ≤ (m : Int) := by omega
            have hm1 : (m : Int) < 8 := by omega
            have hlN : lastN 8 F (m : Int) = F m := by unfold lastN; rw [if_neg (by omega)]; simp
            cases hF : F m with
            | none =>
              rw [hF] at hlN
              have hlN' := Lib.hid hlN
              have e4 : lv F m = -1 := by unfold lv; rw [hF]
              rw [e4] at hcm
              have hF' := Lib.hid hF
              clear hlN hF e4
              go_wp2_with fail
              refine (last_not HS.out.g hlN'.out).mono ?_
              rintro e w4 ⟨rfl, hb4⟩
              have hcm4 := keep hb4 hcm
              have HS4 := Lib.hid (HS.out.keep hb4)
              clear hcm hb4 HS
              go_wp2
              go_roundw
              case rel => exact ⟨m + 1, by omega, by go_num, HS4.out⟩
              case measure => simp [intOf]; omega
            | some n =>
              have hn := HS.out.b m n hF
              rw [hF] at hlN
              have hlN' := Lib.hid hlN
              have e4 : lv F m = (n : Int) := by unfold lv; rw [hF]
              rw [e4] at hcm
              have hF' := Lib.hid hF
              clear hlN hF e4
              go_wp2_with fail
              refine (last_is HS.out.g n hlN'.out).mono ?_
              rintro e w4 ⟨rfl, hb4⟩
              have hcm4 := keep hb4 hcm
              have HS4 := Lib.hid (HS.out.keep hb4)
              clear hcm hb4 HS
              go_wp2
              go_roundw
              case rel => exact ⟨m + 1, by omega, by go_num, HS4.out⟩
              case measure => simp [intOf]; omega
          · go_wp2
            go_roundw
            case rel => exact ⟨k + 1, F, by omega, by omega, by omega, by go_num, HS.out⟩
            case measure => simp [intOf]; omega
      · have hE : canE 8 f (P : Int) (q k) = 12 := by rw [canE_lv hP8, if_neg hacc]
        have hE' := Lib.hid hE
        clear hE
        go_wp2_with fail
        refine (take_not HR1.out.g 12 hE'.out (by decide)).mono ?_
        rintro e w2 ⟨rfl, hb2⟩
        have HR2 := Lib.hid (HR1.out.keep hb2)
        have hcl2 := HR2.out.c P hP8
        have hz2 := HR2.out.z P hP8
        clear hb2 HR1 hcl hz
        go_wp2_with fail
        have HR3 := Lib.hid (HR2.out.store (h' := f) hP8 (v := lv f P) rfl (fun _ _ => rfl))
        generalize hFF : f = F at HR3
        generalize hwx : w2.setCell _ _ = W3 at HR3 ⊢
        clear hwx hFF
        have hB3 := Lib.hid HR3.out.B
        obtain ⟨wo, hwo⟩ : ∃ wo : World, wo = wd := ⟨_, rfl⟩
        clear hwo HR2 hcl2 hz2 hE'
        go_loopw [12] (fun i wx => ∃ m : Nat, m ≤ 8 ∧ i = .int .i64 m ∧ RS w wx w.heap.size w1.heap.size F F) (fun i _ => 8 - (intOf i).toNat)
        case atStart => exact ⟨0, Nat.zero_le _, rfl, HR3.out⟩
        case round =>
          obtain ⟨m, hm, rfl, hS⟩ := hrel
          have HS := Lib.hid hS
          clear hS
          by_cases hm8 : m < 8
          · have hcm := HS.out.c m hm8
            have hm0 : (0 : Int) ≤ (m : Int) := by omega
            have hm1 : (m : Int) < 8 := by omega
            have hlN : lastN 8 F (m : Int) = F m := by unfold lastN; rw [if_neg (by omega)]; simp
            cases hF : F m with
            | none =>
              rw [hF] at hlN
              have hlN' := Lib.hid hlN
              have e4 : lv F m = -1 := by unfold lv; rw [hF]
              rw [e4] at hcm
              have hF' := Lib.hid hF
              clear hlN hF e4
              go_wp2_with fail
              refine (last_not HS.out.g hlN'.out).mono ?_
              rintro e w4 ⟨rfl, hb4⟩
              have hcm4 := keep hb4 hcm
              have HS4 := Lib.hid (HS.out.keep hb4)
              clear hcm hb4 HS
              go_wp2
              go_roundw
              case rel => exact ⟨m + 1, by omega, by go_num, HS4.out⟩
              case measure => simp [intOf]; omega
            | some n =>
              have hn := HS.out.b m n hF
              rw [hF] at hlN
              have hlN' := Lib.hid hlN
              have e4 : lv F m = (n : Int) := by unfold lv; rw [hF]
              rw [e4] at hcm
              have hF' := Lib.hid hF
              clear hlN hF e4
              go_wp2_with fail
              refine (last_is HS.out.g n hlN'.out).mono ?_
              rintro e w4 ⟨rfl, hb4⟩
              have hcm4 := keep hb4 hcm
              have HS4 := Lib.hid (HS.out.keep hb4)
              clear hcm hb4 HS
              go_wp2
              go_roundw
              case rel => exact ⟨m + 1, by omega, by go_num, HS4.out⟩
              case measure => simp [intOf]; omega
          · go_wp2
            go_roundw
            case rel => exact ⟨k + 1, F, by omega, by omega, by omega, by go_num, HS.out⟩
            case measure => simp [intOf]; omega
    · have hway : ¬ k < lb ∨ (k < lb ∧ ¬ k < la) ∨ (k < lb ∧ k < la ∧ ¬ k < 40) := by omega
      have HR := Lib.hid hR
      clear hR hin
      rcases hway with h1 | ⟨h1, h2⟩ | ⟨h1, h2, h3⟩
      all_goals
        go_wp2_with fail
        refine (fixed_any _).mono ?_
        rintro e w9 ⟨rfl, hb9⟩
        have hB9 := below_from HR.out.B HR.out.B.size hb9
        clear hb9
        go_wp2
        go_ret
        exact ⟨rfl, hB9⟩
end Go.Proofs.Ythkpidmclechdaa
