/- The walk of WindowOnce. -/
import Derived.Test.YtpjckfpoeiljbaaF
import Derived.Test.YtpjckfpoeiljbaaPlain4
import Derived.Deep.DeepCutAuto
import Derived.Deep.AppendLies
import Derived.Laws.OwnMore
import Derived.LoopTactic
import Derived.OwnWalk
import Derived.BigQuiet
namespace Go.Proofs.Ytpjckfpoeiljbaa
open Go.RowKit
set_option maxHeartbeats 2000000
set_option maxRecDepth 100000
set_option linter.unusedVariables false

def u64s (ts : List Nat) : List Value := ts.map fun n : Nat => Value.int .u64 (n : Int)
theorem ownsRow_form {w : World} {base : Nat} {e : TypeId} {size : Nat} {v : Value} {n : Nat} {xs : List Value} (h : w.ownsRow base e size v n xs) : ∃ a cap, v = .slice a n cap := by
  rcases h.2 with ⟨rfl, rfl⟩ | ⟨g, cap, cur, hv, _⟩
  · exact ⟨_, _, rfl⟩
  · exact ⟨_, _, hv⟩

theorem keepFA {w : World} (x : Obj) {b o : Nat} {v : Value} {z : Bool} (f : w.cell? ⟨b, o, none⟩ = some v) (g : w.frozen? ⟨b, o, none⟩ = z) : (w.alloc x).frozen? ⟨b, o, none⟩ = z := keepF ((Below.refl _ _).alloc (Nat.le_refl _) x) f g
theorem once_app {w w2 w5 : World} {gb ge cp N1 B1 NN B n : Nat} {L : Nat} (hgb : gb ≠ w.heap.size + 1) (hgl : w.heap.size ≤ gb) (b0 : w2.cell? ⟨w.heap.size + 1, 0, none⟩ = some (.int .u64 NN)) (b1 : w2.cell? ⟨w.heap.size + 1, 1, none⟩ = some (.int .u64 B))
    (x0 : w2.frozen? ⟨w.heap.size + 1, 0, none⟩ = false) (x1 : w2.frozen? ⟨w.heap.size + 1, 1, none⟩ = false) (hB2 : Below w.heap.size w w2)
    (hg : (((w2.setCell ⟨w.heap.size + 1, 0, none⟩ (.int .u64 N1)).setCell ⟨w.heap.size + 1, 1, none⟩ (.int .u64 B1)).alloc (Obj.cells #[.int .u64 n] 22)).grownBy w5 (Value.slice (some ⟨gb, 0, none⟩) L cp).ownBlock)
    (hat : (Value.slice (some ⟨gb, 0, none⟩) L cp).ownBlock = some ge ∨ ge = w2.heap.size + 1) :
    w5.cell? ⟨w.heap.size + 1, 0, none⟩ = some (.int .u64 N1) ∧ w5.cell? ⟨w.heap.size + 1, 1, none⟩ = some (.int .u64 B1) ∧ w5.frozen? ⟨w.heap.size + 1, 0, none⟩ = false ∧ w5.frozen? ⟨w.heap.size + 1, 1, none⟩ = false ∧ Below w.heap.size w w5 ∧ ge ≠ w.heap.size + 1 ∧ w.heap.size ≤ ge := by
  have l := lt_of b0
  have hn : some (w.heap.size + 1) ≠ (Value.slice (some ⟨gb, 0, none⟩) L cp).ownBlock := by simp [Value.ownBlock]; omega
  have c0 : (((w2.setCell ⟨w.heap.size + 1, 0, none⟩ (.int .u64 N1)).setCell ⟨w.heap.size + 1, 1, none⟩ (.int .u64 B1)).alloc (Obj.cells #[.int .u64 n] 22)).cell? ⟨w.heap.size + 1, 0, none⟩ = some (.int .u64 N1) := by go_cell
  have c1 : (((w2.setCell ⟨w.heap.size + 1, 0, none⟩ (.int .u64 N1)).setCell ⟨w.heap.size + 1, 1, none⟩ (.int .u64 B1)).alloc (Obj.cells #[.int .u64 n] 22)).cell? ⟨w.heap.size + 1, 1, none⟩ = some (.int .u64 B1) := by go_cell
  have f0 : (((w2.setCell ⟨w.heap.size + 1, 0, none⟩ (.int .u64 N1)).setCell ⟨w.heap.size + 1, 1, none⟩ (.int .u64 B1)).alloc (Obj.cells #[.int .u64 n] 22)).frozen? ⟨w.heap.size + 1, 0, none⟩ = false := keepFA _ (v := .int .u64 N1) (by go_cell) (by simpa using x0)
  have f1 : (((w2.setCell ⟨w.heap.size + 1, 0, none⟩ (.int .u64 N1)).setCell ⟨w.heap.size + 1, 1, none⟩ (.int .u64 B1)).alloc (Obj.cells #[.int .u64 n] 22)).frozen? ⟨w.heap.size + 1, 1, none⟩ = false := keepFA _ (v := .int .u64 B1) (by go_cell) (by simpa using x1)
  have hB : Below w.heap.size w (((w2.setCell ⟨w.heap.size + 1, 0, none⟩ (.int .u64 N1)).setCell ⟨w.heap.size + 1, 1, none⟩ (.int .u64 B1)).alloc (Obj.cells #[.int .u64 n] 22)) := by go_grown
  refine ⟨hg.cell c0 hn, hg.cell c1 hn, (hg.frozen_far ⟨w.heap.size + 1, 0, none⟩ (lt_of c0) hn).trans f0, (hg.frozen_far ⟨w.heap.size + 1, 1, none⟩ (lt_of c0) hn).trans f1, hB.grown hg hB.size (fun k e => ?_), ?_, ?_⟩
  · simp [Value.ownBlock] at e; omega
  · rcases hat with e | e
    · simp [Value.ownBlock] at e; omega
    · omega
  · rcases hat with e | e
    · simp [Value.ownBlock] at e; omega
    · omega
theorem news1 {W : World} {o : Obj} {B : Nat} (hB : W.heap.size = B) : (W.alloc o).heap[B]? = some o := by subst hB; exact heap_alloc_new W o
theorem gset (w : World) (b o : Nat) (v : Value) : w.grownBy (w.setCell ⟨b, o, none⟩ v) (some b) := ⟨rfl, rfl, rfl, by simp [World.setCell], fun k hk hne => Below.heap_setCell w ⟨b, o, none⟩ v k (by rintro rfl; exact hne rfl)⟩
theorem below_grown {w w' : World} (hb : Below w.heap.size w w') : w.grownBy w' none := ⟨hb.os, hb.tape, hb.output, hb.size, fun k hk _ => hb.block k hk⟩
theorem infoU64 : (Try.prog.info? 22).map (fun i => (i.zero, i.size, i.bytes)) = some (some (.int .u64 0), 1, 8) := by kernel_rfl

theorem once_core (a : Option Addr) (len cap : Nat) (g : Nat → Nat) (F0 : Nat) (w : World) (hr : URow .u8 256 w a len g) (hF : F0 < 18446744073709551616) :
    Calls Try.prog 4 #[.slice a len cap, .int .u64 F0] w fun e w' => e = .returned (.bool true) ∧ Below w.heap.size w w' := by
  obtain ⟨hlen, hcell, hlt⟩ := hr
  have HC := Lib.hid hcell
  have HL := Lib.hid hlt
  clear hcell hlt
  obtain ⟨F, hF2⟩ : ∃ F, F0 / 2 = F := ⟨_, rfl⟩
  have hE : (F0 : Int) / 2 = (F : Int) := by omega
  have hFl : F < 9223372036854775808 := by omega
  go_enter Try.func4, Try.ntmps4
  go_wp2_with fail
  have hE' := Lib.hid hE
  clear hE hF2
  go_loopw [6, 7, 8] (fun v t i wr => ∃ (k top NN B gb cp : Nat) (ts : List Nat), k ≤ len ∧ k ≤ 60 ∧ i = .int .i64 k ∧ t = .int .u64 top ∧ v = .slice (some ⟨gb, 0, none⟩) ts.length cp ∧ ts.length ≤ k ∧ gb ≠ w.heap.size + 1 ∧ w.heap.size ≤ gb ∧
      Once NN B top ts ∧ wr.ownsRow w.heap.size 22 1 (.slice (some ⟨gb, 0, none⟩) ts.length cp) ts.length (u64s ts) ∧
      wr.cell? ⟨w.heap.size + 1, 0, none⟩ = some (.int .u64 NN) ∧ wr.cell? ⟨w.heap.size + 1, 1, none⟩ = some (.int .u64 B) ∧ wr.frozen? ⟨w.heap.size + 1, 0, none⟩ = false ∧ wr.frozen? ⟨w.heap.size + 1, 1, none⟩ = false ∧ Below w.heap.size w wr)
    (fun _ _ i _ => 60 - (intOf i).toNat)
  case atStart =>
    refine ⟨0, 0, 0, 0, w.heap.size, 0, [], Nat.zero_le _, Nat.zero_le _, rfl, rfl, rfl, Nat.zero_le _, by omega, Nat.le_refl _, once_zero, ?_, by simp [go_sem], by simp [go_sem], by simp [go_sem], by simp [go_sem], by go_grown⟩
    exact (World.ownsRow_made w #[] 0 (Nat.le_refl _) (by decide) rfl).alloc _
  case round =>
    obtain ⟨k, top, NN, B, gb, cp, ts, hk1, hk2, rfl, rfl, rfl, htk, hgb, hgl, hO, hown, c0, c1, z0, z1, hB⟩ := hrel
    have hN := hO.le
    have hBt := hO.bits
    have htop : top < 9223372036854776064 := by
      by_cases e : ts = []
      · have := (hO.zero e).2; omega
      · have := hO.next e; omega
    by_cases hin : k < len ∧ k < 60
    · obtain ⟨hkl, hk60⟩ := hin
      obtain ⟨blk, off, rfl, hci⟩ := HC.out k hkl
      have hgk := HL.out k hkl
      have c2 := keep hB hci
      have l2 : blk < w.heap.size := lt_of hci
      generalize g k = x at c2 hgk
      clear hci
      have hkl' : (k : Int) < (len : Int) := by omega
      have hk0 : (0 : Int) ≤ (k : Int) := by omega
      have HO := Lib.hid hO
      have HW := Lib.hid hown
      clear hO hown
      go_wp2_with fail
      obtain ⟨n, hn⟩ : ∃ n : Nat, (F : Int) + (x : Int) = (n : Int) := ⟨F + x, by omega⟩
      rw [hn]
      have hnl : n < 9223372036854776064 := by omega
      have Hn := Lib.hid hn
      clear hn
      have htl : ts.length ≤ 60 := by omega
      go_loop [10, 11] (fun b i => ∃ j : Nat, j ≤ ts.length ∧ i = .int .i64 j ∧ b = .bool (decide (n ∈ ts.take j))) (fun _ i => ts.length - (intOf i).toNat)
      case atStart => exact ⟨0, Nat.zero_le _, rfl, by simp⟩
      case round =>
        obtain ⟨j, hj, rfl, rfl⟩ := hrel
        by_cases hjt : j < ts.length
        · have hm := mem_take_succ ts n j hjt
          have hcj : wr.cell? ⟨gb, j, none⟩ = some (.int .u64 (ts[j] : Nat)) := by
            rw [HW.out.cellAt j (by omega)]; simp [u64s, hjt]
          have hjt' : (j : Int) < (ts.length : Int) := by omega
          have hj0 : (0 : Int) ≤ (j : Int) := by omega
          generalize ts[j] = y at hm hcj
          have HM := Lib.hid hm
          clear hm
          cases hb : decide (n ∈ ts.take j)
          · rw [hb] at HM
            clear hb
            go_wp2_with fail
            go_round
            case rel =>
              refine ⟨j + 1, by omega, by go_num, ?_⟩
              rw [HM.out]
              by_cases e : y = n
              · rw [decide_eq_true e]; congr 1; exact beq_iff_eq.2 (by omega)
              · rw [decide_eq_false e]; congr 1; exact beq_eq_false_iff_ne.2 (by omega)
            case measure => (simp [intOf] <;> omega)
          · rw [hb] at HM
            clear hb
            go_wp2_with fail
            go_round
            case rel => exact ⟨j + 1, by omega, by go_num, by rw [HM.out]; rfl⟩
            case measure => (simp [intOf] <;> omega)
        · obtain rfl : j = ts.length := by omega
          rw [List.take_length]
          have hnl' : n < 18446744073709551615 := by omega
          have hcan := once_can HO.out hnl
          have herr := take_err (N := NN) (B := B) hnl'
          have hnot := fun h1 h2 => once_not HO.out hnl h1 h2
          obtain ⟨i0, hi0, hi1, hi2, hi3⟩ := info_parts infoU64
          by_cases hl0 : 0 < ts.length
          · have hi1' : (0 : Int) < (ts.length : Int) := by omega
            by_cases ho : n + 63 < top
            · have hold : oldB ts top n = true := by unfold oldB; simp [ho, hl0]
              have hi2' : (n : Int) + 63 < (top : Int) := by omega
              rw [hold] at hcan
              clear hold hnot
              cases hwas : decide (n ∈ ts)
              · rw [hwas] at hcan
                simp at hcan
                clear hwas
                have t1 := fun W => take_any NN B n W (by omega) (by omega) hBt
                have t2 := fun W => can_any NN B n W (by omega) (by omega) hBt
                rw [herr, hcan] at t1
                rw [hcan] at t2
                have e12 := (take_is_old (show n ≠ 18446744073709551615 by omega) hcan)
                rw [e12.1, e12.2.1] at t1
                have T1 := Lib.hid t1
                have T2 := Lib.hid t2
                clear t1 t2 hcan herr e12

                go_wp2_with fail
                refine (T1.out _).mono ?_
                rintro e w1 ⟨rfl, hb1⟩
                have a0 : w1.cell? ⟨w.heap.size + 1, 0, none⟩ = some (.int .u64 NN) := keep hb1 c0
                have a1 : w1.cell? ⟨w.heap.size + 1, 1, none⟩ = some (.int .u64 B) := keep hb1 c1
                have y0 : w1.frozen? ⟨w.heap.size + 1, 0, none⟩ = false := keepF hb1 c0 z0
                have y1 : w1.frozen? ⟨w.heap.size + 1, 1, none⟩ = false := keepF hb1 c1 z1
                have hB1 := below_from hB hB.size hb1
                have HW1 := Lib.hid (HW.out.kept (below_grown hb1) (.inr (by simp [Value.ownBlock])))
                have l1 : w.heap.size + 1 < w1.heap.size := lt_of a0
                have l3 : gb < w1.heap.size := (HW1.out.lt gb rfl).2
                clear hb1 c0 c1 c2 z0 z1 hB HW T1 l2
                go_wp2_with fail
                refine (T2.out _).mono ?_
                rintro e w2 ⟨rfl, hb2⟩
                have b0 : w2.cell? ⟨w.heap.size + 1, 0, none⟩ = some (.int .u64 NN) := keep hb2 (keepA _ a0)
                have b1 : w2.cell? ⟨w.heap.size + 1, 1, none⟩ = some (.int .u64 B) := keep hb2 (keepA _ a1)
                have x0 : w2.frozen? ⟨w.heap.size + 1, 0, none⟩ = false := keepF hb2 (keepA _ a0) (keepFA _ a0 y0)
                have x1 : w2.frozen? ⟨w.heap.size + 1, 1, none⟩ = false := keepF hb2 (keepA _ a1) (keepFA _ a1 y1)
                have d0 : w2.cell? ⟨w1.heap.size, 0, none⟩ = some (.int .u64 (0 : Nat)) := keep hb2 (by simp [go_sem])
                have d1 : w2.cell? ⟨w1.heap.size, 1, none⟩ = some (.int .u64 (0 : Nat)) := keep hb2 (by simp [go_sem])
                have hB2 := below_from hB1 hB1.size (below_of hb2)
                have HW2 := Lib.hid ((HW1.out.alloc _).kept (below_grown hb2) (.inr (by simp [Value.ownBlock])))
                have l4 : w1.heap.size < w2.heap.size := lt_of d0
                clear hb2 a0 a1 y0 y1 hB1 HW1 T2

                have m0 := b0
                have m1 := b1
                have n0 := x0
                have n1 := x1
                have hB6 := hB2
                have HW6 := HW2

                go_wp2_with fail
                go_roundw
                case rel => exact ⟨k + 1, top, NN, B, gb, cp, ts, by omega, by omega, by go_num, rfl, rfl, by omega, hgb, hgl, HO.out, HW6.out, m0, m1, n0, n1, hB6⟩
                case measure => (simp [intOf] <;> omega)

              · rw [hwas] at hcan
                simp at hcan
                clear hwas
                have t1 := fun W => take_any NN B n W (by omega) (by omega) hBt
                have t2 := fun W => can_any NN B n W (by omega) (by omega) hBt
                rw [herr, hcan] at t1
                rw [hcan] at t2
                have e12 := (take_is_old (show n ≠ 18446744073709551615 by omega) hcan)
                rw [e12.1, e12.2.1] at t1
                have T1 := Lib.hid t1
                have T2 := Lib.hid t2
                clear t1 t2 hcan herr e12

                go_wp2_with fail
                refine (T1.out _).mono ?_
                rintro e w1 ⟨rfl, hb1⟩
                have a0 : w1.cell? ⟨w.heap.size + 1, 0, none⟩ = some (.int .u64 NN) := keep hb1 c0
                have a1 : w1.cell? ⟨w.heap.size + 1, 1, none⟩ = some (.int .u64 B) := keep hb1 c1
                have y0 : w1.frozen? ⟨w.heap.size + 1, 0, none⟩ = false := keepF hb1 c0 z0
                have y1 : w1.frozen? ⟨w.heap.size + 1, 1, none⟩ = false := keepF hb1 c1 z1
                have hB1 := below_from hB hB.size hb1
                have HW1 := Lib.hid (HW.out.kept (below_grown hb1) (.inr (by simp [Value.ownBlock])))
                have l1 : w.heap.size + 1 < w1.heap.size := lt_of a0
                have l3 : gb < w1.heap.size := (HW1.out.lt gb rfl).2
                clear hb1 c0 c1 c2 z0 z1 hB HW T1 l2
                go_wp2_with fail
                refine (T2.out _).mono ?_
                rintro e w2 ⟨rfl, hb2⟩
                have b0 : w2.cell? ⟨w.heap.size + 1, 0, none⟩ = some (.int .u64 NN) := keep hb2 (keepA _ a0)
                have b1 : w2.cell? ⟨w.heap.size + 1, 1, none⟩ = some (.int .u64 B) := keep hb2 (keepA _ a1)
                have x0 : w2.frozen? ⟨w.heap.size + 1, 0, none⟩ = false := keepF hb2 (keepA _ a0) (keepFA _ a0 y0)
                have x1 : w2.frozen? ⟨w.heap.size + 1, 1, none⟩ = false := keepF hb2 (keepA _ a1) (keepFA _ a1 y1)
                have d0 : w2.cell? ⟨w1.heap.size, 0, none⟩ = some (.int .u64 (0 : Nat)) := keep hb2 (by simp [go_sem])
                have d1 : w2.cell? ⟨w1.heap.size, 1, none⟩ = some (.int .u64 (0 : Nat)) := keep hb2 (by simp [go_sem])
                have hB2 := below_from hB1 hB1.size (below_of hb2)
                have HW2 := Lib.hid ((HW1.out.alloc _).kept (below_grown hb2) (.inr (by simp [Value.ownBlock])))
                have l4 : w1.heap.size < w2.heap.size := lt_of d0
                clear hb2 a0 a1 y0 y1 hB1 HW1 T2

                have m0 := b0
                have m1 := b1
                have n0 := x0
                have n1 := x1
                have hB6 := hB2
                have HW6 := HW2

                go_wp2_with fail
                go_roundw
                case rel => exact ⟨k + 1, top, NN, B, gb, cp, ts, by omega, by omega, by go_num, rfl, rfl, by omega, hgb, hgl, HO.out, HW6.out, m0, m1, n0, n1, hB6⟩
                case measure => (simp [intOf] <;> omega)

            · have hold : oldB ts top n = false := by unfold oldB; simp [ho]
              have hi2' : ¬ (n : Int) + 63 < (top : Int) := by omega
              rw [hold] at hcan hnot
              cases hwas : decide (n ∈ ts)
              · rw [hwas] at hcan
                simp at hcan
                clear hwas hold hnot
                have t1 := fun W => take_any NN B n W (by omega) (by omega) hBt
                have t2 := fun W => can_any NN B n W (by omega) (by omega) hBt
                rw [herr, hcan] at t1
                rw [hcan] at t2
                have hst := once_take HO.out hnl hcan
                have hlo : takeNext NN B n < 18446744073709551616 := takeNext_lt (by omega) (by omega)
                have hlb : takeBits NN B n < 18446744073709551616 := takeBits_lt hBt
                generalize takeNext NN B n = N1 at t1 hst hlo
                generalize takeBits NN B n = B1 at t1 hst hlb
                have t3 := fun W => has_any N1 B1 n W hlo hlb
                rw [hst.2] at t3
                have HO2 := Lib.hid hst.1
                have T1 := Lib.hid t1
                have T2 := Lib.hid t2
                have T3 := Lib.hid t3
                clear t1 t2 t3 hst hcan herr

                go_wp2_with fail
                refine (T1.out _).mono ?_
                rintro e w1 ⟨rfl, hb1⟩
                have a0 : w1.cell? ⟨w.heap.size + 1, 0, none⟩ = some (.int .u64 NN) := keep hb1 c0
                have a1 : w1.cell? ⟨w.heap.size + 1, 1, none⟩ = some (.int .u64 B) := keep hb1 c1
                have y0 : w1.frozen? ⟨w.heap.size + 1, 0, none⟩ = false := keepF hb1 c0 z0
                have y1 : w1.frozen? ⟨w.heap.size + 1, 1, none⟩ = false := keepF hb1 c1 z1
                have hB1 := below_from hB hB.size hb1
                have HW1 := Lib.hid (HW.out.kept (below_grown hb1) (.inr (by simp [Value.ownBlock])))
                have l1 : w.heap.size + 1 < w1.heap.size := lt_of a0
                have l3 : gb < w1.heap.size := (HW1.out.lt gb rfl).2
                clear hb1 c0 c1 c2 z0 z1 hB HW T1 l2
                go_wp2_with fail
                refine (T2.out _).mono ?_
                rintro e w2 ⟨rfl, hb2⟩
                have b0 : w2.cell? ⟨w.heap.size + 1, 0, none⟩ = some (.int .u64 NN) := keep hb2 (keepA _ a0)
                have b1 : w2.cell? ⟨w.heap.size + 1, 1, none⟩ = some (.int .u64 B) := keep hb2 (keepA _ a1)
                have x0 : w2.frozen? ⟨w.heap.size + 1, 0, none⟩ = false := keepF hb2 (keepA _ a0) (keepFA _ a0 y0)
                have x1 : w2.frozen? ⟨w.heap.size + 1, 1, none⟩ = false := keepF hb2 (keepA _ a1) (keepFA _ a1 y1)
                have d0 : w2.cell? ⟨w1.heap.size, 0, none⟩ = some (.int .u64 N1) := keep hb2 (by simp [go_sem])
                have d1 : w2.cell? ⟨w1.heap.size, 1, none⟩ = some (.int .u64 B1) := keep hb2 (by simp [go_sem])
                have hB2 := below_from hB1 hB1.size (below_of hb2)
                have HW2 := Lib.hid ((HW1.out.alloc _).kept (below_grown hb2) (.inr (by simp [Value.ownBlock])))
                have l4 : w1.heap.size < w2.heap.size := lt_of d0
                clear hb2 a0 a1 y0 y1 hB1 HW1 T2

                by_cases hmx : n ≤ top
                · have hmx' : (n : Int) ≤ (top : Int) := by omega
                  have hmax : max top n = top := by omega
                  rw [hmax] at HO2
                  clear hmax hmx
                  have HW3 := Lib.hid (((HW2.out.kept (gset w2 (w.heap.size + 1) 0 (.int .u64 N1)) (.inr (by simp [Value.ownBlock]; omega))).kept (gset _ (w.heap.size + 1) 1 (.int .u64 B1)) (.inr (by simp [Value.ownBlock]; omega))).alloc (Obj.cells #[.int .u64 n] 22))
                  have l5 : gb < w2.heap.size := (HW2.out.lt gb rfl).2
                  have l6 : w.heap.size + 1 < w2.heap.size := lt_of b0
                  clear HW2
                  have l7 : w.heap.size ≤ w2.heap.size := hB2.size
                  have hown3 := HW3.out
                  go_wp2_with (at_builtin; refine wpList_append_lies _ rfl _ _ _ rfl w.heap.size 22 i0 (.int .u64 0) 1 8 Try.underlying37 hi0 hi1 hi2 hi3 rfl (by decide) (.slice (some ⟨gb, 0, none⟩) ts.length cp) ts.length (u64s ts) rfl HW3.out ⟨w2.heap.size, 0, none⟩ 1 1 [.int .u64 n] rfl rfl (World.news_of_block (B := w2.heap.size) (cs := #[.int .u64 n]) (t := 22) (fr := (0, 0)) (news1 (by simp [World.setCell]))) (by simp [Value.oneCell']) (by omega) (by unfold maxLen; omega) (by omega) (by simp [World.setCell]; omega) (w2.heap.size + 1) (by simp [World.setCell]) ?_; intro ge cq w5 hown5 hgrow5 hat5 hlt5; obtain ⟨e0, e1, v0, v1, hB5, hne5, hge5⟩ := once_app hgb hgl b0 b1 x0 x1 hB2 hgrow5 hat5; clear hgrow5 hat5)
                  refine (T3.out _).mono ?_
                  rintro e w6 ⟨rfl, hb6⟩
                  have HW6 := Lib.hid (hown5.kept (below_grown hb6) (.inr (by simp [Value.ownBlock])))
                  have m0 := keep hb6 e0
                  have m1 := keep hb6 e1
                  have n0 := keepF hb6 e0 v0
                  have n1 := keepF hb6 e1 v1
                  have hB6 := below_from hB5 hB5.size hb6
                  clear hb6 e0 e1 v0 v1 hB5 hown3 hown5 HW3 b0 b1 x0 x1 d0 d1 hB2 T3
                  go_wp2_with fail
                  go_roundw
                  case rel => exact ⟨k + 1, top, N1, B1, ge, cq, ts ++ [n], by omega, by omega, by go_num, rfl, by simp, by simp; omega, hne5, hge5, HO2.out, by simpa [u64s] using HW6.out, m0, m1, n0, n1, hB6⟩
                  case measure => (simp [intOf] <;> omega)
                · have hmx' : ¬ (n : Int) ≤ (top : Int) := by omega
                  have hmax : max top n = n := by omega
                  rw [hmax] at HO2
                  clear hmax hmx
                  have HW3 := Lib.hid (((HW2.out.kept (gset w2 (w.heap.size + 1) 0 (.int .u64 N1)) (.inr (by simp [Value.ownBlock]; omega))).kept (gset _ (w.heap.size + 1) 1 (.int .u64 B1)) (.inr (by simp [Value.ownBlock]; omega))).alloc (Obj.cells #[.int .u64 n] 22))
                  have l5 : gb < w2.heap.size := (HW2.out.lt gb rfl).2
                  have l6 : w.heap.size + 1 < w2.heap.size := lt_of b0
                  clear HW2
                  have l7 : w.heap.size ≤ w2.heap.size := hB2.size
                  have hown3 := HW3.out
                  go_wp2_with (at_builtin; refine wpList_append_lies _ rfl _ _ _ rfl w.heap.size 22 i0 (.int .u64 0) 1 8 Try.underlying37 hi0 hi1 hi2 hi3 rfl (by decide) (.slice (some ⟨gb, 0, none⟩) ts.length cp) ts.length (u64s ts) rfl HW3.out ⟨w2.heap.size, 0, none⟩ 1 1 [.int .u64 n] rfl rfl (World.news_of_block (B := w2.heap.size) (cs := #[.int .u64 n]) (t := 22) (fr := (0, 0)) (news1 (by simp [World.setCell]))) (by simp [Value.oneCell']) (by omega) (by unfold maxLen; omega) (by omega) (by simp [World.setCell]; omega) (w2.heap.size + 1) (by simp [World.setCell]) ?_; intro ge cq w5 hown5 hgrow5 hat5 hlt5; obtain ⟨e0, e1, v0, v1, hB5, hne5, hge5⟩ := once_app hgb hgl b0 b1 x0 x1 hB2 hgrow5 hat5; clear hgrow5 hat5)
                  refine (T3.out _).mono ?_
                  rintro e w6 ⟨rfl, hb6⟩
                  have HW6 := Lib.hid (hown5.kept (below_grown hb6) (.inr (by simp [Value.ownBlock])))
                  have m0 := keep hb6 e0
                  have m1 := keep hb6 e1
                  have n0 := keepF hb6 e0 v0
                  have n1 := keepF hb6 e1 v1
                  have hB6 := below_from hB5 hB5.size hb6
                  clear hb6 e0 e1 v0 v1 hB5 hown3 hown5 HW3 b0 b1 x0 x1 d0 d1 hB2 T3
                  go_wp2_with fail
                  go_roundw
                  case rel => exact ⟨k + 1, n, N1, B1, ge, cq, ts ++ [n], by omega, by omega, by go_num, rfl, by simp, by simp; omega, hne5, hge5, HO2.out, by simpa [u64s] using HW6.out, m0, m1, n0, n1, hB6⟩
                  case measure => (simp [intOf] <;> omega)

              · rw [hwas] at hcan
                simp at hcan
                have hnot' := hnot hcan rfl
                clear hwas hold hnot
                have t3 := fun W => has_any NN B n W (by omega) hBt
                rw [hnot'] at t3
                have T3 := Lib.hid t3
                clear t3 hnot'

                have t1 := fun W => take_any NN B n W (by omega) (by omega) hBt
                have t2 := fun W => can_any NN B n W (by omega) (by omega) hBt
                rw [herr, hcan] at t1
                rw [hcan] at t2
                have e12 := (take_is_old (show n ≠ 18446744073709551615 by omega) hcan)
                rw [e12.1, e12.2.1] at t1
                have T1 := Lib.hid t1
                have T2 := Lib.hid t2
                clear t1 t2 hcan herr e12

                go_wp2_with fail
                refine (T1.out _).mono ?_
                rintro e w1 ⟨rfl, hb1⟩
                have a0 : w1.cell? ⟨w.heap.size + 1, 0, none⟩ = some (.int .u64 NN) := keep hb1 c0
                have a1 : w1.cell? ⟨w.heap.size + 1, 1, none⟩ = some (.int .u64 B) := keep hb1 c1
                have y0 : w1.frozen? ⟨w.heap.size + 1, 0, none⟩ = false := keepF hb1 c0 z0
                have y1 : w1.frozen? ⟨w.heap.size + 1, 1, none⟩ = false := keepF hb1 c1 z1
                have hB1 := below_from hB hB.size hb1
                have HW1 := Lib.hid (HW.out.kept (below_grown hb1) (.inr (by simp [Value.ownBlock])))
                have l1 : w.heap.size + 1 < w1.heap.size := lt_of a0
                have l3 : gb < w1.heap.size := (HW1.out.lt gb rfl).2
                clear hb1 c0 c1 c2 z0 z1 hB HW T1 l2
                go_wp2_with fail
                refine (T2.out _).mono ?_
                rintro e w2 ⟨rfl, hb2⟩
                have b0 : w2.cell? ⟨w.heap.size + 1, 0, none⟩ = some (.int .u64 NN) := keep hb2 (keepA _ a0)
                have b1 : w2.cell? ⟨w.heap.size + 1, 1, none⟩ = some (.int .u64 B) := keep hb2 (keepA _ a1)
                have x0 : w2.frozen? ⟨w.heap.size + 1, 0, none⟩ = false := keepF hb2 (keepA _ a0) (keepFA _ a0 y0)
                have x1 : w2.frozen? ⟨w.heap.size + 1, 1, none⟩ = false := keepF hb2 (keepA _ a1) (keepFA _ a1 y1)
                have d0 : w2.cell? ⟨w1.heap.size, 0, none⟩ = some (.int .u64 (0 : Nat)) := keep hb2 (by simp [go_sem])
                have d1 : w2.cell? ⟨w1.heap.size, 1, none⟩ = some (.int .u64 (0 : Nat)) := keep hb2 (by simp [go_sem])
                have hB2 := below_from hB1 hB1.size (below_of hb2)
                have HW2 := Lib.hid ((HW1.out.alloc _).kept (below_grown hb2) (.inr (by simp [Value.ownBlock])))
                have l4 : w1.heap.size < w2.heap.size := lt_of d0
                clear hb2 a0 a1 y0 y1 hB1 HW1 T2

                go_wp2_with fail
                refine (T3.out _).mono ?_
                rintro e w6 ⟨rfl, hb6⟩
                have HW6 := Lib.hid (HW2.out.kept (below_grown hb6) (.inr (by simp [Value.ownBlock])))
                have m0 := keep hb6 b0
                have m1 := keep hb6 b1
                have n0 := keepF hb6 b0 x0
                have n1 := keepF hb6 b1 x1
                have hB6 := below_from hB2 hB2.size hb6
                clear hb6 HW2 b0 b1 x0 x1 d0 d1 hB2 T3

                go_wp2_with fail
                go_roundw
                case rel => exact ⟨k + 1, top, NN, B, gb, cp, ts, by omega, by omega, by go_num, rfl, rfl, by omega, hgb, hgl, HO.out, HW6.out, m0, m1, n0, n1, hB6⟩
                case measure => (simp [intOf] <;> omega)

          · have hi1' : ¬ (0 : Int) < (ts.length : Int) := by omega
            have hold : oldB ts top n = false := by unfold oldB; simp [hl0]
            have hwas : decide (n ∈ ts) = false := by
              have : ts = [] := List.length_eq_zero_iff.1 (by omega)
              subst this; simp
            rw [hold, hwas] at hcan
            simp at hcan
            rw [hwas]
            clear hwas hold hnot
            have t1 := fun W => take_any NN B n W (by omega) (by omega) hBt
            have t2 := fun W => can_any NN B n W (by omega) (by omega) hBt
            rw [herr, hcan] at t1
            rw [hcan] at t2
            have hst := once_take HO.out hnl hcan
            have hlo : takeNext NN B n < 18446744073709551616 := takeNext_lt (by omega) (by omega)
            have hlb : takeBits NN B n < 18446744073709551616 := takeBits_lt hBt
            generalize takeNext NN B n = N1 at t1 hst hlo
            generalize takeBits NN B n = B1 at t1 hst hlb
            have t3 := fun W => has_any N1 B1 n W hlo hlb
            rw [hst.2] at t3
            have HO2 := Lib.hid hst.1
            have T1 := Lib.hid t1
            have T2 := Lib.hid t2
            have T3 := Lib.hid t3
            clear t1 t2 t3 hst hcan herr

            go_wp2_with fail
            refine (T1.out _).mono ?_
            rintro e w1 ⟨rfl, hb1⟩
            have a0 : w1.cell? ⟨w.heap.size + 1, 0, none⟩ = some (.int .u64 NN) := keep hb1 c0
            have a1 : w1.cell? ⟨w.heap.size + 1, 1, none⟩ = some (.int .u64 B) := keep hb1 c1
            have y0 : w1.frozen? ⟨w.heap.size + 1, 0, none⟩ = false := keepF hb1 c0 z0
            have y1 : w1.frozen? ⟨w.heap.size + 1, 1, none⟩ = false := keepF hb1 c1 z1
            have hB1 := below_from hB hB.size hb1
            have HW1 := Lib.hid (HW.out.kept (below_grown hb1) (.inr (by simp [Value.ownBlock])))
            have l1 : w.heap.size + 1 < w1.heap.size := lt_of a0
            have l3 : gb < w1.heap.size := (HW1.out.lt gb rfl).2
            clear hb1 c0 c1 c2 z0 z1 hB HW T1 l2
            go_wp2_with fail
            refine (T2.out _).mono ?_
            rintro e w2 ⟨rfl, hb2⟩
            have b0 : w2.cell? ⟨w.heap.size + 1, 0, none⟩ = some (.int .u64 NN) := keep hb2 (keepA _ a0)
            have b1 : w2.cell? ⟨w.heap.size + 1, 1, none⟩ = some (.int .u64 B) := keep hb2 (keepA _ a1)
            have x0 : w2.frozen? ⟨w.heap.size + 1, 0, none⟩ = false := keepF hb2 (keepA _ a0) (keepFA _ a0 y0)
            have x1 : w2.frozen? ⟨w.heap.size + 1, 1, none⟩ = false := keepF hb2 (keepA _ a1) (keepFA _ a1 y1)
            have d0 : w2.cell? ⟨w1.heap.size, 0, none⟩ = some (.int .u64 N1) := keep hb2 (by simp [go_sem])
            have d1 : w2.cell? ⟨w1.heap.size, 1, none⟩ = some (.int .u64 B1) := keep hb2 (by simp [go_sem])
            have hB2 := below_from hB1 hB1.size (below_of hb2)
            have HW2 := Lib.hid ((HW1.out.alloc _).kept (below_grown hb2) (.inr (by simp [Value.ownBlock])))
            have l4 : w1.heap.size < w2.heap.size := lt_of d0
            clear hb2 a0 a1 y0 y1 hB1 HW1 T2

            by_cases hmx : n ≤ top
            · have hmx' : (n : Int) ≤ (top : Int) := by omega
              have hmax : max top n = top := by omega
              rw [hmax] at HO2
              clear hmax hmx
              have HW3 := Lib.hid (((HW2.out.kept (gset w2 (w.heap.size + 1) 0 (.int .u64 N1)) (.inr (by simp [Value.ownBlock]; omega))).kept (gset _ (w.heap.size + 1) 1 (.int .u64 B1)) (.inr (by simp [Value.ownBlock]; omega))).alloc (Obj.cells #[.int .u64 n] 22))
              have l5 : gb < w2.heap.size := (HW2.out.lt gb rfl).2
              have l6 : w.heap.size + 1 < w2.heap.size := lt_of b0
              clear HW2
              have l7 : w.heap.size ≤ w2.heap.size := hB2.size
              have hown3 := HW3.out
              go_wp2_with (at_builtin; refine wpList_append_lies _ rfl _ _ _ rfl w.heap.size 22 i0 (.int .u64 0) 1 8 Try.underlying37 hi0 hi1 hi2 hi3 rfl (by decide) (.slice (some ⟨gb, 0, none⟩) ts.length cp) ts.length (u64s ts) rfl HW3.out ⟨w2.heap.size, 0, none⟩ 1 1 [.int .u64 n] rfl rfl (World.news_of_block (B := w2.heap.size) (cs := #[.int .u64 n]) (t := 22) (fr := (0, 0)) (news1 (by simp [World.setCell]))) (by simp [Value.oneCell']) (by omega) (by unfold maxLen; omega) (by omega) (by simp [World.setCell]; omega) (w2.heap.size + 1) (by simp [World.setCell]) ?_; intro ge cq w5 hown5 hgrow5 hat5 hlt5; obtain ⟨e0, e1, v0, v1, hB5, hne5, hge5⟩ := once_app hgb hgl b0 b1 x0 x1 hB2 hgrow5 hat5; clear hgrow5 hat5)
              refine (T3.out _).mono ?_
              rintro e w6 ⟨rfl, hb6⟩
              have HW6 := Lib.hid (hown5.kept (below_grown hb6) (.inr (by simp [Value.ownBlock])))
              have m0 := keep hb6 e0
              have m1 := keep hb6 e1
              have n0 := keepF hb6 e0 v0
              have n1 := keepF hb6 e1 v1
              have hB6 := below_from hB5 hB5.size hb6
              clear hb6 e0 e1 v0 v1 hB5 hown3 hown5 HW3 b0 b1 x0 x1 d0 d1 hB2 T3
              go_wp2_with fail
              go_roundw
              case rel => exact ⟨k + 1, top, N1, B1, ge, cq, ts ++ [n], by omega, by omega, by go_num, rfl, by simp, by simp; omega, hne5, hge5, HO2.out, by simpa [u64s] using HW6.out, m0, m1, n0, n1, hB6⟩
              case measure => (simp [intOf] <;> omega)
            · have hmx' : ¬ (n : Int) ≤ (top : Int) := by omega
              have hmax : max top n = n := by omega
              rw [hmax] at HO2
              clear hmax hmx
              have HW3 := Lib.hid (((HW2.out.kept (gset w2 (w.heap.size + 1) 0 (.int .u64 N1)) (.inr (by simp [Value.ownBlock]; omega))).kept (gset _ (w.heap.size + 1) 1 (.int .u64 B1)) (.inr (by simp [Value.ownBlock]; omega))).alloc (Obj.cells #[.int .u64 n] 22))
              have l5 : gb < w2.heap.size := (HW2.out.lt gb rfl).2
              have l6 : w.heap.size + 1 < w2.heap.size := lt_of b0
              clear HW2
              have l7 : w.heap.size ≤ w2.heap.size := hB2.size
              have hown3 := HW3.out
              go_wp2_with (at_builtin; refine wpList_append_lies _ rfl _ _ _ rfl w.heap.size 22 i0 (.int .u64 0) 1 8 Try.underlying37 hi0 hi1 hi2 hi3 rfl (by decide) (.slice (some ⟨gb, 0, none⟩) ts.length cp) ts.length (u64s ts) rfl HW3.out ⟨w2.heap.size, 0, none⟩ 1 1 [.int .u64 n] rfl rfl (World.news_of_block (B := w2.heap.size) (cs := #[.int .u64 n]) (t := 22) (fr := (0, 0)) (news1 (by simp [World.setCell]))) (by simp [Value.oneCell']) (by omega) (by unfold maxLen; omega) (by omega) (by simp [World.setCell]; omega) (w2.heap.size + 1) (by simp [World.setCell]) ?_; intro ge cq w5 hown5 hgrow5 hat5 hlt5; obtain ⟨e0, e1, v0, v1, hB5, hne5, hge5⟩ := once_app hgb hgl b0 b1 x0 x1 hB2 hgrow5 hat5; clear hgrow5 hat5)
              refine (T3.out _).mono ?_
              rintro e w6 ⟨rfl, hb6⟩
              have HW6 := Lib.hid (hown5.kept (below_grown hb6) (.inr (by simp [Value.ownBlock])))
              have m0 := keep hb6 e0
              have m1 := keep hb6 e1
              have n0 := keepF hb6 e0 v0
              have n1 := keepF hb6 e1 v1
              have hB6 := below_from hB5 hB5.size hb6
              clear hb6 e0 e1 v0 v1 hB5 hown3 hown5 HW3 b0 b1 x0 x1 d0 d1 hB2 T3
              go_wp2_with fail
              go_roundw
              case rel => exact ⟨k + 1, n, N1, B1, ge, cq, ts ++ [n], by omega, by omega, by go_num, rfl, by simp, by simp; omega, hne5, hge5, HO2.out, by simpa [u64s] using HW6.out, m0, m1, n0, n1, hB6⟩
              case measure => (simp [intOf] <;> omega)
    · have hway : ¬ k < len ∨ (k < len ∧ ¬ k < 60) := by omega
      clear hin c0 c1 z0 z1 hO hown
      rcases hway with hkl | ⟨hkl, hk60⟩
      all_goals
        go_wp2_with fail
        refine (fixed_any _).mono ?_
        rintro e w1 ⟨rfl, hb1⟩
        have hB1 := below_from hB hB.size hb1
        clear hb1 hB
        go_wp2
        go_ret
        exact ⟨rfl, hB1⟩
end Go.Proofs.Ytpjckfpoeiljbaa
