/- The walk of AlarmDoes. -/
import Derived.Test.YtjdeejbpkdgohaaN
namespace Go.Proofs.Ytjdeejbpkdgohaa
open Go.RowKit Go.Maps
set_option maxHeartbeats 8000000
set_option maxRecDepth 100000
set_option linter.unusedVariables false

theorem idsOf_len (S : List Al) : (idsOf S).length = S.length := by unfold idsOf; rw [List.length_map]
theorem same_n2 {W : World} {a b : Option Addr} {ca cb n : Nat} {L : List Nat} (hL : Nums W a L) (hM : Nums W b L) (l1 : L.length = n) (q1 : n ≤ 1000000) :
    Calls Try.prog 14 #[.slice a n ca, .slice b n cb] W fun e w' => e = .returned (.bool true) ∧ Below W.heap.size W w' := by
  subst l1
  have h := same_any (ca := ca) (cb := cb) hL hM q1 q1
  simpa using h
theorem putS_len2 (S : List Al) (most : Int) (id t : Nat) : (putS S most id t).length ≤ S.length + 1 := by
  unfold putS
  repeat' split
  all_goals first | exact put_len | omega
theorem due_whole2 {S : List Al} {n : Nat} (h : ∀ x ∈ S, x.2 ≤ n) : dueL S n = S ∧ restL S n = [] := by
  induction S with
  | nil => exact ⟨rfl, rfl⟩
  | cons x S ih =>
    have h1 := due_cons (S := S) (h x (List.mem_cons_self ..))
    have h2 := ih (fun y hy => h y (List.mem_cons_of_mem _ hy))
    exact ⟨by rw [h1.1, h2.1], by rw [h1.2, h2.2]⟩
theorem rest_len (S : List Al) (n : Nat) : (restL S n).length ≤ S.length := (List.dropWhile_sublist _).length_le
theorem does_core (most : Int) (a : Option Addr) (len cap : Nat) (g : Nat → Nat → Int) (w : World) (hr : Tup .u64 3 w a len g) :
    Calls Try.prog 3 #[.int .i64 most, .slice a len cap] w fun e w' => e = .returned (.bool true) ∧ Below w.heap.size w w' := by
  have hlen := hr.bound
  have HR := Lib.hid hr
  clear hr
  go_enter Try.func3, Try.ntmps3
  go_wp2_with fail
  refine (new_al most w).mono ?_
  rintro e x0 ⟨ba, F, rfl, hA, hT, hF⟩
  have H := Lib.hid (std_new (W0 := w) hA hF (hT.below (B := w.heap.size) (fun j h => h.elim) (Nat.le_refl _)))
  clear hA hT hF
  unfold apt
  go_wp2_with fail
  go_loopw [7] (fun i wr => ∃ (k : Nat) (S : List Al), k ≤ len ∧ k ≤ 40 ∧ i = .int .i64 k ∧ S.length ≤ k ∧ StD w wr ba S x0.heap.size S most [] []) (fun i _ => 40 - (intOf i).toNat)
  case atStart => exact ⟨0, [], Nat.zero_le _, Nat.zero_le _, rfl, Nat.le_refl _, H.out⟩
  case round =>
    clear H
    obtain ⟨k, S, hk1, hk2, rfl, hSk, h⟩ := hrel
    have H := Lib.hid h
    have HI := Lib.hid h.facts
    clear h
    generalize x0.heap.size = br at *
    by_cases hin : k < len ∧ k < 40
    · obtain ⟨hkl, hk40⟩ := hin
      obtain ⟨blk, off, rfl, hc⟩ := (HR.out.keep H.out.below).cell k hkl
      obtain ⟨c0, w0⟩ := hc 0 (by omega)
      obtain ⟨c1, w1⟩ := hc 1 (by omega)
      obtain ⟨c2, w2⟩ := hc 2 (by omega)
      obtain ⟨xa, ha, ha2⟩ := nat_u64 w0
      obtain ⟨id, hb, hb2⟩ := nat_u64 w1
      obtain ⟨t, ht, ht2⟩ := nat_u64 w2
      rw [ha] at c0
      rw [hb] at c1
      rw [ht] at c2
      have c0' : wr.cell? ⟨blk, off + k * 3, none⟩ = some (.int .u64 (xa : Int)) := c0
      have c1' : wr.cell? ⟨blk, off + k * 3 + 1, none⟩ = some (.int .u64 (id : Int)) := c1
      have c2' : wr.cell? ⟨blk, off + k * 3 + 2, none⟩ = some (.int .u64 (t : Int)) := c2
      have hkl' : (k : Int) < (len : Int) := by omega
      have hk0 : (0 : Int) ≤ (k : Int) := by omega
      have HW := Lib.hid (And.intro hb2 ht2)
      clear hc w0 w1 w2 ha hb ht c0 c1 c2 ha2 hb2 ht2
      have h4 : (xa : Int) % 4 = 0 ∨ (xa : Int) % 4 = 1 ∨ (xa : Int) % 4 = 2 ∨ (xa : Int) % 4 = 3 := by omega
      rcases h4 with h4 | h4 | h4 | h4
      · as_aux_lemma =>
        obtain ⟨S', hS'⟩ : ∃ S', putS S most id t = S' := ⟨_, rfl⟩
        obtain ⟨pe, hpe⟩ : ∃ pe, putE S most id = pe := ⟨_, rfl⟩
        have hpp : (pe != pe) = false := by simp
        have hSl : S'.length ≤ k + 1 := by rw [← hS']; have := putS_len2 S most id t; omega
        have PA := Lib.hid (fun W (h : StD w W ba S br S most [(wr.heap.size, 30, #[.int .u64 (xa : Int), .int .u64 (id : Int), .int .u64 (t : Int)])] []) => std_aput h HW.out.1 HW.out.2 (by omega) hpe hS')
        have PR := Lib.hid (fun W (h : StD w W ba S' br S most [(wr.heap.size, 30, #[.int .u64 (xa : Int), .int .u64 (id : Int), .int .u64 (t : Int)])] []) => std_rput h HW.out.1 HW.out.2 (by omega) HI.out.2.1 hpe hS')
        unfold apt at PA PR
        clear hS' hpe
        have hst := H.out.block 30 #[.int .u64 (xa : Int), .int .u64 (id : Int), .int .u64 (t : Int)]
        have r0 := hst.hd.rd
        go_wp2_with fail
        generalize wr.alloc (.cells #[.int .u64 (xa : Int), .int .u64 (id : Int), .int .u64 (t : Int)] 30) = W1 at hst r0 ⊢
        go_region_held3 (fun W => ∀ o, W.cell? ⟨wr.heap.size, o, none⟩ = (#[.int .u64 (xa : Int), .int .u64 (id : Int), .int .u64 (t : Int)] : Array Value)[o]?)
          (first | exact r0 | exact hst.hd.rd | exact hst.drew.hd.rd)
          (first
            | (go_at_call 10; (with_reducible refine (PA.out _ (by first | exact hst | exact hst.drew)).mono ?_); rintro e v ⟨rfl, h2⟩; replace hst := h2)
            | (go_at_call 11; (with_reducible refine (PR.out _ (by first | exact hst | exact hst.drew)).mono ?_); rintro e v ⟨rfl, h2⟩; replace hst := h2))
        have H := Lib.hid hst
        clear hst r0 PA PR
        obtain ⟨f, hf⟩ : ∃ f : Nat, firstT S' = f := ⟨_, rfl⟩
        obtain ⟨z, hz⟩ : ∃ z, someS S' = z := ⟨_, rfl⟩
        obtain ⟨n, hn⟩ : ∃ n, S'.length = n := ⟨_, rfl⟩
        have hff : ((f : Int) != (f : Int)) = false := by simp
        have hzz : (z != z) = false := by cases z <;> rfl
        have hnn : ((n : Int) != (n : Int)) = false := by simp
        have HF := Lib.hid (And.intro hf (And.intro hz hn))
        have hn40 : n ≤ k + 1 := by omega
        clear hf hz hn
        go_wp2_with fail
        refine (std_afirst H.out (by have := HF.out.2.2; omega) (t := (f : Int)) (z := z) (by rw [HF.out.1]) HF.out.2.1).mono ?_
        rintro e _ ⟨rfl, rfl⟩
        go_wp2_with fail
        refine (std_rfirst H.out (t := (f : Int)) (z := z) (by rw [HF.out.1]) HF.out.2.1).mono ?_
        rintro e _ ⟨rfl, rfl⟩
        obtain ⟨ar, cr, hcr⟩ := H.out.rcell
        rw [HF.out.2.2] at hcr
        have HLN := Lib.hid (fun q => (std_len (H.out.step (bdrewN (Below.refl _ v) q)) (n := (n : Int)) (by rw [HF.out.2.2])).mono (fun e w' (h : _ ∧ _) => (⟨h.1, 0, h.2.symm⟩ : e = .returned (.int .i64 n) ∧ ∃ m, w' = (v.drewN q).drewN m)))
        unfold apt at HLN
        go_wp2_with fail
        refine wp_region_quiet_lit (by kernel_rfl) (by kernel_rfl) ?_
        repeat (go_big_quiet_step ((go_at_call 19; exact Calls.quiet_of (HLN.out _))))
        refine wpQuiet_nil ?_
        intro _ hw2
        obtain ⟨nq, hw3⟩ := hw2
        subst hw3
        go_wp2_with fail
        go_roundw
        case rel => exact ⟨k + 1, S', by omega, by omega, by go_num, hSl, (H.out.step (bdrewN (Below.refl _ v) nq)).fewer (fun x hx => by cases hx) (fun x hx => by cases hx)⟩
        case measure => (simp [intOf] <;> omega)
      · as_aux_lemma =>
        obtain ⟨S', hS'⟩ : ∃ S', putS S most id t = S' := ⟨_, rfl⟩
        obtain ⟨pe, hpe⟩ : ∃ pe, putE S most id = pe := ⟨_, rfl⟩
        have hpp : (pe != pe) = false := by simp
        have hSl : S'.length ≤ k + 1 := by rw [← hS']; have := putS_len2 S most id t; omega
        have PA := Lib.hid (fun W (h : StD w W ba S br S most [(wr.heap.size, 30, #[.int .u64 (xa : Int), .int .u64 (id : Int), .int .u64 (t : Int)])] []) => std_aput h HW.out.1 HW.out.2 (by omega) hpe hS')
        have PR := Lib.hid (fun W (h : StD w W ba S' br S most [(wr.heap.size, 30, #[.int .u64 (xa : Int), .int .u64 (id : Int), .int .u64 (t : Int)])] []) => std_rput h HW.out.1 HW.out.2 (by omega) HI.out.2.1 hpe hS')
        unfold apt at PA PR
        clear hS' hpe
        have hst := H.out.block 30 #[.int .u64 (xa : Int), .int .u64 (id : Int), .int .u64 (t : Int)]
        have r0 := hst.hd.rd
        go_wp2_with fail
        generalize wr.alloc (.cells #[.int .u64 (xa : Int), .int .u64 (id : Int), .int .u64 (t : Int)] 30) = W1 at hst r0 ⊢
        go_region_held3 (fun W => ∀ o, W.cell? ⟨wr.heap.size, o, none⟩ = (#[.int .u64 (xa : Int), .int .u64 (id : Int), .int .u64 (t : Int)] : Array Value)[o]?)
          (first | exact r0 | exact hst.hd.rd | exact hst.drew.hd.rd)
          (first
            | (go_at_call 10; (with_reducible refine (PA.out _ (by first | exact hst | exact hst.drew)).mono ?_); rintro e v ⟨rfl, h2⟩; replace hst := h2)
            | (go_at_call 11; (with_reducible refine (PR.out _ (by first | exact hst | exact hst.drew)).mono ?_); rintro e v ⟨rfl, h2⟩; replace hst := h2))
        have H := Lib.hid hst
        clear hst r0 PA PR
        obtain ⟨f, hf⟩ : ∃ f : Nat, firstT S' = f := ⟨_, rfl⟩
        obtain ⟨z, hz⟩ : ∃ z, someS S' = z := ⟨_, rfl⟩
        obtain ⟨n, hn⟩ : ∃ n, S'.length = n := ⟨_, rfl⟩
        have hff : ((f : Int) != (f : Int)) = false := by simp
        have hzz : (z != z) = false := by cases z <;> rfl
        have hnn : ((n : Int) != (n : Int)) = false := by simp
        have HF := Lib.hid (And.intro hf (And.intro hz hn))
        have hn40 : n ≤ k + 1 := by omega
        clear hf hz hn
        go_wp2_with fail
        refine (std_afirst H.out (by have := HF.out.2.2; omega) (t := (f : Int)) (z := z) (by rw [HF.out.1]) HF.out.2.1).mono ?_
        rintro e _ ⟨rfl, rfl⟩
        go_wp2_with fail
        refine (std_rfirst H.out (t := (f : Int)) (z := z) (by rw [HF.out.1]) HF.out.2.1).mono ?_
        rintro e _ ⟨rfl, rfl⟩
        obtain ⟨ar, cr, hcr⟩ := H.out.rcell
        rw [HF.out.2.2] at hcr
        have HLN := Lib.hid (fun q => (std_len (H.out.step (bdrewN (Below.refl _ v) q)) (n := (n : Int)) (by rw [HF.out.2.2])).mono (fun e w' (h : _ ∧ _) => (⟨h.1, 0, h.2.symm⟩ : e = .returned (.int .i64 n) ∧ ∃ m, w' = (v.drewN q).drewN m)))
        unfold apt at HLN
        go_wp2_with fail
        refine wp_region_quiet_lit (by kernel_rfl) (by kernel_rfl) ?_
        repeat (go_big_quiet_step ((go_at_call 19; exact Calls.quiet_of (HLN.out _))))
        refine wpQuiet_nil ?_
        intro _ hw2
        obtain ⟨nq, hw3⟩ := hw2
        subst hw3
        go_wp2_with fail
        go_roundw
        case rel => exact ⟨k + 1, S', by omega, by omega, by go_num, hSl, (H.out.step (bdrewN (Below.refl _ v) nq)).fewer (fun x hx => by cases hx) (fun x hx => by cases hx)⟩
        case measure => (simp [intOf] <;> omega)
      · as_aux_lemma =>
        obtain ⟨S', hS'⟩ : ∃ S', dropS S id = S' := ⟨_, rfl⟩
        obtain ⟨pe, hpe⟩ : ∃ pe, hasS S id = pe := ⟨_, rfl⟩
        have hpp : (pe != pe) = false := by cases pe <;> rfl
        have hSl : S'.length ≤ k + 1 := by rw [← hS']; have := drop_len (S := S) (id := id); omega
        have PA := Lib.hid (fun W (h : StD w W ba S br S most [(wr.heap.size, 30, #[.int .u64 (xa : Int), .int .u64 (id : Int), .int .u64 (t : Int)])] []) => std_adrop h HW.out.1 (by omega) hpe hS')
        have PR := Lib.hid (fun W (h : StD w W ba S' br S most [(wr.heap.size, 30, #[.int .u64 (xa : Int), .int .u64 (id : Int), .int .u64 (t : Int)])] []) => std_rdrop h (by omega) HI.out.2.1 hpe hS')
        unfold apt at PA PR
        clear hS' hpe
        have hst := H.out.block 30 #[.int .u64 (xa : Int), .int .u64 (id : Int), .int .u64 (t : Int)]
        have r0 := hst.hd.rd
        go_wp2_with fail
        generalize wr.alloc (.cells #[.int .u64 (xa : Int), .int .u64 (id : Int), .int .u64 (t : Int)] 30) = W1 at hst r0 ⊢
        go_region_held3 (fun W => ∀ o, W.cell? ⟨wr.heap.size, o, none⟩ = (#[.int .u64 (xa : Int), .int .u64 (id : Int), .int .u64 (t : Int)] : Array Value)[o]?)
          (first | exact r0 | exact hst.hd.rd | exact hst.drew.hd.rd)
          (first
            | (go_at_call 12; (with_reducible refine (PA.out _ (by first | exact hst | exact hst.drew)).mono ?_); rintro e v ⟨rfl, h2⟩; replace hst := h2)
            | (go_at_call 13; (with_reducible refine (PR.out _ (by first | exact hst | exact hst.drew)).mono ?_); rintro e v ⟨rfl, h2⟩; replace hst := h2))
        have H := Lib.hid hst
        clear hst r0 PA PR
        obtain ⟨f, hf⟩ : ∃ f : Nat, firstT S' = f := ⟨_, rfl⟩
        obtain ⟨z, hz⟩ : ∃ z, someS S' = z := ⟨_, rfl⟩
        obtain ⟨n, hn⟩ : ∃ n, S'.length = n := ⟨_, rfl⟩
        have hff : ((f : Int) != (f : Int)) = false := by simp
        have hzz : (z != z) = false := by cases z <;> rfl
        have hnn : ((n : Int) != (n : Int)) = false := by simp
        have HF := Lib.hid (And.intro hf (And.intro hz hn))
        have hn40 : n ≤ k + 1 := by omega
        clear hf hz hn
        go_wp2_with fail
        refine (std_afirst H.out (by have := HF.out.2.2; omega) (t := (f : Int)) (z := z) (by rw [HF.out.1]) HF.out.2.1).mono ?_
        rintro e _ ⟨rfl, rfl⟩
        go_wp2_with fail
        refine (std_rfirst H.out (t := (f : Int)) (z := z) (by rw [HF.out.1]) HF.out.2.1).mono ?_
        rintro e _ ⟨rfl, rfl⟩
        obtain ⟨ar, cr, hcr⟩ := H.out.rcell
        rw [HF.out.2.2] at hcr
        have HLN := Lib.hid (fun q => (std_len (H.out.step (bdrewN (Below.refl _ v) q)) (n := (n : Int)) (by rw [HF.out.2.2])).mono (fun e w' (h : _ ∧ _) => (⟨h.1, 0, h.2.symm⟩ : e = .returned (.int .i64 n) ∧ ∃ m, w' = (v.drewN q).drewN m)))
        unfold apt at HLN
        go_wp2_with fail
        refine wp_region_quiet_lit (by kernel_rfl) (by kernel_rfl) ?_
        repeat (go_big_quiet_step ((go_at_call 19; exact Calls.quiet_of (HLN.out _))))
        refine wpQuiet_nil ?_
        intro _ hw2
        obtain ⟨nq, hw3⟩ := hw2
        subst hw3
        go_wp2_with fail
        go_roundw
        case rel => exact ⟨k + 1, S', by omega, by omega, by go_num, hSl, (H.out.step (bdrewN (Below.refl _ v) nq)).fewer (fun x hx => by cases hx) (fun x hx => by cases hx)⟩
        case measure => (simp [intOf] <;> omega)
      · as_aux_lemma =>
        obtain ⟨S', hS'⟩ : ∃ S', restL S t = S' := ⟨_, rfl⟩
        obtain ⟨L, hL⟩ : ∃ L, idsOf (dueL S t) = L := ⟨_, rfl⟩
        obtain ⟨nl, hnl⟩ : ∃ nl, L.length = nl := ⟨_, rfl⟩
        have hSl : S'.length ≤ k + 1 := by rw [← hS']; have := rest_len S t; omega
        have hnl2 : nl ≤ 1000000 := by rw [← hnl, ← hL, idsOf_len]; have : (dueL S t).length ≤ S.length := (List.takeWhile_sublist _).length_le; omega
        have PA := Lib.hid (fun W (h : StD w W ba S br S most [(wr.heap.size, 30, #[.int .u64 (xa : Int), .int .u64 (id : Int), .int .u64 (t : Int)])] []) => std_adue h HW.out.2 (by omega) hL hnl hS')
        have PR := Lib.hid (fun W Rs (h : StD w W ba S' br S most [(wr.heap.size, 30, #[.int .u64 (xa : Int), .int .u64 (id : Int), .int .u64 (t : Int)])] Rs) => std_rdue h (by omega) hL hnl hS')
        have PS := Lib.hid (fun W a c a' c' (h : StD w W ba S' br S' most [(wr.heap.size, 30, #[.int .u64 (xa : Int), .int .u64 (id : Int), .int .u64 (t : Int)])] [(.slice a' nl c', L), (.slice a nl c, L)]) => same_n2 (W := W) (ca := c) (cb := c')
          (nums_of (cap := c) (by have := h.row (x := (.slice a nl c, L)) (List.mem_cons_of_mem _ (List.mem_cons_self ..)); simp only [hnl] at this ⊢; exact this))
          (nums_of (cap := c') (by have := h.row (x := (.slice a' nl c', L)) (List.mem_cons_self ..); simp only [hnl] at this ⊢; exact this)) hnl hnl2)
        unfold apt at PA PR
        clear hS' hL hnl
        have hst := H.out.block 30 #[.int .u64 (xa : Int), .int .u64 (id : Int), .int .u64 (t : Int)]
        have r0 := hst.hd.rd
        go_wp2_with fail
        generalize wr.alloc (.cells #[.int .u64 (xa : Int), .int .u64 (id : Int), .int .u64 (t : Int)] 30) = W1 at hst r0 ⊢
        go_region_held3 (fun W => ∀ o, W.cell? ⟨wr.heap.size, o, none⟩ = (#[.int .u64 (xa : Int), .int .u64 (id : Int), .int .u64 (t : Int)] : Array Value)[o]?)
          (first | exact r0 | exact hst.hd.rd | exact hst.drew.hd.rd)
          (first
            | (go_at_call 15; (with_reducible refine (PA.out _ (by first | exact hst | exact hst.drew)).mono ?_); rintro e v ⟨a1, c1, rfl, h2⟩; replace hst := h2)
            | (go_at_call 16; (with_reducible refine (PR.out _ _ (by first | exact hst | exact hst.drew)).mono ?_); rintro e v ⟨a2, c2, rfl, h2⟩; replace hst := h2)
            | (go_at_call 14; (with_reducible refine (PS.out _ _ _ _ _ (by first | exact hst | exact hst.drew)).mono ?_); rintro e v ⟨rfl, hb⟩; replace hst := (by first | exact hst.step hb | exact hst.drew.step hb)))
        have H := Lib.hid hst
        clear hst r0 PA PR PS
        obtain ⟨f, hf⟩ : ∃ f : Nat, firstT S' = f := ⟨_, rfl⟩
        obtain ⟨z, hz⟩ : ∃ z, someS S' = z := ⟨_, rfl⟩
        obtain ⟨n, hn⟩ : ∃ n, S'.length = n := ⟨_, rfl⟩
        have hff : ((f : Int) != (f : Int)) = false := by simp
        have hzz : (z != z) = false := by cases z <;> rfl
        have hnn : ((n : Int) != (n : Int)) = false := by simp
        have HF := Lib.hid (And.intro hf (And.intro hz hn))
        have hn40 : n ≤ k + 1 := by omega
        clear hf hz hn
        go_wp2_with fail
        refine (std_afirst H.out (by have := HF.out.2.2; omega) (t := (f : Int)) (z := z) (by rw [HF.out.1]) HF.out.2.1).mono ?_
        rintro e _ ⟨rfl, rfl⟩
        go_wp2_with fail
        refine (std_rfirst H.out (t := (f : Int)) (z := z) (by rw [HF.out.1]) HF.out.2.1).mono ?_
        rintro e _ ⟨rfl, rfl⟩
        obtain ⟨ar, cr, hcr⟩ := H.out.rcell
        rw [HF.out.2.2] at hcr
        have HLN := Lib.hid (fun q => (std_len (H.out.step (bdrewN (Below.refl _ v) q)) (n := (n : Int)) (by rw [HF.out.2.2])).mono (fun e w' (h : _ ∧ _) => (⟨h.1, 0, h.2.symm⟩ : e = .returned (.int .i64 n) ∧ ∃ m, w' = (v.drewN q).drewN m)))
        unfold apt at HLN
        go_wp2_with fail
        refine wp_region_quiet_lit (by kernel_rfl) (by kernel_rfl) ?_
        repeat (go_big_quiet_step ((go_at_call 19; exact Calls.quiet_of (HLN.out _))))
        refine wpQuiet_nil ?_
        intro _ hw2
        obtain ⟨nq, hw3⟩ := hw2
        subst hw3
        go_wp2_with fail
        go_roundw
        case rel => exact ⟨k + 1, S', by omega, by omega, by go_num, hSl, (H.out.step (bdrewN (Below.refl _ v) nq)).fewer (fun x hx => by cases hx) (fun x hx => by cases hx)⟩
        case measure => (simp [intOf] <;> omega)
    · have hway : ¬ k < len ∨ (k < len ∧ ¬ k < 40) := by omega
      obtain ⟨L, hL⟩ : ∃ L, idsOf S = L := ⟨_, rfl⟩
      obtain ⟨nl, hnl⟩ : ∃ nl, L.length = nl := ⟨_, rfl⟩
      have hdw := due_whole2 (S := S) (n := 18446744073709551615) (fun x hx => by have := (HI.out.2.2 x hx).2; omega)
      have hnl2 : nl ≤ 1000000 := by rw [← hnl, ← hL, idsOf_len]; omega
      have HD := Lib.hid (And.intro (show idsOf (dueL S 18446744073709551615) = L by rw [hdw.1, hL]) (And.intro hdw.2 hnl))
      have hl6 : S.length < 100000 := by omega
      clear hin hdw hL hnl
      rcases hway with hkl | ⟨hkl, hk40⟩
      all_goals as_aux_lemma =>
        go_wp2_with fail
        refine (std_adue (now := 18446744073709551615) H.out (by decide) hl6 HD.out.1 HD.out.2.2 HD.out.2.1).mono ?_
        rintro e x1 ⟨a1, c1, rfl, h⟩
        have H1 := Lib.hid h
        clear h
        go_wp2_with fail
        refine (std_rdue (now := 18446744073709551615) H1.out hl6 HD.out.1 HD.out.2.2 HD.out.2.1).mono ?_
        rintro e x2 ⟨a2, c2, rfl, h⟩
        have H2 := Lib.hid h
        clear h
        go_wp2_with fail
        refine (same_n2 (W := x2) (ca := c1) (cb := c2) (L := L) (nums_of (cap := c1) (by have := H2.out.row (x := (.slice a1 nl c1, L)) (List.mem_cons_of_mem _ (List.mem_cons_self ..)); simp only [HD.out.2.2] at this ⊢; exact this)) (nums_of (cap := c2) (by have := H2.out.row (x := (.slice a2 nl c2, L)) (List.mem_cons_self ..); simp only [HD.out.2.2] at this ⊢; exact this)) HD.out.2.2 hnl2).mono ?_
        rintro e x3 ⟨rfl, hb⟩
        have H3 := Lib.hid (H2.out.step hb)
        clear hb
        go_wp2_with fail
        refine (std_len H3.out (n := 0) rfl).mono ?_
        rintro e _ ⟨rfl, rfl⟩
        go_wp2_with fail
        refine (fixed_any _).mono ?_
        rintro e x4 ⟨rfl, hb⟩
        have hB := below_from H3.out.below H3.out.below.size hb
        clear hb
        go_wp2
        go_ret
        exact ⟨rfl, hB⟩
end Go.Proofs.Ytjdeejbpkdgohaa
