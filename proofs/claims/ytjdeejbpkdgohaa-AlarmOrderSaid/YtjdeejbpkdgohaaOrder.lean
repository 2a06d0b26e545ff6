/- The walk of AlarmOrder. -/
import Derived.Test.YtjdeejbpkdgohaaU
import Derived.Test.YtjdeejbpkdgohaaOrderP
namespace Go.Proofs.Ytjdeejbpkdgohaa
open Go.RowKit Go.Maps
set_option maxHeartbeats 8000000
set_option maxRecDepth 100000
set_option linter.unusedVariables false

theorem same_n {W : World} {a b : Option Addr} {ca cb n1 n2 : Nat} {L M : List Nat} {z : Bool} (hL : Nums W a L) (hM : Nums W b M) (l1 : L.length = n1) (l2 : M.length = n2) (q1 : n1 ≤ 1000000) (q2 : n2 ≤ 1000000) (hz : decide (L = M) = z) :
    Calls Try.prog 14 #[.slice a n1 ca, .slice b n2 cb] W fun e w' => e = .returned (.bool z) ∧ Below W.heap.size W w' := by
  subst l1 l2 hz
  exact same_any hL hM q1 q2
theorem order_core (a : Option Addr) (len cap : Nat) (g : Nat → Nat → Int) (f : Nat) (w : World) (hr : Tup .u8 2 w a len g) (hf : f < 256) :
    Calls Try.prog 4 #[.slice a len cap, .int .u8 f] w fun e w' => e = .returned (.bool true) ∧ Below w.heap.size w w' := by
  have hlen := hr.bound
  have HR := Lib.hid hr
  clear hr
  obtain ⟨d, hd, hd16⟩ : ∃ d : Nat, (f : Int) % 16 = (d : Int) ∧ d < 16 := ⟨f % 16, by omega, by omega⟩
  have hf0 : (0 : Int) ≤ (f : Int) := by omega
  have hf255 : (f : Int) ≤ 255 := by omega
  obtain ⟨i0, hi0, hi1, hi2, hi3⟩ := info_parts infoU
  clear hf
  go_enter Try.func4, Try.ntmps4
  go_wp2_with fail
  refine (st_new (W0 := w) 100 (Below.refl _ _)).mono ?_
  rintro e x0 ⟨ba, rfl, h⟩
  have H := Lib.hid h
  clear h
  go_wp2_with fail
  refine (st2_new H.out).mono ?_
  rintro e x1 ⟨bb, rfl, h⟩
  have HB0 := Lib.hid h.below.size
  have H := Lib.hid h.fresh
  clear h
  unfold apt
  go_upto_region 6 with (fail)
  obtain ⟨N, hN⟩ : ∃ N, (if 20 < (len : Int) then 20 else (len : Int)) = N := ⟨_, rfl⟩
  rw [hN]
  obtain ⟨n, hn, hn1, hn2⟩ : ∃ n : Nat, N = n ∧ n ≤ 20 ∧ n ≤ len := ⟨N.toNat, by rw [← hN]; split <;> omega, by rw [← hN]; split <;> omega, by rw [← hN]; split <;> omega⟩
  subst hn
  clear hN
  go_wp2_with fail
  go_loopw [8, 9] (fun v i wr => ∃ (k m : Nat) (S : List Al) (B : List Nat) (ga c : Nat), k ≤ n ∧ m ≤ 16 ∧ i = .int .i64 k ∧ v = .slice (some ⟨ga, 0, none⟩) m c ∧ B.length = m ∧ w.heap.size ≤ ga ∧ S.length ≤ k ∧ Last S B ∧ St2 w wr ba S bb [] 100 [(.slice (some ⟨ga, 0, none⟩) m c, B)]) (fun _ i _ => n - (intOf i).toNat)
  case atStart => exact ⟨0, 0, [], [], x1.heap.size, 0, Nat.zero_le _, Nat.zero_le _, rfl, rfl, rfl, HB0.out, Nat.zero_le _, ⟨fun x hx => (by cases hx), fun i hi => absurd hi (by simp)⟩, H.out⟩
  case round =>
    clear H HB0
    obtain ⟨k, m, S, B, ga, c, hk, hm, rfl, rfl, hBm, hga, hSk, hLs, h⟩ := hrel
    have H := Lib.hid h
    have HBM := Lib.hid hBm
    have HLS := Lib.hid hLs
    have HGA := Lib.hid hga
    clear h hBm hLs hga
    by_cases hkn : k < n
    · as_aux_lemma =>
      obtain ⟨blk, off, rfl, hc⟩ := (HR.out.keep H.out.below).cell k (by omega)
      obtain ⟨c0, w0⟩ := hc 0 (by omega)
      obtain ⟨c1, w1⟩ := hc 1 (by omega)
      obtain ⟨y, hy, hy2⟩ := nat_u8 w0
      obtain ⟨t, ht, ht2⟩ := nat_u8 w1
      rw [hy] at c0
      rw [ht] at c1
      have c0' : wr.cell? ⟨blk, off + k * 2, none⟩ = some (.int .u8 (y : Int)) := c0
      have c1' : wr.cell? ⟨blk, off + k * 2 + 1, none⟩ = some (.int .u8 (t : Int)) := c1
      obtain ⟨id, hid, hid2⟩ : ∃ id : Nat, (y : Int) % 16 = (id : Int) ∧ id < 16 := ⟨y % 16, by omega, by omega⟩
      have hkn' : (k : Int) < (n : Int) := by omega
      have hkl' : (k : Int) < (len : Int) := by omega
      have hk0 : (0 : Int) ≤ (k : Int) := by omega
      have hpl := putS_putL (S := S) (most := 100) (id := id) (t := t) (by omega)
      have HP := Lib.hid (fun q => st2_put (H.out.step (show Below wr.heap.size wr (wr.drewN q) from bdrewN (Below.refl _ _) q)) id t (by omega) (by omega) (by omega) hpl.1 hpl.2)
      have HSL := Lib.hid (show (putL S id t).length ≤ k + 1 by have := put_len (S := S) (id := id) (t := t); omega)
      unfold apt at HP
      clear hc w0 w1 hy ht c0 c1 hpl
      go_wp2_with fail
      go_quiet (fail)
      clear c0' c1'
      go_wp2_with fail
      refine (HP.out _).mono ?_
      rintro e w2 ⟨rfl, h⟩
      have H := Lib.hid h
      clear h HP
      go_wp2_with fail
      go_loopw [8] (fun v wx => ∃ (e m2 gb c2 : Nat) (B2 : List Nat), v = .slice (some ⟨gb, 0, none⟩) m2 c2 ∧ m2 = m + e ∧ m2 ≤ 16 ∧ w.heap.size ≤ gb ∧ B2 = B ++ List.replicate e 1048576 ∧ B2.length = m2 ∧ St2 w wx ba (putL S id t) bb [] 100 [(.slice (some ⟨gb, 0, none⟩) m2 c2, B2)]) (fun v _ => 17 - slen v)
      case atStart => exact ⟨0, m, ga, c, B, rfl, rfl, hm, HGA.out, by simp, HBM.out, H.out⟩
      case round =>
        clear H
        obtain ⟨e, m2, gb, c2, B2, rfl, hme, hm16, hgb, hB2, hBl, h⟩ := hrel
        have H := Lib.hid h
        have HB := Lib.hid (And.intro hme (And.intro hB2 (And.intro hBl hgb)))
        clear h hme hB2 hBl hgb
        by_cases hle : m2 ≤ id
        · as_aux_lemma =>
          have hrow := H.out.row (List.mem_cons_self ..)
          have HW3 := Lib.hid (show (wr.alloc (.cells #[.int .u64 1048576] 29)).ownsRow 0 29 1 (.slice (some ⟨gb, 0, none⟩) m2 c2) m2 (u64s B2) from by have := hrow.alloc (.cells #[.int .u64 1048576] 29); rw [HB.out.2.2.1] at this; exact this)
          clear hrow
          go_wp2_with (at_builtin; refine wpList_append_lies _ rfl _ _ _ rfl 0 29 i0 (.int .u64 0) 1 8 Try.underlying35 hi0 hi1 hi2 hi3 rfl (by decide) (.slice (some ⟨gb, 0, none⟩) m2 c2) m2 (u64s B2) rfl HW3.out ⟨wr.heap.size, 0, none⟩ 1 1 [.int .u64 1048576] rfl rfl (World.news_of_block (B := wr.heap.size) (cs := #[.int .u64 1048576]) (t := 29) (fr := (0, 0)) (news1 rfl)) (by simp [Value.oneCell']) (by omega) (by unfold maxLen; omega) (by omega) (Nat.zero_le _) (wr.heap.size + 1) (by simp) ?_; intro ge cq w5 hown5 hgrow5 hat5 hlt5)
          have h5 := H.out.append (x := 1048576) HB.out.2.2.1.symm (fun b hb => by simp [Value.ownBlock] at hb; subst hb; exact HB.out.2.2.2) hown5 hgrow5 hat5
          have hge : w.heap.size ≤ ge := by
            rcases hat5 with h | h
            · simp [Value.ownBlock] at h; subst h; exact HB.out.2.2.2
            · have := H.out.below.size; omega
          go_roundw
          case rel => exact ⟨e + 1, m2 + 1, ge, cq, B2 ++ [1048576], rfl, by have := HB.out.1; omega, by omega, hge, by rw [HB.out.2.1, List.append_assoc, List.replicate_succ'], by rw [List.length_append, HB.out.2.2.1]; rfl, h5⟩
          case measure => (rw [slen_mk, slen_mk]; omega)
        · as_aux_lemma =>
          have hidm : id < m2 := by omega
          have hrow := H.out.row (List.mem_cons_self ..)
          rw [HB.out.2.2.1] at hrow
          have ci : wr.cell? ⟨gb, id, none⟩ = some (.int .u64 ((B2.getD id 0 : Nat) : Int)) := by
            rw [hrow.cellAt id (by omega)]
            unfold u64s
            rw [List.getElem?_map, List.getElem?_eq_getElem (by rw [HB.out.2.2.1]; exact hidm), List.getD_eq_getElem?_getD, List.getElem?_eq_getElem (by rw [HB.out.2.2.1]; exact hidm)]; rfl
          have fi := hrow.frozenAt id
          have li := lt_of ci
          have hidm' : (id : Int) < (m2 : Int) := by omega
          have hid0 : (0 : Int) ≤ (id : Int) := by omega
          have HS := Lib.hid (H.out.store (i := id) (x := t) HB.out.2.2.1.symm HB.out.2.2.2)
          have HL2 := Lib.hid (show Last (putL S id t) (B2.set id t) from by rw [HB.out.2.1]; exact last_put HLS.out (by have := HB.out.1; rw [HBM.out]; omega) (by omega))
          clear hrow
          go_wp2_with fail
          go_roundw
          case rel => exact ⟨k + 1, m2, putL S id t, B2.set id t, gb, c2, by omega, by omega, by go_num, rfl, by rw [List.length_set]; exact HB.out.2.2.1, HB.out.2.2.2, HSL.out, HL2.out, HS.out⟩
          case measure => (simp [intOf] <;> omega)
    · as_aux_lemma =>
      obtain rfl : k = n := by omega
      clear hkn hk
      go_wp2_with fail
      go_loopw [12] (fun kv wx => ∃ (q : Nat) (z : Int) (T : List Al), q ≤ m ∧ z = (q : Int) - 1 ∧ kv = .int .i64 z ∧ Above S T q ∧ T.length + q ≤ m ∧ St2 w wx ba S bb T 100 [(.slice (some ⟨ga, 0, none⟩) m c, B)]) (fun kv _ => (intOf kv + 1).toNat)
      case atStart => exact ⟨m, _, [], Nat.le_refl _, rfl, rfl, by rw [← HBM.out]; exact above_start HLS.out, by simp, H.out⟩
      case round =>
        clear H
        obtain ⟨q, z, T, hq, hz, rfl, hAb, hTq, h⟩ := hrel
        have H := Lib.hid h
        have HAB := Lib.hid hAb
        clear h hAb
        by_cases hq0 : q = 0
        · as_aux_lemma =>
          subst hq0
          have hzn : ¬ 0 ≤ z := by omega
          have hTS : T = S := sorted_mem_ext H.out.facts.1.1 H.out.facts.2.1 (fun x => by rw [HAB.out x]; simp)
          subst hTS
          clear hz hTq hq HAB
          have hLd := last_drop (d := d) HLS.out
          obtain ⟨z1, hz1⟩ : ∃ z, hasS T d = z := ⟨_, rfl⟩
          obtain ⟨V, hV⟩ : ∃ V, dropS T d = V := ⟨_, rfl⟩
          have hTl : T.length < 100000 := by omega
          rw [hV] at hLd
          have HD1 := Lib.hid (st2_drop H.out d (by omega) hTl hz1 hV)
          have hVl : V.length ≤ 20 := by have := drop_len (S := T) (id := d); rw [hV] at this; omega
          have HTD := Lib.hid (And.intro hz1 (And.intro hV hTl))
          have HLD := Lib.hid hLd
          clear hLd hz1 hV
          unfold apt at HD1
          have hzz : (z1 != z1) = false := by cases z1 <;> rfl
          go_wp2_with fail
          refine HD1.out.mono ?_
          rintro e w1 ⟨rfl, h⟩
          have H := Lib.hid h
          clear h HD1
          go_wp2_with fail
          refine (st2_drop H.out.symm d (by omega) HTD.out.2.2 HTD.out.1 HTD.out.2.1).mono ?_
          rintro e w2 ⟨rfl, h⟩
          have H := Lib.hid h
          clear h
          have hdw := due_whole (S := V) (n := 300) (fun x hx => by have := HLD.out x hx; omega)
          obtain ⟨L, hL⟩ : ∃ L, idsOf V = L := ⟨_, rfl⟩
          obtain ⟨nl, hnl⟩ : ∃ nl, L.length = nl := ⟨_, rfl⟩
          have hd1 : idsOf (dueL V 300) = L := by rw [hdw.1, hL]
          have HDW := Lib.hid (And.intro hd1 (And.intro hnl hdw.2))
          have HLV := Lib.hid hL
          have hnl2 : nl ≤ 20 := by rw [← hnl, ← hL]; unfold idsOf; rw [List.length_map]; exact hVl
          have HVL := Lib.hid hVl
          have HSO := Lib.hid H.out.facts.1.1
          clear hdw hd1 hnl hL hVl
          go_wp2_with fail
          refine (st2_due H.out.symm 300 L nl (by decide) (by have := HVL.out; omega) HDW.out.1 HDW.out.2.1 HDW.out.2.2).mono ?_
          rintro e w3 ⟨ax, cx, rfl, h⟩
          have H := Lib.hid h
          clear h
          go_wp2_with fail
          refine (st2_due H.out.symm 300 L nl (by decide) (by have := HVL.out; omega) HDW.out.1 HDW.out.2.1 HDW.out.2.2).mono ?_
          rintro e w4 ⟨ay, cy, rfl, h⟩
          have hx := h.row (r := (.slice ax nl cx, L)) (List.mem_cons_of_mem _ (List.mem_cons_self ..))
          have hy := h.row (r := (.slice ay nl cy, L)) (List.mem_cons_self ..)
          have hb := h.row (r := (.slice (some ⟨ga, 0, none⟩) m c, B)) (List.mem_cons_of_mem _ (List.mem_cons_of_mem _ (List.mem_cons_self ..)))
          have nx : Nums w4 ax L := nums_of (cap := cx) (by have := hx; simp only [HDW.out.2.1] at this ⊢; exact this)
          have ny : Nums w4 ay L := nums_of (cap := cy) (by have := hy; simp only [HDW.out.2.1] at this ⊢; exact this)
          rw [HBM.out] at hb
          have H4 := Lib.hid (h.symm.fewer (Qs := []) (fun r hr => by cases hr))
          have NX := Lib.hid nx
          have NY := Lib.hid ny
          have HBR := Lib.hid hb
          have hLVl : L.length = V.length := by rw [← HLV.out]; unfold idsOf; rw [List.length_map]
          have HLVL := Lib.hid hLVl
          clear h hx hy hb nx ny hLVl
          go_wp2_with fail
          go_loopw [15] (fun iv wx => ∃ i q : Nat, i ≤ nl ∧ iv = .int .i64 i ∧ wx = w4.drewN q) (fun iv _ => nl - (intOf iv).toNat)
          case atStart => exact ⟨0, 0, Nat.zero_le _, rfl, rfl⟩
          case round =>
            obtain ⟨i, qd, hi, rfl, rfl⟩ := hrel
            by_cases hin : i < nl
            · as_aux_lemma =>
              have hiV : i < V.length := by rw [← HLVL.out, HDW.out.2.1]; exact hin
              have hiL : i < L.length := by rw [HDW.out.2.1]; exact hin
              obtain ⟨b1, b2, b3, b4⟩ := HLD.out V[i] (List.getElem_mem _)
              obtain ⟨gx, ox, hgx, hlx, cx1⟩ := NX.out i hiL
              have eL : L[i] = V[i].1 := by
                have : (idsOf V)[i]? = some V[i].1 := by unfold idsOf; rw [List.getElem?_map, List.getElem?_eq_getElem hiV]; rfl
                rw [HLV.out, List.getElem?_eq_getElem hiL] at this
                injection this
              rw [eL] at cx1
              have cell : ∀ v : Al, v.1 < B.length → B.getD v.1 0 = v.2 → w4.cell? ⟨ga, v.1, none⟩ = some (.int .u64 (v.2 : Int)) := fun v hv1 hv2 => by
                rw [HBR.out.cellAt v.1 (by rw [HBM.out] at hv1; omega)]
                unfold u64s
                rw [List.getElem?_map, List.getElem?_eq_getElem hv1]
                rw [List.getD_eq_getElem?_getD, List.getElem?_eq_getElem hv1] at hv2
                simp at hv2
                rw [hv2]; rfl
              have cB := cell V[i] b1 b2
              have hb1m : V[i].1 < m := by rw [← HBM.out]; exact b1
              by_cases hi0 : i = 0
              · as_aux_lemma =>
                subst hi0
                generalize V[0] = v at cB cx1 hb1m b4
                obtain ⟨vi, vt⟩ := v
                simp only at cB cx1 hb1m b4
                have h1 : ((vi : Int) == (d : Int)) = false := by rw [beq_eq_false_iff_ne]; omega
                have h2 : ¬ m ≤ vi := by omega
                have hin' : (0 : Int) < (nl : Int) := by omega
                have hnl0 : 0 < nl := by omega
                have cx2 : w4.cell? ⟨gx, ox, none⟩ = some (.int .u64 (vi : Int)) := cx1
                subst hgx
                clear cell b1 b2 b3 b4 eL hiV hiL cx1
                go_wp2_with fail
                refine wp_region_quiet_lit (by kernel_rfl) (by kernel_rfl) ?_
                try simp only [List.append]
                repeat (go_big_quiet_step (fail))
                refine wpQuiet_nil ?_
                intro _ hw2
                obtain ⟨nq, hw3⟩ := hw2
                subst hw3
                go_wp2_with fail
                go_roundw
                case rel => exact ⟨1, _, by omega, rfl, rfl⟩
                case measure => (simp [intOf] <;> omega)
              · as_aux_lemma =>
                obtain ⟨j, rfl⟩ : ∃ j, i = j + 1 := ⟨i - 1, by omega⟩
                have hjV : j < V.length := by omega
                have hjL : j < L.length := by omega
                obtain ⟨d1, d2, d3, d4⟩ := HLD.out V[j] (List.getElem_mem _)
                obtain ⟨gx2, ox2, hgx2, hlx2, cxj⟩ := NX.out j hjL
                have eJ : L[j] = V[j].1 := by
                  have : (idsOf V)[j]? = some V[j].1 := by unfold idsOf; rw [List.getElem?_map, List.getElem?_eq_getElem hjV]; rfl
                  rw [HLV.out, List.getElem?_eq_getElem hjL] at this
                  injection this
                rw [eJ] at cxj
                rw [hgx] at hgx2
                injection hgx2 with hgx2
                injection hgx2 with e1 e2
                subst e1 e2
                have cBj := cell V[j] d1 d2
                have hd1m : V[j].1 < m := by rw [← HBM.out]; exact d1
                have hso := sorted_at HSO.out hiV
                generalize V[j + 1] = v at cB cx1 hb1m b4 hso
                generalize V[j] = u at cBj cxj hd1m d4 hso
                obtain ⟨vi, vt⟩ := v
                obtain ⟨ui, ut⟩ := u
                simp only at cB cx1 hb1m b4 cBj cxj hd1m d4 hso
                have h1 : ((vi : Int) == (d : Int)) = false := by rw [beq_eq_false_iff_ne]; omega
                have h2 : ¬ m ≤ vi := by omega
                have h3 : ui < m := hd1m
                have h4 : ¬ vt < ut := by omega
                obtain ⟨i2, hi2⟩ : ∃ i2, j + 1 = i2 := ⟨_, rfl⟩
                have hij : (i2 : Int) - 1 = (j : Int) := by omega
                have hw : IntKind.i64.wrap ((i2 : Int) - 1) = (j : Int) := by rw [hij]; exact IntWalk.i64_in _ (by omega)
                have hi2p : (0 : Int) < (i2 : Int) := by omega
                have hi2n : (i2 : Int) < (nl : Int) := by omega
                have hi20 : (0 : Int) ≤ (i2 : Int) := by omega
                have hj0 : (0 : Int) ≤ (j : Int) := by omega
                have hjn : (j : Int) < (nl : Int) := by omega
                have hn20 : i2 ≤ 20 := by omega
                rw [hi2] at cx1 ⊢
                have HI2 := Lib.hid hi2
                subst hgx
                have hi2nn : i2 < nl := by omega
                have hi2mm : 0 < i2 := by omega
                clear cell b1 b2 b3 b4 eL hiV hiL d1 d2 d3 d4 eJ hjV hjL hi2 hi hin hi0
                by_cases hut : ut = vt
                · as_aux_lemma =>
                  have h5 : ((ut : Int) == (vt : Int)) = true := by rw [hut]; simp
                  have h6 : ¬ vi ≤ ui := by omega
                  clear hut hso
                  go_wp2_with fail
                  refine wp_region_quiet_lit (by kernel_rfl) (by kernel_rfl) ?_
                  try simp only [List.append]
                  repeat (go_big_quiet_step (fail))
                  refine wpQuiet_nil ?_
                  intro _ hw2
                  obtain ⟨nq, hw3⟩ := hw2
                  subst hw3
                  go_wp2_with fail
                  go_roundw
                  case rel => exact ⟨i2 + 1, _, by omega, by go_num, rfl⟩
                  case measure => (simp [intOf] <;> omega)
                · as_aux_lemma =>
                  have h5 : ((ut : Int) == (vt : Int)) = false := by rw [beq_eq_false_iff_ne]; omega
                  clear hut hso
                  go_wp2_with fail
                  refine wp_region_quiet_lit (by kernel_rfl) (by kernel_rfl) ?_
                  try simp only [List.append]
                  repeat (go_big_quiet_step (fail))
                  refine wpQuiet_nil ?_
                  intro _ hw2
                  obtain ⟨nq, hw3⟩ := hw2
                  subst hw3
                  go_wp2_with fail
                  go_roundw
                  case rel => exact ⟨i2 + 1, _, by omega, by go_num, rfl⟩
                  case measure => (simp [intOf] <;> omega)
            · as_aux_lemma =>
              obtain rfl : i = nl := by omega
              have HSA := Lib.hid (same_n (W := w4.drewN qd) (ca := cx) (cb := cy) (n1 := i) (n2 := i) (z := true) (show Nums (w4.drewN qd) ax L from NX.out) (show Nums (w4.drewN qd) ay L from NY.out) HDW.out.2.1 HDW.out.2.1 (by omega) (by omega) (by simp))
              clear hin hi
              go_wp2_with fail
              refine HSA.out.mono ?_
              rintro e w5 ⟨rfl, hb⟩
              have H := Lib.hid ((H4.out.step (bdrewN (Below.refl _ w4) qd)).step hb)
              clear hb HSA
              go_wp2_with fail
              refine (st2_len H.out 0 rfl).mono ?_
              rintro e _ ⟨rfl, rfl⟩
              go_wp2_with fail
              refine (fixed_any _).mono ?_
              rintro e w6 ⟨rfl, hb⟩
              have hB := below_from H.out.below H.out.below.size hb
              clear hb
              go_wp2
              go_ret
              exact ⟨rfl, hB⟩
        · as_aux_lemma =>
          obtain ⟨p, hp⟩ : ∃ p : Nat, p + 1 = q := ⟨q - 1, by omega⟩
          have hzp : z = (p : Int) := by omega
          subst hzp
          have hpm : p < m := by omega
          have hrow := H.out.row (List.mem_cons_self ..)
          rw [HBM.out] at hrow
          have hpB : p < B.length := by rw [HBM.out]; exact hpm
          obtain ⟨t, ht⟩ : ∃ t, B.getD p 0 = t := ⟨_, rfl⟩
          have cp : wr.cell? ⟨ga, p, none⟩ = some (.int .u64 (t : Int)) := by
            rw [hrow.cellAt p (by omega), ← ht]
            unfold u64s
            rw [List.getElem?_map, List.getElem?_eq_getElem hpB, List.getD_eq_getElem?_getD, List.getElem?_eq_getElem hpB]; rfl
          have hpm' : (p : Int) < (m : Int) := by omega
          have hp0 : (0 : Int) ≤ (p : Int) := by omega
          have HTQ := Lib.hid (And.intro hTq hp)
          by_cases hlt : t < 1048576
          · as_aux_lemma =>
            have hap := above_put (p := p) (most := 100) HLS.out (by rw [hp]; exact HAB.out) hpB (by rw [ht]; exact hlt) (by omega)
            rw [ht] at hap
            have HPU := Lib.hid (st2_put H.out.symm p t (by omega) (by omega) (by omega) hap.1 rfl)
            have HAP := Lib.hid hap.2
            have hlt' : (t : Int) < 1048576 := by omega
            unfold apt at HPU
            clear hap hrow hp hz hTq hpB ht hq
            go_wp2_with fail
            refine HPU.out.mono ?_
            rintro e w2 ⟨rfl, h⟩
            have H := Lib.hid h.symm
            clear h HPU
            go_wp2_with fail
            go_roundw
            case rel => exact ⟨p, _, _, by have := HTQ.out; omega, rfl, rfl, HAP.out.1, by have := HTQ.out; rw [HAP.out.2]; omega, H.out⟩
            case measure => (simp [intOf] <;> omega)
          · as_aux_lemma =>
            have HAP := Lib.hid (above_skip HLS.out (by rw [hp]; exact HAB.out) (by rw [ht]; exact hlt))
            have hlt' : ¬ (t : Int) < 1048576 := by omega
            clear hrow hp hz hTq hpB ht hq
            go_wp2_with fail
            go_roundw
            case rel => exact ⟨p, _, T, by have := HTQ.out; omega, rfl, rfl, HAP.out, by have := HTQ.out; omega, H.out⟩
            case measure => (simp [intOf] <;> omega)
end Go.Proofs.Ytjdeejbpkdgohaa
