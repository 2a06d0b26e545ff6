/- The document's Put. -/
import Derived.Test.YtjdeejbpkdgohaaX
namespace Go.Proofs.Ytjdeejbpkdgohaa
open Go.RowKit Go.Maps
set_option maxHeartbeats 4000000
set_option maxRecDepth 100000
set_option linter.unusedVariables false

theorem place_unique {S : List Al} {id : Nat} {r s : Int} (hi : Ids S) (h : PlaceOk S id r) (k : PlaceOk S id s) : r = s := by
  rcases h with ⟨h1, rfl⟩ | ⟨i, hi1, rfl, h2⟩ <;> rcases k with ⟨k1, rfl⟩ | ⟨j, hj1, rfl, k2⟩
  · rfl
  · have := has_mem.2 ⟨S[j], List.getElem_mem _, k2⟩; rw [h1] at this; cases this
  · have := has_mem.2 ⟨S[i], List.getElem_mem _, h2⟩; rw [k1] at this; cases this
  · unfold Ids at hi
    have e : (S.map Prod.fst)[i]'(by simpa using hi1) = (S.map Prod.fst)[j]'(by simpa using hj1) := by
      rw [List.getElem_map, List.getElem_map, h2, k2]
    have hp := List.pairwise_iff_getElem.1 hi
    rcases Nat.lt_trichotomy i j with h | h | h
    · exact absurd e (hp i j (by simpa using hi1) (by simpa using hj1) h)
    · rw [h]
    · exact absurd e.symm (hp j i (by simpa using hj1) (by simpa using hi1) h)
theorem place_ex (S : List Al) (id : Nat) : ∃ r, PlaceOk S id r := by
  cases hs : hasS S id
  · exact ⟨-1, .inl ⟨hs, rfl⟩⟩
  · obtain ⟨x, hx, e⟩ := has_mem.1 hs
    obtain ⟨k, hk, rfl⟩ := List.getElem_of_mem hx
    exact ⟨k, .inr ⟨k, hk, rfl, e⟩⟩
theorem place_is {W : World} {br : Nat} {G : Nat → Prop} {S : List Al} {most : Int} (h : RefAt W br G S most) {id : Nat} {r : Int} (hl : S.length < 1000000) (hi : Ids S) (hr : PlaceOk S id r) :
    Calls Try.prog 23 #[apt br, .int .u64 id] W fun e w' => e = .returned (.int .i64 r) ∧ W = w' :=
  (place_any h id hl).mono fun e w' ⟨⟨s, he, hs⟩, hw⟩ => ⟨by rw [he, place_unique hi hs hr], hw⟩
theorem insA_after {x : Al} {A B : List Al} (h : ∀ y ∈ A, ltA x y = false) : insA x (A ++ B) = A ++ insA x B := by
  induction A with
  | nil => rfl
  | cons y A ih =>
    rw [List.cons_append, List.cons_append, insA, h y (List.mem_cons_self ..), ih (fun z hz => h z (List.mem_cons_of_mem _ hz))]
    rfl
theorem insA_ahead {x : Al} {A B : List Al} (h : ∃ y ∈ A, ltA x y = true) : insA x (A ++ B) = insA x A ++ B := by
  induction A with
  | nil => obtain ⟨y, hy, _⟩ := h; cases hy
  | cons y A ih =>
    rw [List.cons_append, insA, insA]
    cases hxy : ltA x y
    · obtain ⟨z, hz, e⟩ := h
      rcases List.mem_cons.1 hz with rfl | hz
      · rw [hxy] at e; cases e
      · have := ih ⟨z, hz, e⟩
        simp only [Bool.false_eq_true, if_false]
        rw [this]; rfl
    · rfl
/-- the new list, when k of T were seen; z: is x in it? -/
def InsPre (T : List Al) (x : Al) (k : Nat) (z : Bool) (L : List Al) : Prop :=
  (z = false ∧ L = T.take k ∧ ∀ y ∈ T.take k, ltA x y = false) ∨ (z = true ∧ L = insA x (T.take k) ∧ ∃ y ∈ T.take k, ltA x y = true)
theorem insPre_len {T : List Al} {x : Al} {k : Nat} {z : Bool} {L : List Al} (h : InsPre T x k z L) (hk : k ≤ T.length) : L.length ≤ k + 1 := by
  rcases h with ⟨_, rfl, _⟩ | ⟨_, rfl, _⟩
  · rw [List.length_take]; omega
  · rw [(insA_perm _ _).length_eq, List.length_cons, List.length_take]; omega
theorem insPre_done {T : List Al} {x : Al} {k : Nat} {L : List Al} (h : InsPre T x k true L) (hk : k < T.length) : InsPre T x (k + 1) true (L ++ [T[k]]) := by
  rcases h with ⟨h, _⟩ | ⟨_, rfl, h⟩
  · cases h
  · right
    rw [List.take_succ_eq_append_getElem hk]
    obtain ⟨y, hy, e⟩ := h
    exact ⟨rfl, (insA_ahead ⟨y, hy, e⟩).symm, y, List.mem_append_left _ hy, e⟩
theorem insPre_now {T : List Al} {x : Al} {k : Nat} {L : List Al} (h : InsPre T x k false L) (hk : k < T.length) (hlt : ltA x T[k] = true) : InsPre T x (k + 1) true (L ++ [x] ++ [T[k]]) := by
  rcases h with ⟨_, rfl, h⟩ | ⟨h, _⟩
  · right
    rw [List.take_succ_eq_append_getElem hk]
    refine ⟨rfl, ?_, T[k], List.mem_append_right _ (List.mem_cons_self ..), hlt⟩
    rw [insA_after h, insA, hlt]; simp
  · cases h
theorem insPre_not {T : List Al} {x : Al} {k : Nat} {L : List Al} (h : InsPre T x k false L) (hk : k < T.length) (hlt : ltA x T[k] = false) : InsPre T x (k + 1) false (L ++ [T[k]]) := by
  rcases h with ⟨_, rfl, h⟩ | ⟨h, _⟩
  · left
    rw [List.take_succ_eq_append_getElem hk]
    refine ⟨rfl, rfl, fun y hy => ?_⟩
    rcases List.mem_append.1 hy with hy | hy
    · exact h y hy
    · simp at hy; subst hy; exact hlt
  · cases h
theorem insPre_end {T : List Al} {x : Al} {L : List Al} : (InsPre T x T.length true L → L = insA x T) ∧ (InsPre T x T.length false L → L ++ [x] = insA x T) := by
  constructor
  · rintro (⟨h, _⟩ | ⟨_, rfl, _⟩)
    · cases h
    · rw [List.take_length]
  · rintro (⟨_, rfl, h⟩ | ⟨h, _⟩)
    · rw [List.take_length] at *
      have := insA_after (B := []) h
      rw [List.append_nil] at this
      rw [this]; rfl
    · cases h

theorem put_app {w1 W w5 : World} {v : Value} {n : Nat} {xs : List Value} (hB : Below w1.heap.size w1 W) (hown : W.ownsRow w1.heap.size 66 2 v n xs) (hg : W.grownBy w5 v.ownBlock) : Below w1.heap.size w1 w5 :=
  (((below_touch hB)).grown hg (fun j hj => .inr (hown.lt j hj).1)).below (fun j h => h.elim) (Nat.le_refl _)
theorem ltA_case (x y : Al) : (x.2 < y.2 ∧ ltA x y = true) ∨ (¬ x.2 < y.2 ∧ ((x.2 : Int) == (y.2 : Int)) = true ∧ x.1 < y.1 ∧ ltA x y = true) ∨ (¬ x.2 < y.2 ∧ ((x.2 : Int) == (y.2 : Int)) = true ∧ ¬ x.1 < y.1 ∧ ltA x y = false) ∨ (¬ x.2 < y.2 ∧ ((x.2 : Int) == (y.2 : Int)) = false ∧ ltA x y = false) := by
  rw [beq_iff_eq, beq_eq_false_iff_ne, ltA_iff, ltA_not]; omega
theorem els_snoc (L : List Al) (i t : Nat) : els (L ++ [(i, t)]) = els L ++ [.int .u64 (i : Int), .int .u64 (t : Int)] := by rw [els_app]; rfl
theorem rput_full {W : World} {br : Nat} {G : Nat → Prop} {S : List Al} {most : Int} (h : RefAt W br G S most) {id t : Nat} (hl : S.length < 1000000) (hi : Ids S) (hs : hasS S id = false) (hm : most ≤ S.length) :
    Calls Try.prog 11 #[apt br, .int .u64 id, .int .u64 t] W (RTurns W br G S most (.int .i64 8)) := by
  have HR := Lib.hid h
  have HP := Lib.hid (fun n => (place_is (h.below (bdrewN (Below.refl _ _) n)) hl hi (.inl ⟨hs, rfl⟩)).mono (fun e w' (h : _ ∧ _) => (⟨h.1, 0, h.2.symm⟩ : e = .returned (.int .i64 (-1)) ∧ ∃ m, w' = (W.drewN n).drewN m)))
  obtain ⟨a, c, h1, h2, h3, h4, h5, h6⟩ := h
  have cr0 : W.cell? ⟨br, 0, none⟩ = some (.slice a S.length c) := by rw [h1.rd]; rfl
  have cr1 : W.cell? ⟨br, 1, none⟩ = some (.int .i64 most) := by rw [h1.rd]; rfl
  obtain ⟨n, hn⟩ : ∃ n, S.length = n := ⟨_, rfl⟩
  rw [hn] at cr0 hm
  clear h1 h2 h3 h5 h6
  unfold apt at HP ⊢
  have hmx : decide ((if 0 < most then most else 0) ≤ (n : Int)) = true := by rw [decide_eq_true_eq]; split <;> omega
  clear hs hi hn hm h4
  go_enter Try.func11, Try.ntmps11
  go_wp2_with fail
  refine wp_region_quiet_lit (by kernel_rfl) (by kernel_rfl) ?_
  repeat (go_big_quiet_step ((go_at_call 23; exact Calls.quiet_of (HP.out _))))
  generalize (if 0 < most then most else 0) = mx at hmx ⊢
  refine wpQuiet_nil ?_
  intro _ hw2
  obtain ⟨nq, hw3⟩ := hw2
  subst hw3
  go_wp2_with fail
  go_ret
  have hb : Below W.heap.size W (W.drewN nq) := bdrewN (Below.refl _ _) nq
  exact ⟨rfl, G, HR.out.below hb, (below_touch hb).mono (fun _ h => h.elim), fun b hb => .inl hb⟩
theorem rput_go {W : World} {br : Nat} {G : Nat → Prop} {S : List Al} {most : Int} (h : RefAt W br G S most) {id t : Nat} {r : Int} (hl : S.length < 900000) (hi : Ids S) (hid : id < 18446744073709551616) (ht : t < 18446744073709551616) (hr : PlaceOk S id r) (hm : r < 0 → ¬ most ≤ S.length) :
    Calls Try.prog 11 #[apt br, .int .u64 id, .int .u64 t] W (RTurns W br G (putL S id t) most (.int .i64 0)) := by
  have HR := Lib.hid h
  have HP := Lib.hid (fun n => (place_is (h.below (bdrewN (Below.refl _ _) n)) (by omega) hi hr).mono (fun e w' (h : _ ∧ _) => (⟨h.1, 0, h.2.symm⟩ : e = .returned (.int .i64 (r)) ∧ ∃ m, w' = (W.drewN n).drewN m)))
  obtain ⟨a, c, h1, h2, h3, h4, h5, h6⟩ := h
  have cr0 : W.cell? ⟨br, 0, none⟩ = some (.slice a S.length c) := by rw [h1.rd]; rfl
  have cr1 : W.cell? ⟨br, 1, none⟩ = some (.int .i64 most) := by rw [h1.rd]; rfl
  obtain ⟨n, hn⟩ : ∃ n, S.length = n := ⟨_, rfl⟩
  rw [hn] at cr0 hm
  clear h1 h2 h3 h5 h6
  unfold apt at HP ⊢
  have HI := Lib.hid hi
  obtain ⟨i0, hi0, hi1, hi2, hi3⟩ := info_parts infoO
  have hway : (decide (r < 0) = false) ∨ (decide (r < 0) = true ∧ decide ((if 0 < most then most else 0) ≤ (n : Int)) = false) := by
    by_cases h : r < 0
    · exact .inr ⟨by simpa using h, by have := hm h; rw [decide_eq_false_iff_not]; split <;> omega⟩
    · exact .inl (by simpa using h)
  have hn6 : n < 900000 := by omega
  have HN := Lib.hid hn
  have HB0 := Lib.hid h4
  clear hr hi hn hm h4 hl
  go_enter Try.func11, Try.ntmps11
  go_wp2_with fail
  rcases hway with hw | ⟨hw, hmx⟩
  all_goals
    refine wp_region_quiet_lit (by kernel_rfl) (by kernel_rfl) ?_
    repeat (go_big_quiet_step ((go_at_call 23; exact Calls.quiet_of (HP.out _))))
    try (generalize (if 0 < most then most else 0) = mx at hmx ⊢)
    refine wpQuiet_nil ?_
    intro _ hw2
    obtain ⟨nq, hw3⟩ := hw2
    subst hw3
    go_wp2_with fail
    refine (rdrop_any (HR.out.below (bdrewN (Below.refl _ _) nq)) (by rw [HN.out]; omega) HI.out).mono ?_
    rintro e w1 ⟨rfl, G1, hR1, hT1, hG1⟩
    have HR1 := Lib.hid hR1
    have HT1 := Lib.hid (show Touch (fun b => b = br) W w1 from ⟨hT1.os, hT1.tape, hT1.output, hT1.size, hT1.block⟩)
    have HG1 := Lib.hid (show ∀ b, G1 b → G b ∨ W.heap.size ≤ b from hG1)
    obtain ⟨T, hT⟩ : ∃ T, dropS S id = T := ⟨_, rfl⟩
    rw [hT] at hR1
    obtain ⟨m, hm⟩ : ∃ m, T.length = m := ⟨_, rfl⟩
    have hm6 : m < 900000 := by rw [← hm, ← hT]; have := drop_len (S := S) (id := id); have := HN.out; omega
    have HT := Lib.hid hT
    have HM := Lib.hid hm
    have HN1 := Lib.hid (show ∀ y ∈ T, y.1 ≠ id from by rw [← hT]; exact drop_not S id)
    obtain ⟨aT, cT, q1, q2, q3, q4, q5, q6⟩ := hR1
    have cq0 : w1.cell? ⟨br, 0, none⟩ = some (.slice aT m cT) := by rw [q1.rd, hm]; rfl
    have HQ := Lib.hid q1
    have HQ2 := Lib.hid q2
    have HG1B := Lib.hid q4
    have hbr1 := q1.lt
    clear hT1 hG1 hT hm q1 q2 q3 q4 q5 q6
    go_wp2_with fail
    go_loopw [7, 8, 9] (fun v d i wr => ∃ (k : Nat) (z : Bool) (L : List Al) (a c q : Nat), k ≤ m ∧ i = .int .i64 k ∧ d = .bool z ∧ L.length = q ∧ v = .slice (some ⟨a, 0, none⟩) q c ∧ InsPre T (id, t) k z L ∧ Below w1.heap.size w1 wr ∧ wr.ownsRow w1.heap.size 66 2 (.slice (some ⟨a, 0, none⟩) q c) q (els L)) (fun _ _ i _ => m - (intOf i).toNat)
    case atStart => exact ⟨0, false, [], w1.heap.size, 0, 0, Nat.zero_le _, rfl, rfl, rfl, rfl, .inl ⟨rfl, rfl, fun y hy => by cases hy⟩, (Below.refl _ _).alloc (Nat.le_refl _) _, ⟨rfl, .inr ⟨w1.heap.size, 0, #[], rfl, Nat.le_refl _, heap_alloc_new w1 _, Nat.le_refl _, Nat.zero_le _, rfl, rfl⟩⟩⟩
    case round =>
      obtain ⟨k, z, L, ga, ca, q, hk, rfl, rfl, hLq, rfl, hI, hB, hown⟩ := hrel
      have HI2 := Lib.hid hI
      have HL := Lib.hid hLq
      have HB := Lib.hid hB
      have HO := Lib.hid hown
      have hqk : q ≤ k + 1 := by rw [← hLq]; exact insPre_len hI (by rw [HM.out]; exact hk)
      have cw0 : wr.cell? ⟨br, 0, none⟩ = some (.slice aT m cT) := keep hB cq0
      have hszB := hB.size
      clear hI hLq hB hown
      by_cases hkm : k < m
      · obtain ⟨gT, oT, rfl, hgT, y0, y1⟩ := HQ2.out k (by rw [HM.out]; exact hkm)
        have y0' := keep HB.out y0
        have y1' := keep HB.out y1
        have hkT : k < T.length := by rw [HM.out]; exact hkm
        obtain ⟨y, hy⟩ : ∃ y, T[k] = y := ⟨_, rfl⟩
        rw [hy] at y0' y1'
        have HY := Lib.hid hy
        have hkm' : (k : Int) < (m : Int) := by omega
        have hk0 : (0 : Int) ≤ (k : Int) := by omega
        clear y0 y1 hy
        obtain ⟨yi, yt⟩ := y
        simp only at y0' y1'
        cases z
        · rcases ltA_case (id, t) (yi, yt) with ⟨g1, hlt⟩ | ⟨g1, g2, g3, hlt⟩ | ⟨g1, g2, g3, hlt⟩ | ⟨g1, g2, hlt⟩
          all_goals simp only at g1 hlt
          all_goals try simp only at g2
          all_goals try simp only at g3
          · as_aux_lemma =>
            have HP2 := Lib.hid (insPre_now HI2.out hkT (by rw [HY.out]; exact hlt))
            rw [HY.out] at HP2
            have HO2 := Lib.hid (show ((wr.alloc (.cells #[.int .u64 (yi : Int), .int .u64 (yt : Int)] 66)).alloc (.cells #[.int .u64 (id : Int), .int .u64 (t : Int)] 66)).ownsRow w1.heap.size 66 2 (.slice (some ⟨ga, 0, none⟩) q ca) q (els L) from (HO.out.alloc _).alloc _)
            have tok : True := trivial
            clear HY hkT
            go_wp2_with (at_builtin; first | (have _t := tok; refine wpList_append_lies _ rfl _ _ _ rfl w1.heap.size 66 i0 (.agg #[.int .u64 0, .int .u64 0]) 2 16 Try.underlying26 hi0 hi1 hi2 hi3 rfl (by decide) (.slice (some ⟨ga, 0, none⟩) q ca) q (els L) rfl HO2.out ⟨wr.heap.size + 1, 0, none⟩ 1 1 [.int .u64 (id : Int), .int .u64 (t : Int)] rfl rfl (World.news_of_block (B := wr.heap.size + 1) (cs := #[.int .u64 (id : Int), .int .u64 (t : Int)]) (t := 66) (fr := (0, 0)) (news1 (by simp))) (by simp [Value.oneCell']) (by omega) (by unfold maxLen; omega) (by omega) (by simp; omega) (wr.heap.size + 2) (by simp) ?_; intro gd cd w4 hown4 hgrow4 hat4 hlt4; have HO4 := Lib.hid hown4; have HB4 := Lib.hid (put_app ((HB.out.alloc hszB _).alloc (Nat.le_trans hszB (by simp)) _) HO2.out hgrow4); have HAT := Lib.hid (show At w4 wr.heap.size 66 #[.int .u64 (yi : Int), .int .u64 (yt : Int)] from ((At.new wr 66 _).alloc _).grown hgrow4 (fun e => by simp [Value.ownBlock] at e; have := (HO.out.lt ga rfl).2; omega)); have z0 : w4.cell? ⟨wr.heap.size, 0, none⟩ = some (.int .u64 (yi : Int)) := (by rw [HAT.out.rd]; rfl); have z1 : w4.cell? ⟨wr.heap.size, 1, none⟩ = some (.int .u64 (yt : Int)) := (by rw [HAT.out.rd]; rfl); have hsz4 := HB4.out.size; have HO6 := Lib.hid (show (w4.alloc (.cells #[.int .u64 (yi : Int), .int .u64 (yt : Int)] 66)).ownsRow w1.heap.size 66 2 (.slice (some ⟨gd, 0, none⟩) (q + 1) cd) (q + 1) (els L ++ [.int .u64 (id : Int), .int .u64 (t : Int)]) from HO4.out.alloc _); clear hown4 hgrow4 hat4 hlt4 tok) | (refine wpList_append_lies _ rfl _ _ _ rfl w1.heap.size 66 i0 (.agg #[.int .u64 0, .int .u64 0]) 2 16 Try.underlying26 hi0 hi1 hi2 hi3 rfl (by decide) (.slice (some ⟨gd, 0, none⟩) (q + 1) cd) (q + 1) (els L ++ [.int .u64 (id : Int), .int .u64 (t : Int)]) rfl HO6.out ⟨w4.heap.size, 0, none⟩ 1 1 [.int .u64 (yi : Int), .int .u64 (yt : Int)] rfl rfl (World.news_of_block (B := w4.heap.size) (cs := #[.int .u64 (yi : Int), .int .u64 (yt : Int)]) (t := 66) (fr := (0, 0)) (news1 (by simp))) (by simp [Value.oneCell']) (by omega) (by unfold maxLen; omega) (by omega) (by simp; omega) (w4.heap.size + 1) (by simp) ?_; intro ge cq w5 hown5 hgrow5 hat5 hlt5))
            have HO5 := Lib.hid hown5
            have HB5 := Lib.hid (put_app (HB4.out.alloc hsz4 _) HO6.out hgrow5)
            clear hown5 hgrow5 hat5 hlt5
            go_roundw
            case rel => exact ⟨k + 1, true, L ++ [(id, t)] ++ [(yi, yt)], ge, cq, q + 1 + 1, by omega, by go_num, rfl, by rw [List.length_append, List.length_append, HL.out]; rfl, rfl, HP2.out, HB5.out, by rw [els_snoc, els_snoc]; exact HO5.out⟩
            case measure => (simp [intOf] <;> omega)
          · as_aux_lemma =>
            have HP2 := Lib.hid (insPre_now HI2.out hkT (by rw [HY.out]; exact hlt))
            rw [HY.out] at HP2
            have HO2 := Lib.hid (show ((wr.alloc (.cells #[.int .u64 (yi : Int), .int .u64 (yt : Int)] 66)).alloc (.cells #[.int .u64 (id : Int), .int .u64 (t : Int)] 66)).ownsRow w1.heap.size 66 2 (.slice (some ⟨ga, 0, none⟩) q ca) q (els L) from (HO.out.alloc _).alloc _)
            have tok : True := trivial
            clear HY hkT
            go_wp2_with (at_builtin; first | (have _t := tok; refine wpList_append_lies _ rfl _ _ _ rfl w1.heap.size 66 i0 (.agg #[.int .u64 0, .int .u64 0]) 2 16 Try.underlying26 hi0 hi1 hi2 hi3 rfl (by decide) (.slice (some ⟨ga, 0, none⟩) q ca) q (els L) rfl HO2.out ⟨wr.heap.size + 1, 0, none⟩ 1 1 [.int .u64 (id : Int), .int .u64 (t : Int)] rfl rfl (World.news_of_block (B := wr.heap.size + 1) (cs := #[.int .u64 (id : Int), .int .u64 (t : Int)]) (t := 66) (fr := (0, 0)) (news1 (by simp))) (by simp [Value.oneCell']) (by omega) (by unfold maxLen; omega) (by omega) (by simp; omega) (wr.heap.size + 2) (by simp) ?_; intro gd cd w4 hown4 hgrow4 hat4 hlt4; have HO4 := Lib.hid hown4; have HB4 := Lib.hid (put_app ((HB.out.alloc hszB _).alloc (Nat.le_trans hszB (by simp)) _) HO2.out hgrow4); have HAT := Lib.hid (show At w4 wr.heap.size 66 #[.int .u64 (yi : Int), .int .u64 (yt : Int)] from ((At.new wr 66 _).alloc _).grown hgrow4 (fun e => by simp [Value.ownBlock] at e; have := (HO.out.lt ga rfl).2; omega)); have z0 : w4.cell? ⟨wr.heap.size, 0, none⟩ = some (.int .u64 (yi : Int)) := (by rw [HAT.out.rd]; rfl); have z1 : w4.cell? ⟨wr.heap.size, 1, none⟩ = some (.int .u64 (yt : Int)) := (by rw [HAT.out.rd]; rfl); have hsz4 := HB4.out.size; have HO6 := Lib.hid (show (w4.alloc (.cells #[.int .u64 (yi : Int), .int .u64 (yt : Int)] 66)).ownsRow w1.heap.size 66 2 (.slice (some ⟨gd, 0, none⟩) (q + 1) cd) (q + 1) (els L ++ [.int .u64 (id : Int), .int .u64 (t : Int)]) from HO4.out.alloc _); clear hown4 hgrow4 hat4 hlt4 tok) | (refine wpList_append_lies _ rfl _ _ _ rfl w1.heap.size 66 i0 (.agg #[.int .u64 0, .int .u64 0]) 2 16 Try.underlying26 hi0 hi1 hi2 hi3 rfl (by decide) (.slice (some ⟨gd, 0, none⟩) (q + 1) cd) (q + 1) (els L ++ [.int .u64 (id : Int), .int .u64 (t : Int)]) rfl HO6.out ⟨w4.heap.size, 0, none⟩ 1 1 [.int .u64 (yi : Int), .int .u64 (yt : Int)] rfl rfl (World.news_of_block (B := w4.heap.size) (cs := #[.int .u64 (yi : Int), .int .u64 (yt : Int)]) (t := 66) (fr := (0, 0)) (news1 (by simp))) (by simp [Value.oneCell']) (by omega) (by unfold maxLen; omega) (by omega) (by simp; omega) (w4.heap.size + 1) (by simp) ?_; intro ge cq w5 hown5 hgrow5 hat5 hlt5))
            have HO5 := Lib.hid hown5
            have HB5 := Lib.hid (put_app (HB4.out.alloc hsz4 _) HO6.out hgrow5)
            clear hown5 hgrow5 hat5 hlt5
            go_roundw
            case rel => exact ⟨k + 1, true, L ++ [(id, t)] ++ [(yi, yt)], ge, cq, q + 1 + 1, by omega, by go_num, rfl, by rw [List.length_append, List.length_append, HL.out]; rfl, rfl, HP2.out, HB5.out, by rw [els_snoc, els_snoc]; exact HO5.out⟩
            case measure => (simp [intOf] <;> omega)
          · as_aux_lemma =>
            have HP2 := Lib.hid (by have := insPre_not HI2.out hkT (by rw [HY.out]; exact hlt); rw [HY.out] at this; exact this)
            have HO2 := Lib.hid (show ((wr.alloc (.cells #[.int .u64 (yi : Int), .int .u64 (yt : Int)] 66)).alloc (.cells #[.int .u64 (yi : Int), .int .u64 (yt : Int)] 66)).ownsRow w1.heap.size 66 2 (.slice (some ⟨ga, 0, none⟩) q ca) q (els L) from (HO.out.alloc _).alloc _)
            clear HY hkT
            go_wp2_with (at_builtin; refine wpList_append_lies _ rfl _ _ _ rfl w1.heap.size 66 i0 (.agg #[.int .u64 0, .int .u64 0]) 2 16 Try.underlying26 hi0 hi1 hi2 hi3 rfl (by decide) (.slice (some ⟨ga, 0, none⟩) q ca) q (els L) rfl HO2.out ⟨wr.heap.size + 1, 0, none⟩ 1 1 [.int .u64 (yi : Int), .int .u64 (yt : Int)] rfl rfl (World.news_of_block (B := wr.heap.size + 1) (cs := #[.int .u64 (yi : Int), .int .u64 (yt : Int)]) (t := 66) (fr := (0, 0)) (news1 (by simp))) (by simp [Value.oneCell']) (by omega) (by unfold maxLen; omega) (by omega) (by simp; omega) (wr.heap.size + 2) (by simp) ?_; intro ge cq w5 hown5 hgrow5 hat5 hlt5)
            have HO5 := Lib.hid hown5
            have HB5 := Lib.hid (put_app ((HB.out.alloc hszB _).alloc (Nat.le_trans hszB (by simp)) _) HO2.out hgrow5)
            clear hown5 hgrow5 hat5 hlt5
            go_roundw
            case rel => exact ⟨k + 1, false, L ++ [(yi, yt)], ge, cq, q + 1, by omega, by go_num, rfl, by rw [List.length_append, HL.out]; rfl, rfl, HP2.out, HB5.out, by rw [els_snoc]; exact HO5.out⟩
            case measure => (simp [intOf] <;> omega)
          · as_aux_lemma =>
            have HP2 := Lib.hid (by have := insPre_not HI2.out hkT (by rw [HY.out]; exact hlt); rw [HY.out] at this; exact this)
            have HO2 := Lib.hid (show ((wr.alloc (.cells #[.int .u64 (yi : Int), .int .u64 (yt : Int)] 66)).alloc (.cells #[.int .u64 (yi : Int), .int .u64 (yt : Int)] 66)).ownsRow w1.heap.size 66 2 (.slice (some ⟨ga, 0, none⟩) q ca) q (els L) from (HO.out.alloc _).alloc _)
            clear HY hkT
            go_wp2_with (at_builtin; refine wpList_append_lies _ rfl _ _ _ rfl w1.heap.size 66 i0 (.agg #[.int .u64 0, .int .u64 0]) 2 16 Try.underlying26 hi0 hi1 hi2 hi3 rfl (by decide) (.slice (some ⟨ga, 0, none⟩) q ca) q (els L) rfl HO2.out ⟨wr.heap.size + 1, 0, none⟩ 1 1 [.int .u64 (yi : Int), .int .u64 (yt : Int)] rfl rfl (World.news_of_block (B := wr.heap.size + 1) (cs := #[.int .u64 (yi : Int), .int .u64 (yt : Int)]) (t := 66) (fr := (0, 0)) (news1 (by simp))) (by simp [Value.oneCell']) (by omega) (by unfold maxLen; omega) (by omega) (by simp; omega) (wr.heap.size + 2) (by simp) ?_; intro ge cq w5 hown5 hgrow5 hat5 hlt5)
            have HO5 := Lib.hid hown5
            have HB5 := Lib.hid (put_app ((HB.out.alloc hszB _).alloc (Nat.le_trans hszB (by simp)) _) HO2.out hgrow5)
            clear hown5 hgrow5 hat5 hlt5
            go_roundw
            case rel => exact ⟨k + 1, false, L ++ [(yi, yt)], ge, cq, q + 1, by omega, by go_num, rfl, by rw [List.length_append, HL.out]; rfl, rfl, HP2.out, HB5.out, by rw [els_snoc]; exact HO5.out⟩
            case measure => (simp [intOf] <;> omega)
        · as_aux_lemma =>
          have HP2 := Lib.hid (by have := insPre_done HI2.out hkT; rw [HY.out] at this; exact this)
          have HO2 := Lib.hid (show ((wr.alloc (.cells #[.int .u64 (yi : Int), .int .u64 (yt : Int)] 66)).alloc (.cells #[.int .u64 (yi : Int), .int .u64 (yt : Int)] 66)).ownsRow w1.heap.size 66 2 (.slice (some ⟨ga, 0, none⟩) q ca) q (els L) from (HO.out.alloc _).alloc _)
          clear HY hkT
          go_wp2_with (at_builtin; refine wpList_append_lies _ rfl _ _ _ rfl w1.heap.size 66 i0 (.agg #[.int .u64 0, .int .u64 0]) 2 16 Try.underlying26 hi0 hi1 hi2 hi3 rfl (by decide) (.slice (some ⟨ga, 0, none⟩) q ca) q (els L) rfl HO2.out ⟨wr.heap.size + 1, 0, none⟩ 1 1 [.int .u64 (yi : Int), .int .u64 (yt : Int)] rfl rfl (World.news_of_block (B := wr.heap.size + 1) (cs := #[.int .u64 (yi : Int), .int .u64 (yt : Int)]) (t := 66) (fr := (0, 0)) (news1 (by simp))) (by simp [Value.oneCell']) (by omega) (by unfold maxLen; omega) (by omega) (by simp; omega) (wr.heap.size + 2) (by simp) ?_; intro ge cq w5 hown5 hgrow5 hat5 hlt5)
          have HO5 := Lib.hid hown5
          have HB5 := Lib.hid (put_app ((HB.out.alloc hszB _).alloc (Nat.le_trans hszB (by simp)) _) HO2.out hgrow5)
          clear hown5 hgrow5 hat5 hlt5
          go_roundw
          case rel => exact ⟨k + 1, true, L ++ [(yi, yt)], ge, cq, q + 1, by omega, by go_num, rfl, by rw [List.length_append, HL.out]; rfl, rfl, HP2.out, HB5.out, by rw [els_snoc]; exact HO5.out⟩
          case measure => (simp [intOf] <;> omega)
      · as_aux_lemma =>
        obtain rfl : k = m := by omega
        cases z
        · have HP2 := Lib.hid (insPre_end.2 (show InsPre T (id, t) T.length false L from by rw [HM.out]; exact HI2.out))
          have HO2 := Lib.hid (show (wr.alloc (.cells #[.int .u64 (id : Int), .int .u64 (t : Int)] 66)).ownsRow w1.heap.size 66 2 (.slice (some ⟨ga, 0, none⟩) q ca) q (els L) from HO.out.alloc _)
          clear hkm hk
          go_wp2_with (at_builtin; refine wpList_append_lies _ rfl _ _ _ rfl w1.heap.size 66 i0 (.agg #[.int .u64 0, .int .u64 0]) 2 16 Try.underlying26 hi0 hi1 hi2 hi3 rfl (by decide) (.slice (some ⟨ga, 0, none⟩) q ca) q (els L) rfl HO2.out ⟨wr.heap.size, 0, none⟩ 1 1 [.int .u64 (id : Int), .int .u64 (t : Int)] rfl rfl (World.news_of_block (B := wr.heap.size) (cs := #[.int .u64 (id : Int), .int .u64 (t : Int)]) (t := 66) (fr := (0, 0)) (news1 (by simp))) (by simp [Value.oneCell']) (by omega) (by unfold maxLen; omega) (by omega) (by simp; omega) (wr.heap.size + 1) (by simp) ?_; intro ge cq w5 hown5 hgrow5 hat5 hlt5; have HO5 := Lib.hid hown5; have HB5 := Lib.hid (put_app (HB.out.alloc hszB _) HO2.out hgrow5); have hq5 := HQ.out.keep HB5.out; have cz : w5.cell? ⟨br, 0, none⟩ = some (.slice aT k cT) := (by rw [hq5.rd, HM.out]; rfl); have fz := hq5.fr 0; have lz := hq5.lt; have HQ5 := Lib.hid hq5; clear hown5 hgrow5 hat5 hlt5 hq5)
          go_ret
          obtain ⟨G', c1, c2, c3⟩ := ref_close (W := w1) (w2 := w5) (n := q + 1) (S := putL S id t) HQ5.out hbr1 HG1B.out ((below_touch HB5.out).mono (fun _ h => h.elim)) (by
            have e : putL S id t = L ++ [(id, t)] := by unfold putL; rw [HT.out]; exact HP2.out.symm
            rw [e]; rw [els_snoc]; exact HO5.out) (by
            have e : putL S id t = L ++ [(id, t)] := by unfold putL; rw [HT.out]; exact HP2.out.symm
            rw [e]; rw [List.length_append, HL.out]; rfl)
          exact ⟨rfl, G', c1, HT1.out.trans c2 (fun j hj => .inl hj), fun b hb => (c3 b hb).elim (HG1.out b) (fun h => .inr (Nat.le_trans HT1.out.size h))⟩
        · have HP2 := Lib.hid (insPre_end.1 (show InsPre T (id, t) T.length true L from by rw [HM.out]; exact HI2.out))
          have hq5 := HQ.out.keep HB.out
          have fz := hq5.fr 0
          have lz := hq5.lt
          have HQ5 := Lib.hid hq5
          clear hkm hk hq5
          go_wp2_with fail
          go_ret
          obtain ⟨G', c1, c2, c3⟩ := ref_close (W := w1) (w2 := wr) (n := q) (S := putL S id t) HQ5.out hbr1 HG1B.out ((below_touch HB.out).mono (fun _ h => h.elim)) (by
            have e : putL S id t = L := by unfold putL; rw [HT.out]; exact HP2.out.symm
            rw [e]; exact HO.out) (by
            have e : putL S id t = L := by unfold putL; rw [HT.out]; exact HP2.out.symm
            rw [e]; exact HL.out)
          exact ⟨rfl, G', c1, HT1.out.trans c2 (fun j hj => .inl hj), fun b hb => (c3 b hb).elim (HG1.out b) (fun h => .inr (Nat.le_trans HT1.out.size h))⟩
theorem rput_any {W : World} {br : Nat} {G : Nat → Prop} {S : List Al} {most : Int} (h : RefAt W br G S most) {id t : Nat} (hl : S.length < 900000) (hi : Ids S) (hid : id < 18446744073709551616) (ht : t < 18446744073709551616) :
    Calls Try.prog 11 #[apt br, .int .u64 id, .int .u64 t] W (RTurns W br G (putS S most id t) most (.int .i64 (putE S most id))) := by
  obtain ⟨r, hr⟩ := place_ex S id
  unfold putS putE
  cases hs : hasS S id
  · by_cases hm : most ≤ (S.length : Int)
    · simp only [Bool.false_eq_true, if_false, if_pos hm]
      exact rput_full h (by omega) hi hs hm
    · simp only [Bool.false_eq_true, if_false, if_neg hm]
      exact rput_go h hl hi hid ht hr (fun _ => hm)
  · simp only [if_true]
    refine rput_go h hl hi hid ht hr (fun h0 => ?_)
    rcases hr with ⟨h1, _⟩ | ⟨k, _, rfl, _⟩
    · rw [hs] at h1; cases h1
    · omega
end Go.Proofs.Ytjdeejbpkdgohaa
