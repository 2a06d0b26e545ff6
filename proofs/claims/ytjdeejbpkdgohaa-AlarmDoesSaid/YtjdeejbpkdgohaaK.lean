/- Due. -/
import Derived.Test.YtjdeejbpkdgohaaJ
namespace Go.Proofs.Ytjdeejbpkdgohaa
open Go.RowKit Go.Maps
set_option maxHeartbeats 2000000
set_option maxRecDepth 100000
set_option linter.unusedVariables false

def u64s (l : List Nat) : List Value := l.map fun (n : Nat) => Value.int .u64 (n : Int)
theorem u64s_app (l : List Nat) (n : Nat) : u64s (l ++ [n]) = u64s l ++ [.int .u64 (n : Int)] := by simp [u64s]
theorem infoU : (Try.prog.info? 29).map (fun i => (i.zero, i.size, i.bytes)) = some (some (.int .u64 0), 1, 8) := by kernel_rfl
def slen : Value → Nat
  | .slice _ n _ => n
  | _ => 0
theorem slen_mk (a : Option Addr) (n c : Nat) : slen (.slice a n c) = n := rfl
def idsOf (S : List Al) : List Nat := S.map Prod.fst
/-- what Due leaves: its numbers in a row of its own. -/
def DueOk (W : World) (ba : Nat) (F : Nat → Prop) (S : List Al) (most : Int) (now : Nat) (e : Ending) (w' : World) : Prop :=
  ∃ v, e = .returned v ∧ w'.ownsRow W.heap.size 29 1 v (idsOf (dueL S now)).length (u64s (idsOf (dueL S now))) ∧ AlarmAt w' ba F (restL S now) most ∧ Touch F W w'
theorem owns_touch {W W' : World} {base : Nat} {e : TypeId} {size : Nat} {v : Value} {n : Nat} {xs : List Value} (h : W.ownsRow base e size v n xs) {T : Nat → Prop} (k : Touch T W W') (hn : ∀ b, v.ownBlock = some b → ¬ T b) : W'.ownsRow base e size v n xs := by
  rcases h.2 with ⟨h1, h0⟩ | ⟨g, cap, cur, h1, hb, hg, hr⟩
  · exact ⟨h.1, .inl ⟨h1, h0⟩⟩
  · have ho : v.ownBlock = some g := by rw [h1]; rfl
    exact ⟨h.1, .inr ⟨g, cap, cur, h1, hb, (k.block g (h.lt g ho).2 (hn g ho)).trans hg, hr⟩⟩
theorem due_al {W : World} {ba : Nat} {F : Nat → Prop} {S : List Al} {most : Int} (h : AlarmAt W ba F S most) {now : Nat} (hnow : now < 18446744073709551616) (hl : S.length < 100000) (hF : ∀ b, F b → b < W.heap.size) :
    Calls Try.prog 15 #[apt ba, .int .u64 now] W (DueOk W ba F S most now) := by
  obtain ⟨i0, hi0, hi1, hi2, hi3⟩ := info_parts infoU
  have ta := tass
  unfold apt
  go_enter Try.func15, Try.ntmps15
  go_wp2_with fail
  go_loopw [5] (fun v wr => ∃ (T R : List Al), dueL S now = T ++ dueL R now ∧ restL S now = restL R now ∧ R.length + T.length = S.length ∧ AlarmAt wr ba F R most ∧ wr.ownsRow W.heap.size 29 1 v (idsOf T).length (u64s (idsOf T)) ∧ Touch F W wr) (fun v _ => 100000 - slen v)
  case atStart => exact ⟨[], S, rfl, rfl, rfl, h, World.ownsRow_nil _ _ _ _, Touch.refl _ _⟩
  case round =>
    clear h
    obtain ⟨T, R, hd, hr, hlen, h, hown, hT⟩ := hrel
    have HD := Lib.hid hd
    have HR := Lib.hid hr
    have HT := Lib.hid hT
    have HLEN := Lib.hid hlen
    have HO := Lib.hid hown
    obtain ⟨sv, cv, rfl, hform⟩ := row_form hown
    obtain ⟨s, c, mb, H, a⟩ := h
    have hlR := a.len
    have c0 : wr.cell? ⟨ba, 0, none⟩ = some (.slice s H.length c) := by rw [a.q.hd.rd]; rfl
    clear hd hr hT hform
    cases R with
    | nil =>
      have h0 : H.length = 0 := by rw [← hlR]; rfl
      have HA := Lib.hid a
      clear a hlen hlR hown
      have h0' : ¬ (0 : Int) < (H.length : Int) := by omega
      have HH0 := Lib.hid h0
      clear h0
      go_wp2_with fail
      go_ret
      have e1 : dueL S now = T := by rw [HD.out, (due_nil now).1, List.append_nil]
      have e2 : restL S now = [] := HR.out
      exact ⟨_, rfl, by rw [e1]; exact HO.out, by rw [e2]; exact ⟨s, c, mb, H, HA.out⟩, HT.out⟩
    | cons x R =>
      have hpos : 0 < H.length := by rw [← hlR]; simp
      obtain ⟨s', c', e, hf⟩ := a.q.form
      injection e with e1 e2 e3
      subst e1
      obtain ⟨g, rfl, hg⟩ := hf hpos
      have hpos' : (0 : Int) < (H.length : Int) := by omega
      have cg : wr.cell? ⟨g, 0, none⟩ = some (.pointer (some ⟨(gt H 0).b, 0, none⟩)) := by rw [a.q.row.cellAt 0 (by omega), ptrs_get hpos]; rfl
      have ct : wr.cell? ⟨(gt H 0).b, 1, none⟩ = some (.int .u64 ((gt H 0).time : Int)) := by rw [(a.q.ones 0 hpos).rd]; rfl
      have hk := first_key rfl a.sorted a.perm a.heap
      have htx : (gt H 0).time = x.2 := by rw [← hk]; rfl
      have hix : (gt H 0).id = x.1 := by rw [← hk]; rfl
      rw [htx] at ct
      by_cases hle : x.2 ≤ now
      · have hle' : decide (x.2 ≤ now) = true := by simpa using hle
        obtain ⟨n, hn⟩ : ∃ n, H.length = n + 1 := ⟨H.length - 1, by omega⟩
        have hcap : n + 1 ≤ c := by
          rcases a.q.row.2 with ⟨h', _⟩ | ⟨g', cap', cur, h', _, _, hnc, _⟩
          · simp at h'
          · injection h' with _ _ h3; omega
        have qd := a.q
        have hl2 : H.length ≤ 100000 := by rw [← hlR]; simp only [List.length_cons]; simp only [List.length_cons] at hlen; omega
        rw [hn] at qd
        have HPO := Lib.hid (hpop_any qd hl2 hcap a.heap)
        have HA := Lib.hid a
        have HX := Lib.hid (And.intro hix (And.intro htx hle))
        clear a hk htx hix hle hf e2 e3 qd hn hcap hlR hlen hown hl2
        unfold hp at HPO
        go_wp2_with fail
        refine HPO.out.mono ?_
        rintro e w1 ⟨rfl, K, hperm, hheap, hq, hT1, p, hone⟩
        unfold ptr
        have a := HA.out
        have hmo := map_off a.map a.q
        have m1 : MapAt w1 mb (gt H 0 :: K) := (a.map.perm hperm).touch hT1 (fun h => h.elim hmo.1 hmo.2)
        have hidx : (gt H 0).id < 18446744073709551616 := (a.fit _ (gt_mem hpos)).1
        have m1d : MapAt w1.drew mb (gt H 0 :: K) := m1
        obtain ⟨Wm, hrun, hmap, hTm0⟩ := m1d.del (any_not hperm a.perm a.ids) hidx 0
        have hTm : Touch (fun b => b = mb) w1 Wm := ⟨hTm0.os, hTm0.tape, hTm0.output, hTm0.size, hTm0.block⟩
        rw [HX.out.1] at hrun
        have cm : w1.cell? ⟨ba, 1, none⟩ = some (.map (some mb)) := by rw [hq.hd.rd]; rfl
        have ci : w1.cell? ⟨(gt H 0).b, 0, none⟩ = some (.int .u64 (x.1 : Int)) := by rw [hone.rd, ← HX.out.1]; rfl
        have c1i : Wm.cell? ⟨(gt H 0).b, 0, none⟩ = some (.int .u64 (x.1 : Int)) := by
          have hne : (gt H 0).b ≠ mb := fun h => hmo.2 (h ▸ foot_gt hpos)
          have := hone.touch hTm hne
          rw [this.rd, ← HX.out.1]; rfl
        have hTF : Touch F wr Wm := (hT1.mono (fun b hb => by
          rcases hb with h | h
          · rw [h]; exact a.inF.1
          · exact a.inF.2.2 b h)).trans hTm (fun b hb => .inl (by rw [hb]; exact a.inF.2.1))
        have hmo1 := map_off m1 hq
        have hqm := hq.touch hTm (fun h => hmo1.1 h.symm) (fun b hb h => hmo1.2 (h ▸ hb))
        have HAm := Lib.hid (rem_al (Wm := Wm) a hpos hperm hheap hqm hmap hTF)
        have HTF := Lib.hid hTF
        have hOm := owns_touch HO.out hTF (fun b hb h => by have := hF b h; have := (HO.out.lt b hb).1; omega)
        have HOm := Lib.hid hOm
        have HCI := Lib.hid c1i
        clear a hmo m1 m1d hTm0 hmap hTm hTF hperm hheap hq hT1 hone hmo1 hqm hOm hidx c0 cg ct
        go_wp2_with fail
        go_region
        have HW3 := Lib.hid (HOm.out.alloc (.cells #[.int .u64 (x.1 : Int)] 29))
        have hTl : T.length ≤ 100000 := by have := HLEN.out; omega
        have hil : (idsOf T).length ≤ 100000 := by unfold idsOf; simpa using hTl
        have hbs := HT.out.size
        have hbs2 := HTF.out.size
        clear c1i
        have l7 : W.heap.size ≤ Wm.heap.size := by omega
        have cI : Wm.cell? ⟨(gt H 0).b, 0, none⟩ = some (.int .u64 (x.1 : Int)) := HCI.out
        go_wp2_with (at_builtin; refine wpList_append_lies _ rfl _ _ _ rfl W.heap.size 29 i0 (.int .u64 0) 1 8 Try.underlying35 hi0 hi1 hi2 hi3 rfl (by decide) (.slice sv (idsOf T).length cv) (idsOf T).length (u64s (idsOf T)) rfl HW3.out ⟨Wm.heap.size, 0, none⟩ 1 1 [.int .u64 (x.1 : Int)] rfl rfl (World.news_of_block (B := Wm.heap.size) (cs := #[.int .u64 (x.1 : Int)]) (t := 29) (fr := (0, 0)) (news1 rfl)) (by simp [Value.oneCell']) (by omega) (by unfold maxLen; omega) (by omega) (by simp; omega) (Wm.heap.size + 1) (by simp) ?_; intro ge cq w5 hown5 hgrow5 hat5 hlt5)
        have hge := hat5
        have T5 : Touch (fun b => W.heap.size ≤ b) Wm w5 := ((Touch.refl _ Wm).alloc (.cells #[.int .u64 (x.1 : Int)] 29)).grown hgrow5 (fun j hj => .inl (HW3.out.lt j hj).1)
        have hA5 := HAm.out.touch T5 (fun b hb h => by have := hF b hb; omega)
        rw [HX.out.1] at hA5
        have hdr : dropS (x :: R) x.1 = R := by
          have hi := HA.out.ids
          unfold Ids at hi
          rw [List.map_cons, List.nodup_cons] at hi
          unfold dropS
          rw [List.filter_cons]
          simp only [bne_self_eq_false, Bool.false_eq_true, if_false]
          rw [List.filter_eq_self]
          intro y hy
          simp only [bne_iff_ne, ne_eq]
          intro e
          exact hi.1 (List.mem_map.2 ⟨y, hy, e⟩)
        rw [hdr] at hA5
        have hT5 : Touch F W w5 := (HT.out.trans HTF.out (fun b hb => .inl hb)).trans T5 (fun b hb => .inr hb)
        have e1 : dueL S now = (T ++ [x]) ++ dueL R now := by rw [HD.out, (due_cons HX.out.2.2).1, List.append_assoc]; rfl
        have e2 : restL S now = restL R now := by rw [HR.out, (due_cons HX.out.2.2).2]
        have e3 : idsOf (T ++ [x]) = idsOf T ++ [x.1] := by unfold idsOf; simp
        have e4 : (idsOf (T ++ [x])).length = (idsOf T).length + 1 := by rw [e3]; simp
        have e5 : R.length + (T ++ [x]).length = S.length := by have := HLEN.out; simp at this ⊢; omega
        go_roundw
        case rel => exact ⟨T ++ [x], R, e1, e2, e5, hA5, by rw [e4, e3, u64s_app]; exact hown5, hT5⟩
        case measure => (rw [slen_mk, slen_mk]; have hq5 : (idsOf T).length < 100000 := (by unfold idsOf; rw [List.length_map]; simp at e5; omega); omega)
      · have hle' : decide (x.2 ≤ now) = false := by simpa using hle
        have HA := Lib.hid a
        have HX := Lib.hid hle
        clear a hk htx hix hle hf e2 e3 hlR hlen hown
        go_wp2_with fail
        go_ret
        have e1 : dueL S now = T := by rw [HD.out, (due_stop HX.out).1, List.append_nil]
        have e2 : restL S now = x :: R := by rw [HR.out, (due_stop HX.out).2]
        exact ⟨_, rfl, by rw [e1]; exact HO.out, by rw [e2]; exact ⟨_, c, mb, H, HA.out⟩, HT.out⟩
end Go.Proofs.Ytjdeejbpkdgohaa
