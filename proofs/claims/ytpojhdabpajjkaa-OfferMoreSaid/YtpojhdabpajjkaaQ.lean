/- Of offers, in plain lists. -/
import Derived.Test.YtpojhdabpajjkaaC
namespace Go.Proofs.Ytpojhdabpajjkaa

theorem decB_cons {n : Nat} {c : UInt8} {l : List UInt8} : decB n (c :: l) = true ↔ 1 ≤ c.toNat ∧ c.toNat < n ∧ decB c.toNat l = true := by
  simp [decB, and_assoc]
theorem decB_mem {n : Nat} {l : List UInt8} (h : decB n l = true) : ∀ c ∈ l, 1 ≤ c.toNat ∧ c.toNat < n := by
  induction l generalizing n with
  | nil => intro c hc; cases hc
  | cons d l ih =>
    rw [decB_cons] at h
    intro c hc
    rcases List.mem_cons.1 hc with rfl | hc
    · exact ⟨h.1, h.2.1⟩
    · have := ih h.2.2 c hc; omega
theorem decB_mono {n m : Nat} {l : List UInt8} (h : decB n l = true) (hm : n ≤ m) : decB m l = true := by
  cases l with
  | nil => rfl
  | cons d l => rw [decB_cons] at h ⊢; exact ⟨h.1, by omega, h.2.2⟩
theorem decB_filter (p : UInt8 → Bool) {n : Nat} {l : List UInt8} (h : decB n l = true) : decB n (l.filter p) = true := by
  induction l generalizing n with
  | nil => rfl
  | cons d l ih =>
    rw [decB_cons] at h
    rw [List.filter_cons]
    split
    · rw [decB_cons]; exact ⟨h.1, h.2.1, ih h.2.2⟩
    · exact decB_mono (ih h.2.2) (by omega)
theorem byte_ext {a b : UInt8} (h : a.toNat = b.toNat) : a = b := UInt8.toNat_inj.1 h
/-- lists that fall, and have the same numbers, are one list. -/
theorem dec_ext {n m : Nat} {l k : List UInt8} (hl : decB n l = true) (hk : decB m k = true) (h : ∀ c, c ∈ l ↔ c ∈ k) : l = k := by
  induction l generalizing n m k with
  | nil =>
    cases k with
    | nil => rfl
    | cons d k => exact absurd ((h d).2 (List.mem_cons_self ..)) (by simp)
  | cons c l ih =>
    cases k with
    | nil => exact absurd ((h c).1 (List.mem_cons_self ..)) (by simp)
    | cons d k =>
      rw [decB_cons] at hl hk
      have h1 := decB_mem hl.2.2
      have h2 := decB_mem hk.2.2
      have hcd : c = d := by
        have a := (h c).1 (List.mem_cons_self ..)
        have b := (h d).2 (List.mem_cons_self ..)
        rcases List.mem_cons.1 a with a | a
        · exact a
        · rcases List.mem_cons.1 b with b | b
          · exact b.symm
          · have := (h1 d b).2; have := (h2 c a).2; omega
      subst hcd
      rw [ih hl.2.2 hk.2.2 (fun x => ?_)]
      constructor
      · intro hx
        rcases List.mem_cons.1 ((h x).1 (List.mem_cons_of_mem _ hx)) with e | e
        · subst e; have := (h1 x hx).2; omega
        · exact e
      · intro hx
        rcases List.mem_cons.1 ((h x).2 (List.mem_cons_of_mem _ hx)) with e | e
        · subst e; have := (h2 x hx).2; omega
        · exact e
theorem decB_app {n : Nat} {l : List UInt8} {c : UInt8} (h : decB n l = true) (hl : ∀ d ∈ l, c.toNat < d.toNat) (h1 : 1 ≤ c.toNat) (h2 : c.toNat < n) : decB n (l ++ [c]) = true := by
  induction l generalizing n with
  | nil => rw [List.nil_append, decB_cons]; exact ⟨h1, h2, rfl⟩
  | cons d l ih =>
    rw [decB_cons] at h
    rw [List.cons_append, decB_cons]
    exact ⟨h.1, h.2.1, ih h.2.2 (fun x hx => hl x (List.mem_cons_of_mem _ hx)) (hl d (List.mem_cons_self ..))⟩
theorem sel_mem (f : Nat → Bool) (k : Nat) (c : UInt8) : c ∈ sel f k ↔ ∃ i, i < k ∧ f (255 - i) = true ∧ UInt8.ofNat (255 - i) = c := by
  unfold sel
  simp only [List.mem_map, List.mem_filter, List.mem_range]
  constructor
  · rintro ⟨i, ⟨h1, h2⟩, h3⟩; exact ⟨i, h1, h2, h3⟩
  · rintro ⟨i, h1, h2, h3⟩; exact ⟨i, ⟨h1, h2⟩, h3⟩
theorem ofNat_toNat {m : Nat} (h : m < 256) : (UInt8.ofNat m).toNat = m := by simp; omega
theorem sel_mem256 (f : Nat → Bool) (c : UInt8) : c ∈ sel f 256 ↔ f c.toNat = true := by
  rw [sel_mem]
  have hc := byte_lt c
  constructor
  · rintro ⟨i, h1, h2, rfl⟩
    rw [ofNat_toNat (by omega)]; exact h2
  · intro h
    refine ⟨255 - c.toNat, by omega, ?_, ?_⟩
    · rw [show 255 - (255 - c.toNat) = c.toNat by omega]; exact h
    · rw [show 255 - (255 - c.toNat) = c.toNat by omega]; simp
theorem sel_dec (f : Nat → Bool) (h0 : f 0 = false) (k : Nat) (hk : k ≤ 256) : decB 256 (sel f k) = true := by
  induction k with
  | zero => rfl
  | succ k ih =>
    rw [sel_succ]
    cases hf : f (255 - k)
    · simpa using ih (by omega)
    · rw [if_pos rfl]
      refine decB_app (ih (by omega)) (fun d hd => ?_) ?_ ?_
      · obtain ⟨i, h1, _, rfl⟩ := (sel_mem f k d).1 hd
        rw [ofNat_toNat (by omega), ofNat_toNat (by omega)]; omega
      · rw [ofNat_toNat (by omega)]
        by_cases e : k = 255
        · subst e; rw [show 255 - 255 = 0 from rfl, h0] at hf; cases hf
        · omega
      · rw [ofNat_toNat (by omega)]; omega
theorem ok_mem {L : List Int} (h : okB L = true) : ∀ v ∈ L, 1 ≤ v ∧ v ≤ 255 := by
  intro v hv
  unfold okB at h
  rw [List.all_eq_true] at h
  have := h v hv
  simpa using this
theorem ok_zero {L : List Int} (h : okB L = true) : memB L 0 = false := by
  unfold memB
  rw [decide_eq_false_iff_not]
  intro hm
  have := (ok_mem h _ hm).1
  omega
theorem make_cases (L : List Int) : (makeE L = 0 ∧ okB L = true ∧ makeS L = sel (memB L) 256 ∧ 1 ≤ (makeS L).length ∧ (makeS L).length ≤ 8) ∨ (makeE L = 1 ∧ makeS L = []) := by
  unfold makeE makeS
  cases h : (okB L && (decide (1 ≤ (sel (memB L) 256).length) && decide ((sel (memB L) 256).length ≤ 8)))
  · exact .inr ⟨rfl, rfl⟩
  · simp at h
    exact .inl ⟨rfl, h.1, rfl, h.2.1, h.2.2⟩
theorem make_ok {L : List Int} (h : makeE L = 0) : rightB (makeS L) = true ∧ (∀ c, c ∈ makeS L ↔ (c.toNat : Int) ∈ L) ∧ okB L = true := by
  rcases make_cases L with ⟨_, hok, hS, h1, h2⟩ | ⟨h1, _⟩
  · refine ⟨?_, fun c => ?_, hok⟩
    · unfold rightB
      rw [hS] at h1 h2 ⊢
      rw [sel_dec _ (ok_zero hok) 256 (Nat.le_refl _)]
      simp [h1, h2]
    · rw [hS, sel_mem256]; unfold memB; simp
  · omega
theorem make_no {L : List Int} (h : ¬ makeE L = 0) : makeE L = 1 ∧ makeS L = [] := by
  rcases make_cases L with ⟨h1, _⟩ | h1
  · exact absurd h1 h
  · exact h1
theorem make_congr {L M : List Int} (h : ∀ v, v ∈ L ↔ v ∈ M) : makeS L = makeS M ∧ makeE L = makeE M := by
  have h1 : memB L = memB M := by funext i; unfold memB; rw [Bool.eq_iff_iff]; simp [h]
  have h2 : okB L = okB M := by
    unfold okB
    rw [Bool.eq_iff_iff, List.all_eq_true, List.all_eq_true]
    exact ⟨fun g v hv => g v ((h v).2 hv), fun g v hv => g v ((h v).1 hv)⟩
  unfold makeS makeE
  rw [h1, h2]; exact ⟨rfl, rfl⟩
theorem dec_len {n : Nat} {l : List UInt8} (hl : decB n l = true) {L : List Int} (h : ∀ c ∈ l, (c.toNat : Int) ∈ L) : l.length ≤ L.length := by
  induction l generalizing n L with
  | nil => exact Nat.zero_le _
  | cons c l ih =>
    rw [decB_cons] at hl
    have hc := h c (List.mem_cons_self ..)
    have := ih hl.2.2 (L := L.erase (c.toNat : Int)) (fun d hd => by
      have hlt := (decB_mem hl.2.2 d hd).2
      exact (List.mem_erase_of_ne (by omega)).2 (h d (List.mem_cons_of_mem _ hd)))
    rw [List.length_erase_of_mem hc] at this
    have hp : 0 < L.length := List.length_pos_of_mem hc
    simp; omega
/-- a few right versions make an offer. -/
theorem make_small {L : List Int} (h : okB L = true) (h1 : L ≠ []) (h2 : L.length ≤ 8) : makeE L = 0 := by
  have hd := sel_dec (memB L) (ok_zero h) 256 (Nat.le_refl _)
  have hlen := dec_len hd (L := L) (fun c hc => by rw [sel_mem256] at hc; unfold memB at hc; simpa using hc)
  obtain ⟨v, hv⟩ := List.exists_mem_of_ne_nil L h1
  have hv2 := ok_mem h v hv
  have hm : UInt8.ofNat v.toNat ∈ sel (memB L) 256 := by
    rw [sel_mem256, ofNat_toNat (by omega)]
    unfold memB
    rw [decide_eq_true_eq, Int.toNat_of_nonneg (by omega)]; exact hv
  have hp := List.length_pos_of_mem hm
  unfold makeE
  rw [h]
  have a1 : decide (1 ≤ (sel (memB L) 256).length) = true := by simp; omega
  have a2 : decide ((sel (memB L) 256).length ≤ 8) = true := by simp; omega
  rw [a1, a2]; rfl

theorem right_dec {l : List UInt8} (h : rightB l = true) : decB 256 l = true ∧ 1 ≤ l.length ∧ l.length ≤ 8 := by
  unfold rightB at h; simpa using h
/-- an offer's versions make it. -/
theorem make_self {l : List UInt8} (h : rightB l = true) {L : List Int} (hL : ∀ v, v ∈ L ↔ ∃ c ∈ l, (c.toNat : Int) = v) : makeS L = l ∧ makeE L = 0 := by
  obtain ⟨hd, h1, h2⟩ := right_dec h
  have hok : okB L = true := by
    unfold okB
    rw [List.all_eq_true]
    intro v hv
    obtain ⟨c, hc, rfl⟩ := (hL v).1 hv
    have := decB_mem hd c hc
    simp; omega
  have hs : sel (memB L) 256 = l := dec_ext (sel_dec _ (ok_zero hok) 256 (Nat.le_refl _)) hd (fun c => by
    rw [sel_mem256]; unfold memB
    rw [decide_eq_true_eq, hL]
    constructor
    · rintro ⟨d, hd, e⟩
      have : d = c := byte_ext (by omega)
      subst this; exact hd
    · intro hc; exact ⟨c, hc, rfl⟩)
  unfold makeS makeE
  rw [hok, hs]
  simp [h1, h2]

theorem both_mem {a b : List UInt8} (ha : rightB a = true) (hb : rightB b = true) : decB 256 (bothL a b) = true ∧ ∀ c, c ∈ bothL a b ↔ c ∈ a ∧ c ∈ b := by
  unfold bothL
  rw [ha, hb]
  exact ⟨decB_filter _ (right_dec ha).1, fun c => by simp⟩
theorem both_comm (a b : List UInt8) : bothL a b = bothL b a := by
  cases ha : rightB a
  · unfold bothL; rw [ha]; simp
  · cases hb : rightB b
    · unfold bothL; rw [hb]; simp
    · exact dec_ext (both_mem ha hb).1 (both_mem hb ha).1 (fun c => by rw [(both_mem ha hb).2, (both_mem hb ha).2]; exact And.comm)
theorem best_comm (a b : List UInt8) : bestV a b = bestV b a ∧ bestE a b = bestE b a := by
  unfold bestV bestE
  rw [both_comm a b, Bool.and_comm]; exact ⟨rfl, rfl⟩
/-- the greatest one of numbers that fall, or 0. -/
def topL : List UInt8 → Nat
  | [] => 0
  | c :: _ => c.toNat
theorem best_top (a b : List UInt8) : bestV a b = topL (bothL a b) := by unfold bestV topL; cases bothL a b <;> rfl
theorem top_ge {n : Nat} {l : List UInt8} (h : decB n l = true) : ∀ c ∈ l, c.toNat ≤ topL l := by
  cases l with
  | nil => intro c hc; cases hc
  | cons d l =>
    rw [decB_cons] at h
    intro c hc
    rcases List.mem_cons.1 hc with rfl | hc
    · exact Nat.le_refl _
    · exact Nat.le_of_lt (decB_mem h.2.2 c hc).2
theorem top_mem {l : List UInt8} (h : l ≠ []) : ∃ c ∈ l, c.toNat = topL l := by
  cases l with
  | nil => exact absurd rfl h
  | cons d l => exact ⟨d, List.mem_cons_self .., rfl⟩
theorem bothE (a b : List UInt8) : bestE a b = if rightB a && rightB b then (if bothL a b = [] then 11 else 0) else 3 := by
  unfold bestE
  cases bothL a b <;> simp
end Go.Proofs.Ytpojhdabpajjkaa
