/- Of offers with a version more, in plain lists. -/
import Derived.Test.YtpojhdabpajjkaaI
namespace Go.Proofs.Ytpojhdabpajjkaa
set_option linter.unusedVariables false

theorem right_nil : rightB [] = false := rfl
theorem make_len (L : List Int) : (makeS L).length ≤ 8 := by
  rcases make_cases L with ⟨_, _, _, _, h⟩ | ⟨_, h⟩
  · exact h
  · rw [h]; exact Nat.zero_le _
theorem okL_cons {l : List Int} {y : Nat} (h : okL l) (h1 : 1 ≤ y) (h2 : y ≤ 255) : okL ((y : Int) :: l) := by
  intro x hx
  rcases List.mem_cons.1 hx with rfl | hx
  · omega
  · exact h x hx
theorem okL_mem {l : List Int} (h : okL l) (h8 : l.length ≤ 8) {c : UInt8} (hc : (c.toNat : Int) ∈ l) : makeE l = 0 ∧ rightB (makeS l) = true ∧ c ∈ makeS l := by
  have hne : l ≠ [] := List.ne_nil_of_mem hc
  have h0 := make_small (okL_b h) hne h8
  have := make_ok h0
  exact ⟨h0, this.1, (this.2.1 c).2 hc⟩
theorem both_right_of {a b : List UInt8} (h : bothL a b ≠ []) : rightB a = true ∧ rightB b = true := by
  unfold bothL at h
  cases ha : rightB a
  · rw [ha] at h; simp at h
  · cases hb : rightB b
    · rw [ha, hb] at h; simp at h
    · exact ⟨rfl, rfl⟩
theorem make_mem_of {l : List Int} (h8 : rightB (makeS l) = true) (c : UInt8) : c ∈ makeS l ↔ (c.toNat : Int) ∈ l := by
  rcases make_cases l with ⟨h0, _⟩ | ⟨_, h0⟩
  · exact (make_ok h0).2.1 c
  · rw [h0] at h8; cases h8

theorem more_plain {l m : List Int} {y : Nat} (hl : okL l) (hm : okL m) (l7 : l.length ≤ 7) (m7 : m.length ≤ 7) (hy1 : 1 ≤ y) (hy2 : y ≤ 255) :
    makeE ((y : Int) :: l) = 0 ∧ makeE ((y : Int) :: m) = 0 ∧ bestE (makeS ((y : Int) :: l)) (makeS ((y : Int) :: m)) = 0 ∧
    bestV (makeS ((y : Int) :: l)) (makeS ((y : Int) :: m)) = max (bestV (makeS l) (makeS m)) y ∧
    makeS [(y : Int)] = [UInt8.ofNat y] ∧ makeE [(y : Int)] = 0 ∧ bothL (makeS ((y : Int) :: l)) [UInt8.ofNat y] = [UInt8.ofNat y] := by
  have hcl := okL_cons hl hy1 hy2
  have hcm := okL_cons hm hy1 hy2
  have e := ofNat_toNat (m := y) (by omega)
  have yl : ((UInt8.ofNat y).toNat : Int) ∈ (y : Int) :: l := by rw [e]; exact List.mem_cons_self ..
  have ym : ((UInt8.ofNat y).toNat : Int) ∈ (y : Int) :: m := by rw [e]; exact List.mem_cons_self ..
  obtain ⟨e1, r1, i1⟩ := okL_mem hcl (by simp; omega) yl
  obtain ⟨e2, r2, i2⟩ := okL_mem hcm (by simp; omega) ym
  have hb := both_mem r1 r2
  have hyb := (hb.2 _).2 ⟨i1, i2⟩
  have hbn : bothL (makeS ((y : Int) :: l)) (makeS ((y : Int) :: m)) ≠ [] := List.ne_nil_of_mem hyb
  have r3 : rightB [UInt8.ofNat y] = true := by
    unfold rightB
    rw [show decB 256 [UInt8.ofNat y] = true from by rw [decB_cons, e]; exact ⟨hy1, by omega, rfl⟩]
    rfl
  have h3 := make_self r3 (L := [(y : Int)]) (fun v => by
    simp only [List.mem_singleton]
    constructor
    · rintro rfl; exact ⟨_, rfl, by rw [e]⟩
    · rintro ⟨c, rfl, h⟩; rw [e] at h; exact h.symm)
  refine ⟨e1, e2, ?_, ?_, h3.1, h3.2, ?_⟩
  · rw [bothE, r1, r2]; simp [hbn]
  · rw [best_top, best_top]
    obtain ⟨c, hc, hct⟩ := top_mem hbn
    have g1 := top_ge hb.1 _ hyb
    rw [e] at g1
    have hc2 := (hb.2 c).1 hc
    rw [make_mem_of r1, make_mem_of r2] at hc2
    have up : topL (bothL (makeS l) (makeS m)) ≤ topL (bothL (makeS ((y : Int) :: l)) (makeS ((y : Int) :: m))) := by
      by_cases hs : bothL (makeS l) (makeS m) = []
      · rw [hs]; exact Nat.zero_le _
      · obtain ⟨d, hd, hdt⟩ := top_mem hs
        obtain ⟨q1, q2⟩ := both_right_of hs
        have h4 := ((both_mem q1 q2).2 d).1 hd
        rw [make_mem_of q1, make_mem_of q2] at h4
        rw [← hdt]
        refine top_ge hb.1 d ((hb.2 d).2 ?_)
        rw [make_mem_of r1, make_mem_of r2]
        exact ⟨List.mem_cons_of_mem _ h4.1, List.mem_cons_of_mem _ h4.2⟩
    by_cases hcy : c.toNat = y
    · omega
    · have h5 : (c.toNat : Int) ∈ l := by
        rcases List.mem_cons.1 hc2.1 with h | h
        · omega
        · exact h
      have h6 : (c.toNat : Int) ∈ m := by
        rcases List.mem_cons.1 hc2.2 with h | h
        · omega
        · exact h
      obtain ⟨_, q1, j1⟩ := okL_mem hl (by omega) h5
      obtain ⟨_, q2, j2⟩ := okL_mem hm (by omega) h6
      have h7 := top_ge (both_mem q1 q2).1 c (((both_mem q1 q2).2 c).2 ⟨j1, j2⟩)
      omega
  · have h8 := both_mem r1 r3
    refine dec_ext h8.1 (right_dec r3).1 (fun c => ?_)
    rw [h8.2]
    constructor
    · exact fun h => h.2
    · intro h
      refine ⟨?_, h⟩
      rw [List.mem_singleton] at h
      rw [h]; exact i1
end Go.Proofs.Ytpojhdabpajjkaa
