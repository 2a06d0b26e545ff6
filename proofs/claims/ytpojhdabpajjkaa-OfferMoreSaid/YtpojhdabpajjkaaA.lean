/- The contracts of offer's Right, Both, Best. -/
import Derived.Test.YtpojhdabpajjkaaRows
import Derived.Test.YtpojhdabpajjkaaM
import Derived.Lib.Bytealg
namespace Go.Proofs.Ytpojhdabpajjkaa
open Go.RowKit
set_option maxHeartbeats 1000000
set_option maxRecDepth 100000
set_option linter.unusedVariables false

/-- do the numbers fall, from below 'last' on, and is none of them 0? -/
def decB : Nat → List UInt8 → Bool
  | _, [] => true
  | last, v :: l => decide (1 ≤ v.toNat) && decide (v.toNat < last) && decB v.toNat l
def rightB (l : List UInt8) : Bool := decB 256 l && (decide (1 ≤ l.length) && decide (l.length ≤ 8))

theorem drop_at (s : ByteArray) (k : Nat) (h : k < s.size) : s.data.toList.drop k = s[k] :: s.data.toList.drop (k + 1) := by
  rw [List.drop_eq_getElem_cons (by simpa using h)]; rfl
theorem byte_lt (c : UInt8) : c.toNat < 256 := c.toNat_lt

theorem right_any (s : ByteArray) (w : World) (hs : s.size ≤ 1000) : Calls Try.prog 13 #[.string s] w fun e w' => e = .returned (.bool (rightB s.data.toList)) ∧ w = w' := by
  have hlen : s.data.toList.length = s.size := by simp
  have HR := Lib.hid (show rightB s.data.toList = (decB 256 s.data.toList && (decide (1 ≤ s.size) && decide (s.size ≤ 8))) by unfold rightB; rw [hlen])
  clear hlen
  go_enter Try.func13, Try.ntmps13
  go_wp2_with fail
  go_loop [3, 8] (fun t i => ∃ k last : Nat, k ≤ s.size ∧ i = .int .i64 k ∧ last ≤ 256 ∧ t = .int .i64 last ∧ decB 256 s.data.toList = decB last (s.data.toList.drop k)) (fun _ i => s.size - (intOf i).toNat)
  case atStart => exact ⟨0, 256, Nat.zero_le _, rfl, Nat.le_refl _, rfl, rfl⟩
  case round =>
    obtain ⟨k, last, hk, rfl, hl, rfl, hd⟩ := hrel
    by_cases hkl : k < s.size
    · have hdr := drop_at s k hkl
      rw [hdr] at hd
      have hv := byte_lt s[k]
      have hkl' : (k : Int) < (s.size : Int) := by omega
      have hk0 : (0 : Int) ≤ (k : Int) := by omega
      obtain ⟨v, hvv⟩ : ∃ v : Nat, s[k].toNat = v := ⟨_, rfl⟩
      have hd2 : decB last (s[k] :: s.data.toList.drop (k + 1)) = (decide (1 ≤ v) && decide (v < last) && decB v (s.data.toList.drop (k + 1))) := by rw [← hvv]; rfl
      rw [hd2] at hd
      have HD := Lib.hid hd
      rw [hvv] at hv
      clear hd hd2 hdr
      by_cases h1 : v < 1
      · go_wp2_with fail
        go_ret
        exact ⟨by rw [HR.out, HD.out]; simp; omega, rfl⟩
      · by_cases h2 : v < last
        · go_wp2_with fail
          go_round
          case rel => exact ⟨k + 1, v, by omega, by go_num, by omega, rfl, by rw [HD.out]; simp; omega⟩
          case measure => (simp [intOf] <;> omega)
        · go_wp2_with fail
          go_ret
          exact ⟨by rw [HR.out, HD.out]; simp; omega, rfl⟩
    · obtain rfl : k = s.size := by omega
      rw [show s.data.toList.drop s.size = [] from List.drop_eq_nil_iff.2 (by simp)] at hd
      have HD := Lib.hid hd
      clear hd
      by_cases h1 : 1 ≤ s.size
      · by_cases h2 : s.size ≤ 8
        · go_wp2_with fail
          go_ret
          exact ⟨by rw [HR.out, HD.out]; simp [decB, h1, h2] <;> omega, rfl⟩
        · go_wp2_with fail
          go_ret
          exact ⟨by rw [HR.out, HD.out]; simp [decB, h1, h2] <;> omega, rfl⟩
      · go_wp2_with fail
        go_ret
        exact ⟨by rw [HR.out, HD.out]; simp [decB, h1], rfl⟩

theorem run21 (s : ByteArray) (c : UInt8) (w : World) : (callFunc 21 #[.string s, .int .u8 c.toNat]).run Try.prog w = .ok (.value (.int .i64 (Lib.indexByte s.data.toList c))) w := by
  rw [run_callFunc_extern Try.func21 (by kernel_rfl) (by kernel_rfl) (by kernel_rfl) (e := Extern.BytealgIndexByte.indexByte) (by kernel_rfl), Lib.run_indexByteString]
  simp
theorem index20 (s : ByteArray) (c : UInt8) (w : World) : Calls Try.prog 20 #[.string s, .int .u8 c.toNat] w fun e w' => e = .returned (.int .i64 (Lib.indexByte s.data.toList c)) ∧ w = w' := by
  have hx := run21 s c
  go_enter Try.func20, Try.ntmps20
  go_wp2_with fail
  go_ret
  exact ⟨rfl, rfl⟩
/-- is a byte in a text? -/
theorem index_any (s : ByteArray) (c : UInt8) (w : World) : Calls Try.prog 19 #[.string s, .int .u8 c.toNat] w fun e w' => e = .returned (.int .i64 (Lib.indexByte s.data.toList c)) ∧ w = w' := by
  go_enter Try.func19, Try.ntmps19
  go_wp2_with fail
  refine (index20 s c _).mono ?_
  rintro e w' ⟨rfl, rfl⟩
  go_wp2_with fail
  go_ret
  exact ⟨rfl, rfl⟩
theorem index_mem (l : List UInt8) (c : UInt8) : (0 ≤ Lib.indexByte l c) = (c ∈ l) := by
  apply propext
  induction l with
  | nil => simp [Lib.indexByte]
  | cons b l ih =>
    unfold Lib.indexByte
    by_cases h : b = c
    · subst h; simp
    · have h' : (b == c) = false := by simp [h]
      have hge := Lib.indexByte_ge l c
      rw [h']
      by_cases h2 : Lib.indexByte l c = -1
      · rw [h2] at ih; simp [h2] at ih ⊢; exact ⟨fun e => h e.symm, ih⟩
      · have h3 : (Lib.indexByte l c == -1) = false := by simp [h2]
        rw [h3]
        have h4 : c ∈ l := ih.1 (by omega)
        simp [h4]; omega
end Go.Proofs.Ytpojhdabpajjkaa
