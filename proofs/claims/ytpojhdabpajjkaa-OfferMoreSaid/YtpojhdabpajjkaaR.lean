/- The contracts of the reference's has, Right, Both, Best, Make. -/
import Derived.Test.YtpojhdabpajjkaaBest
namespace Go.Proofs.Ytpojhdabpajjkaa
open Go.RowKit
set_option maxHeartbeats 4000000
set_option maxRecDepth 100000
set_option linter.unusedVariables false

theorem rhas_any (s : ByteArray) (V : Nat) (w : World) (hV : V < 256) (hs : s.size ≤ 1000) : Calls Try.prog 18 #[.string s, .int .i64 V] w fun e w' => e = .returned (.bool (hasV s.data.toList V)) ∧ w = w' := by
  go_enter Try.func18, Try.ntmps18
  go_wp2_with fail
  go_loop [5] (fun i => ∃ k : Nat, k ≤ s.size ∧ i = .int .i64 k ∧ hasV (s.data.toList.take k) V = false) (fun i => s.size - (intOf i).toNat)
  case atStart => exact ⟨0, Nat.zero_le _, rfl, rfl⟩
  case round =>
    obtain ⟨k, hk, rfl, hno⟩ := hrel
    by_cases hk1 : k < s.size
    · have hs := hasV_succ s k hk1 V
      have hm := mem_get s k hk1
      obtain ⟨c, hc⟩ : ∃ c, s[k] = c := ⟨_, rfl⟩
      rw [hc] at hs hm
      rw [hno, Bool.false_or] at hs
      have hcl := byte_lt c
      have hk1' : (k : Int) < (s.size : Int) := by omega
      have hk0 : (0 : Int) ≤ (k : Int) := by omega
      by_cases hcV : c.toNat = V
      · have hcV' : ((c.toNat : Int) == (V : Int)) = true := by rw [beq_iff_eq]; omega
        have HY := Lib.hid (hasV_mem (V := V) ⟨c, hm, hcV⟩)
        clear hs hm hcV hno
        go_wp2_with fail
        go_ret
        exact ⟨by rw [HY.out]; rfl, rfl⟩
      · have hcV' : ((c.toNat : Int) == (V : Int)) = false := by rw [beq_eq_false_iff_ne]; omega
        have HS := Lib.hid (show hasV (s.data.toList.take (k + 1)) V = false by rw [hs]; simpa using hcV)
        clear hs hm hcV hno
        go_wp2_with fail
        go_round
        case rel => exact ⟨k + 1, by omega, by go_num, HS.out⟩
        case measure => (simp [intOf] <;> omega)
    · obtain rfl : k = s.size := by omega
      rw [show s.data.toList.take s.size = s.data.toList from List.take_of_length_le (by simp)] at hno
      have HN := Lib.hid hno
      clear hno hk1 hk
      go_wp2_with fail
      go_ret
      exact ⟨by rw [HN.out]; rfl, rfl⟩

/-- do the numbers fall, one after the other, and is the last none 0? -/
theorem dec_iff (l : List UInt8) (n : Nat) : decB n l = true ↔ (∀ h : l ≠ [], (l.head h).toNat < n) ∧ (∀ i (h : i + 1 < l.length), l[i + 1].toNat < l[i].toNat) ∧ (∀ h : l ≠ [], 1 ≤ (l.getLast h).toNat) := by
  induction l generalizing n with
  | nil => simp [decB]
  | cons c l ih =>
    rw [decB_cons, ih]
    constructor
    · rintro ⟨h1, h2, h3, h4, h5⟩
      refine ⟨fun _ => h2, fun i h => ?_, fun _ => ?_⟩
      · cases i with
        | zero =>
          cases l with
          | nil => simp at h
          | cons d l => exact h3 (by simp)
        | succ i => exact h4 i (by simpa using h)
      · cases l with
        | nil => exact h1
        | cons d l => rw [List.getLast_cons (by simp)]; exact h5 (by simp)
    · rintro ⟨h2, h4, h5⟩
      have h6 : ∀ h : l ≠ [], (l.head h).toNat < c.toNat := fun h => by
        cases l with
        | nil => exact absurd rfl h
        | cons d l => exact h4 0 (by simp)
      have h7 : ∀ h : l ≠ [], 1 ≤ (l.getLast h).toNat := fun h => by
        have := h5 (by simp)
        rw [List.getLast_cons h] at this
        exact this
      refine ⟨?_, h2 (by simp), h6, fun i h => h4 (i + 1) (by simpa using h), h7⟩
      cases l with
      | nil => exact h5 (by simp)
      | cons d l =>
        have := h6 (by simp)
        omega

theorem right_iff (s : ByteArray) (h1 : 1 ≤ s.size) (h8 : s.size ≤ 8) : rightB s.data.toList = true ↔ (∀ i (h : i + 1 < s.size), s[i + 1].toNat < s[i].toNat) ∧ 1 ≤ (s[s.size - 1]).toNat := by
  have hl : s.data.toList.length = s.size := by simp
  have hne : s.data.toList ≠ [] := by intro e; rw [e] at hl; simp at hl; omega
  unfold rightB
  rw [hl, Bool.and_eq_true, dec_iff]
  have e : (s.data.toList.getLast hne) = s[s.size - 1] := by
    rw [List.getLast_eq_getElem]
    simp only [hl]; rfl
  constructor
  · rintro ⟨⟨_, h2, h3⟩, _⟩
    exact ⟨fun i h => h2 i (by rw [hl]; exact h), by rw [← e]; exact h3 hne⟩
  · rintro ⟨h2, h3⟩
    refine ⟨⟨fun h => byte_lt _, fun i h => h2 i (by rw [← hl]; exact h), fun _ => by rw [e]; exact h3⟩, ?_⟩
    simp [h1, h8]
theorem right_lens {s : ByteArray} (h : s.size < 1 ∨ 8 < s.size) : rightB s.data.toList = false := by
  unfold rightB
  have hl : s.data.toList.length = s.size := by simp
  rw [hl]
  rcases h with h | h
  · have : decide (1 ≤ s.size) = false := decide_eq_false (by omega)
    rw [this]; simp
  · have : decide (s.size ≤ 8) = false := decide_eq_false (by omega)
    rw [this]; simp

theorem rright_any (s : ByteArray) (w : World) (hs : s.size ≤ 1000) : Calls Try.prog 14 #[.string s] w fun e w' => e = .returned (.bool (rightB s.data.toList)) ∧ Below w.heap.size w w' := by
  by_cases h1 : s.size < 1
  · have HF := Lib.hid (right_lens (.inl h1))
    go_enter Try.func14, Try.ntmps14
    go_wp2_with fail
    go_ret
    exact ⟨by rw [HF.out]; rfl, Below.refl _ _⟩
  · by_cases h8 : 8 < s.size
    · have HF := Lib.hid (right_lens (.inr h8))
      go_enter Try.func14, Try.ntmps14
      go_wp2_with fail
      go_ret
      exact ⟨by rw [HF.out]; rfl, Below.refl _ _⟩
    · have hri := right_iff s (by omega) (by omega)
      obtain ⟨m, hm⟩ : ∃ m, s.size - 1 = m := ⟨_, rfl⟩
      have hm' : (s.size : Int) - 1 = (m : Int) := by omega
      have hms : m < s.size := by omega
      have hms' : (m : Int) < (s.size : Int) := by omega
      have hm0 : (0 : Int) ≤ (m : Int) := by omega
      have hlast : s[s.size - 1] = s[m] := by simp only [hm]
      rw [hlast] at hri
      obtain ⟨c, hc⟩ : ∃ c, s[m] = c := ⟨_, rfl⟩
      rw [hc] at hri
      have HRI := Lib.hid hri
      clear hri hlast hm
      by_cases h0 : c.toNat = 0
      · have hc0 : ((c.toNat : Int) == 0) = true := by rw [beq_iff_eq]; omega
        have HF := Lib.hid (show rightB s.data.toList = false by
          rw [← Bool.not_eq_true, HRI.out]; intro h; omega)
        clear h0
        go_enter Try.func14, Try.ntmps14
        go_wp2_with fail
        go_ret
        exact ⟨by rw [HF.out]; rfl, Below.refl _ _⟩
      · have hc0 : ((c.toNat : Int) == 0) = false := by rw [beq_eq_false_iff_ne]; omega
        have HC1 := Lib.hid (show 1 ≤ c.toNat by omega)
        clear h0
        go_enter Try.func14, Try.ntmps14
        go_wp2_with fail
        go_loopw [3] (fun i wr => ∃ k : Nat, 1 ≤ k ∧ k ≤ s.size ∧ i = .int .i64 k ∧ (∀ i (h : i + 1 < s.size), i + 1 < k → s[i + 1].toNat < s[i].toNat) ∧ Below w.heap.size w wr) (fun i _ => s.size - (intOf i).toNat)
        case atStart => exact ⟨1, Nat.le_refl _, by omega, rfl, fun i _ h => absurd h (by omega), Below.refl _ _⟩
        case round =>
          obtain ⟨k, hk1, hk, rfl, hdec, hB⟩ := hrel
          have HD := Lib.hid hdec
          clear hdec
          by_cases hks : k < s.size
          · obtain ⟨n, hn⟩ : ∃ n, k - 1 = n := ⟨_, rfl⟩
            have hnk : n + 1 = k := by omega
            have hns : n < s.size := by omega
            have hk2 : (k : Int) < (s.size : Int) := by omega
            have hk3 : (0 : Int) ≤ (k : Int) := by omega
            have hn2 : (k : Int) - 1 = (n : Int) := by omega
            have hn3 : (n : Int) < (s.size : Int) := by omega
            have hn0 : (0 : Int) ≤ (n : Int) := by omega
            have hw : IntKind.i64.wrap ((k : Int) - 1) = (n : Int) := by rw [hn2]; exact IntWalk.i64_in _ (by omega)
            have hfall : s[k].toNat < s[n].toNat → ∀ i (h : i + 1 < s.size), i + 1 < k + 1 → s[i + 1].toNat < s[i].toNat := fun h3 i h h2 => by
              by_cases e : i = n
              · subst e; subst hnk; exact h3
              · exact HD.out i h (by omega)
            have hri := HRI.out
            have hno : ¬ s[k].toNat < s[n].toNat → rightB s.data.toList = false := fun h => by
              rw [← Bool.not_eq_true, hri]; subst hnk; exact fun h2 => h (h2.1 n hks)
            clear hri hn2 hn
            obtain ⟨d, hd⟩ : ∃ d, s[k] = d := ⟨_, rfl⟩
            obtain ⟨f, hf⟩ : ∃ f, s[n] = f := ⟨_, rfl⟩
            rw [hd, hf] at hno hfall
            have HNK := Lib.hid hnk
            clear hnk
            by_cases hdf : d.toNat < f.toNat
            · have hdf2 : ¬ f.toNat ≤ d.toNat := by omega
              have HFA := Lib.hid (hfall hdf)
              clear hno hfall hdf
              go_wp2_with fail
              go_quiet (fail)
              go_wp2_with fail
              go_roundw
              case rel => exact ⟨k + 1, by omega, by omega, by go_num, HFA.out, bdrewN hB _⟩
              case measure => (simp [intOf] <;> omega)
            · have HF := Lib.hid (hno hdf)
              have hdf2 : f.toNat ≤ d.toNat := by omega
              clear hno hfall hdf
              go_wp2_with fail
              go_quiet (fail)
              go_wp2_with fail
              go_ret
              exact ⟨by rw [HF.out]; rfl, bdrewN hB _⟩
          · obtain rfl : k = s.size := by omega
            have HT := Lib.hid (HRI.out.2 ⟨fun i h => HD.out i h h, HC1.out⟩)
            clear hks hk
            go_wp2_with fail
            go_ret
            exact ⟨by rw [HT.out]; rfl, hB⟩

theorem filt_succ (a : ByteArray) (k : Nat) (h : k < a.size) (B : List UInt8) : (a.data.toList.take (k + 1)).filter (fun c => decide (c ∈ B)) = (a.data.toList.take k).filter (fun c => decide (c ∈ B)) ++ (if decide (a[k] ∈ B) then [a[k]] else []) := by
  have e : a.data.toList.take (k + 1) = a.data.toList.take k ++ [a[k]] := by rw [List.take_succ_eq_append_getElem (by simpa using h)]; rfl
  rw [e, List.filter_append]
  cases hd : decide (a[k] ∈ B) <;> simp [hd]
theorem hasV_in (l : List UInt8) (c : UInt8) : hasV l c.toNat = decide (c ∈ l) := by
  unfold hasV
  rw [Bool.eq_iff_iff, List.any_eq_true, decide_eq_true_eq]
  constructor
  · rintro ⟨d, hd, e⟩
    have := byte_ext (a := d) (b := c) (by simpa using e)
    exact this ▸ hd
  · intro h
    exact ⟨c, h, by simp⟩
theorem str_app (l : List UInt8) (c : UInt8) : str l ++ str [c] = str (l ++ [c]) := by
  unfold str
  rw [ByteArray.ext_iff]
  simp
theorem run_one (w : World) (c : UInt8) (b : Nat) (h : w.cell? ⟨b, 0, none⟩ = some (.int .u8 (c.toNat : Int))) : (convert 32 9 (.slice (some ⟨b, 0, none⟩) 1 1)).run Try.prog w = .ok (.string (str [c])) w := by
  refine run_convert_bytes_back w 32 9 5 ⟨b, 0, none⟩ 1 [c] Try.underlying32 Try.underlying5 Try.underlying9 (fun j hj => ?_)
  have : j = 0 := by simp at hj; omega
  subst this
  simpa [Addr.add] using h
theorem rboth_any (a b : ByteArray) (w : World) (ha : a.size ≤ 1000) (hb : b.size ≤ 1000) :
    Calls Try.prog 16 #[.string a, .string b] w (StrOk (bothL a.data.toList b.data.toList) w) := by
  have t1 := fun W => rright_any a W ha
  have t2 := fun W => rright_any b W hb
  unfold StrOk bothL
  have h0 : str [] = ⟨#[]⟩ := rfl
  cases h1 : rightB a.data.toList
  · rw [h1] at t1
    have T1 := Lib.hid t1
    clear t1 t2 h1
    simp only [Bool.false_and, Bool.false_eq_true, if_false, h0]
    clear h0
    go_enter Try.func16, Try.ntmps16
    go_wp2_with fail
    go_loopw [5, 6] (fun v i wr => v = .string ⟨#[]⟩ ∧ i = .int .i64 0 ∧ Below w.heap.size w wr) (fun _ _ _ => 1)
    case atStart => exact ⟨rfl, rfl, Below.refl _ _⟩
    case round =>
      obtain ⟨rfl, rfl, hB⟩ := hrel
      by_cases hs : 0 < a.size
      · have hs' : (0 : Int) < (a.size : Int) := by omega
        go_wp2_with fail
        refine (T1.out _).mono ?_
        rintro e w1 ⟨rfl, hb1⟩
        have hB1 := below_from hB hB.size hb1
        clear hb1
        go_wp2_with fail
        go_ret
        exact ⟨rfl, hB1⟩
      · have hs' : ¬ (0 : Int) < (a.size : Int) := by omega
        go_wp2_with fail
        go_ret
        exact ⟨rfl, hB⟩
  · rw [h1] at t1
    cases h2 : rightB b.data.toList
    · rw [h2] at t2
      have T1 := Lib.hid t1
      have T2 := Lib.hid t2
      clear t1 t2 h1 h2
      simp only [Bool.and_false, Bool.false_eq_true, if_false, h0]
      clear h0
      go_enter Try.func16, Try.ntmps16
      go_wp2_with fail
      go_loopw [5, 6] (fun v i wr => v = .string ⟨#[]⟩ ∧ i = .int .i64 0 ∧ Below w.heap.size w wr) (fun _ _ _ => 1)
      case atStart => exact ⟨rfl, rfl, Below.refl _ _⟩
      case round =>
        obtain ⟨rfl, rfl, hB⟩ := hrel
        by_cases hs : 0 < a.size
        · have hs' : (0 : Int) < (a.size : Int) := by omega
          go_wp2_with fail
          refine (T1.out _).mono ?_
          rintro e w1 ⟨rfl, hb1⟩
          have hB1 := below_from hB hB.size hb1
          clear hb1
          go_wp2_with fail
          refine (T2.out _).mono ?_
          rintro e w2 ⟨rfl, hb1⟩
          have hB2 := below_from hB1 hB1.size hb1
          clear hb1
          go_wp2_with fail
          go_ret
          exact ⟨rfl, hB2⟩
        · have hs' : ¬ (0 : Int) < (a.size : Int) := by omega
          go_wp2_with fail
          go_ret
          exact ⟨rfl, hB⟩
    · rw [h2] at t2
      have T1 := Lib.hid t1
      have T2 := Lib.hid t2
      clear t1 t2 h1 h2
      simp only [Bool.and_self, if_true]
      go_enter Try.func16, Try.ntmps16
      go_wp2_with fail
      go_loopw [5, 6] (fun v i wr => ∃ (k : Nat) (l : List UInt8), k ≤ a.size ∧ i = .int .i64 k ∧ l = (a.data.toList.take k).filter (fun c => decide (c ∈ b.data.toList)) ∧ l.length ≤ k ∧ v = .string (str l) ∧ Below w.heap.size w wr) (fun _ i _ => a.size - (intOf i).toNat)
      case atStart => exact ⟨0, [], Nat.zero_le _, rfl, rfl, Nat.zero_le _, rfl, Below.refl _ _⟩
      case round =>
        obtain ⟨k, l, hk, rfl, hl, hlk, rfl, hB⟩ := hrel
        clear h0
        by_cases hka : k < a.size
        · have hka' : (k : Int) < (a.size : Int) := by omega
          have hk0 : (0 : Int) ≤ (k : Int) := by omega
          have hsu := filt_succ a k hka b.data.toList
          have hsz := str_size l
          rw [← hl] at hsu
          have t3 := fun W => rhas_any b (a[k]).toNat W (byte_lt _) hb
          simp only [hasV_in] at t3
          obtain ⟨c, hc⟩ : ∃ c, a[k] = c := ⟨_, rfl⟩
          rw [hc] at hsu t3
          have hcl := byte_lt c
          have HL := Lib.hid hl
          have HSU := Lib.hid hsu
          have HC := Lib.hid hc
          have hl1 : (str l).size ≤ 1000 := by rw [hsz]; omega
          have hap := str_app l c
          have hsm : (str l).size + (str [c]).size ≤ 9223372036854775807 := by rw [str_size, str_size]; simp; omega
          clear hl hsu hsz
          cases hm : decide (c ∈ b.data.toList)
          · rw [hm] at t3 HSU
            have T3 := Lib.hid t3
            clear t3 hm hap
            go_wp2_with fail
            refine (T1.out _).mono ?_
            rintro e w1 ⟨rfl, hb1⟩
            have hB1 := below_from hB hB.size hb1
            clear hb1 hB
            go_wp2_with fail
            refine (T2.out _).mono ?_
            rintro e w2 ⟨rfl, hb1⟩
            have hB2 := below_from hB1 hB1.size hb1
            clear hb1 hB1
            go_wp2_with fail
            refine (T3.out _).mono ?_
            rintro e w3 ⟨rfl, rfl⟩
            go_wp2_with fail
            go_roundw
            case rel => exact ⟨k + 1, l, by omega, by go_num, by rw [HSU.out]; simp, by omega, rfl, hB2⟩
            case measure => (simp [intOf] <;> omega)
          · rw [hm] at t3 HSU
            have T3 := Lib.hid t3
            clear t3 hm
            go_wp2_with fail
            refine (T1.out _).mono ?_
            rintro e w1 ⟨rfl, hb1⟩
            have hB1 := below_from hB hB.size hb1
            clear hb1 hB
            go_wp2_with fail
            refine (T2.out _).mono ?_
            rintro e w2 ⟨rfl, hb1⟩
            have hB2 := below_from hB1 hB1.size hb1
            clear hb1 hB1
            go_wp2_with fail
            refine (T3.out _).mono ?_
            rintro e w3 ⟨rfl, rfl⟩
            have rn := run_one (w2.alloc (.cells #[.int .u8 (c.toNat : Int)] 5)) c w2.heap.size (by rw [World.cell?_alloc_new]; rfl)
            go_wp2_with fail
            go_roundw
            case rel => exact ⟨k + 1, l ++ [c], by omega, by go_num, by rw [HSU.out]; simp, by simp; omega, rfl, hB2.alloc hB2.size _⟩
            case measure => (simp [intOf] <;> omega)
        · obtain rfl : k = a.size := by omega
          rw [show a.data.toList.take a.size = a.data.toList from List.take_of_length_le (by simp)] at hl
          have HL := Lib.hid hl
          clear hl hka hk
          go_wp2_with fail
          go_ret
          exact ⟨by rw [← HL.out]; rfl, hB⟩

theorem rb_hit {a b : List UInt8} {V : Nat} (ra : rightB a = true) (rb : rightB b = true) (hV : V < 256) (ha : hasV a V = true) (hb : hasV b V = true) (hg : ∀ v, V < v → v < 256 → (hasV a v && hasV b v) = false) : bestV a b = V ∧ bestE a b = 0 := by
  have hm := both_mem ra rb
  have e := ofNat_toNat hV
  have h1 : UInt8.ofNat V ∈ bothL a b := by
    rw [hm.2, ← decide_eq_true_eq (p := UInt8.ofNat V ∈ a), ← decide_eq_true_eq (p := UInt8.ofNat V ∈ b), ← hasV_in, ← hasV_in, e]
    exact ⟨ha, hb⟩
  have h2 := top_ge hm.1 _ h1
  rw [e] at h2
  have hne : bothL a b ≠ [] := fun h => by rw [h] at h1; cases h1
  obtain ⟨c, hc, hct⟩ := top_mem hne
  have hcl := byte_lt c
  have h3 := (hm.2 c).1 hc
  refine ⟨?_, ?_⟩
  · rw [best_top]
    by_cases h : V < topL (bothL a b)
    · have := hg _ h (by omega)
      rw [← hct, hasV_in, hasV_in] at this
      simp [h3] at this
    · omega
  · rw [bothE, ra, rb]; simp [hne]
theorem rb_miss {a b : List UInt8} (ra : rightB a = true) (rb : rightB b = true) (hg : ∀ v, 0 < v → v < 256 → (hasV a v && hasV b v) = false) : bestV a b = 0 ∧ bestE a b = 11 := by
  have hm := both_mem ra rb
  have hne : bothL a b = [] := by
    by_cases h : bothL a b = []
    · exact h
    · obtain ⟨c, hc, hct⟩ := top_mem h
      have hcl := byte_lt c
      have h3 := (hm.2 c).1 hc
      have h4 := (decB_mem hm.1 c hc).1
      have := hg c.toNat (by omega) hcl
      rw [hasV_in, hasV_in] at this
      simp [h3] at this
  rw [best_top, bothE, hne, ra, rb]; exact ⟨rfl, rfl⟩
theorem rb_no {a b : List UInt8} (h : (rightB a && rightB b) = false) : bestV a b = 0 ∧ bestE a b = 3 := by
  rw [best_top, bothE, h]
  unfold bothL; rw [h]; exact ⟨rfl, rfl⟩
theorem rbest_any (a b : ByteArray) (w : World) (ha : a.size ≤ 1000) (hb : b.size ≤ 1000) :
    Calls Try.prog 12 #[.string a, .string b] w fun e w' => e = .returned (.tuple #[.int .i64 (bestV a.data.toList b.data.toList), .int .i64 (bestE a.data.toList b.data.toList)]) ∧ Below w.heap.size w w' := by
  have t1 := fun W => rright_any a W ha
  have t2 := fun W => rright_any b W hb
  cases h1 : rightB a.data.toList
  · have hn := rb_no (a := a.data.toList) (b := b.data.toList) (by rw [h1]; rfl)
    rw [h1] at t1
    rw [hn.1, hn.2]
    have T1 := Lib.hid t1
    clear t1 t2 h1 hn
    go_enter Try.func12, Try.ntmps12
    go_wp2_with fail
    refine (T1.out _).mono ?_
    rintro e w1 ⟨rfl, hb1⟩
    go_wp2_with fail
    go_ret2
    exact ⟨rfl, hb1⟩
  · rw [h1] at t1
    cases h2 : rightB b.data.toList
    · have hn := rb_no (a := a.data.toList) (b := b.data.toList) (by rw [h2, Bool.and_false])
      rw [h2] at t2
      rw [hn.1, hn.2]
      have T1 := Lib.hid t1
      have T2 := Lib.hid t2
      clear t1 t2 h1 h2 hn
      go_enter Try.func12, Try.ntmps12
      go_wp2_with fail
      refine (T1.out _).mono ?_
      rintro e w1 ⟨rfl, hb1⟩
      go_wp2_with fail
      refine (T2.out _).mono ?_
      rintro e w2 ⟨rfl, hb2⟩
      have hB2 := below_from hb1 hb1.size hb2
      clear hb1 hb2
      go_wp2_with fail
      go_ret2
      exact ⟨rfl, hB2⟩
    · rw [h2] at t2
      have T1 := Lib.hid t1
      have T2 := Lib.hid t2
      have R1 := Lib.hid h1
      have R2 := Lib.hid h2
      clear t1 t2 h1 h2
      go_enter Try.func12, Try.ntmps12
      go_wp2_with fail
      refine (T1.out _).mono ?_
      rintro e w1 ⟨rfl, hb1⟩
      go_wp2_with fail
      refine (T2.out _).mono ?_
      rintro e w2 ⟨rfl, hb2⟩
      have hB2 := below_from hb1 hb1.size hb2
      clear hb1 hb2
      go_wp2_with fail
      go_loop [6] (fun i => ∃ V : Nat, V < 256 ∧ i = .int .i64 V ∧ ∀ v, V < v → v < 256 → (hasV a.data.toList v && hasV b.data.toList v) = false) (fun i => (intOf i).toNat)
      case atStart => exact ⟨255, by omega, rfl, fun v h1 h2 => absurd h1 (by omega)⟩
      case round =>
        obtain ⟨V, hV, rfl, hg⟩ := hrel
        have HG := Lib.hid hg
        clear hg
        by_cases h0 : 1 ≤ V
        · have h0' : (1 : Int) ≤ (V : Int) := by omega
          have t3 := fun W => rhas_any a V W hV ha
          have t4 := fun W => rhas_any b V W hV hb
          cases x1 : hasV a.data.toList V
          · rw [x1] at t3
            have T3 := Lib.hid t3
            have HN := Lib.hid (show ∀ v, V - 1 < v → v < 256 → (hasV a.data.toList v && hasV b.data.toList v) = false from fun v h1 h2 => by
              by_cases e : v = V
              · subst e; rw [x1]; rfl
              · exact HG.out v (by omega) h2)
            clear t3 t4 x1
            go_wp2_with fail
            refine (T3.out _).mono ?_
            rintro e w3 ⟨rfl, rfl⟩
            go_wp2_with fail
            go_round
            case rel => exact ⟨V - 1, by omega, by rw [show ((V - 1 : Nat) : Int) = (V : Int) - 1 by omega], HN.out⟩
            case measure => (simp [intOf] <;> omega)
          · rw [x1] at t3
            cases x2 : hasV b.data.toList V
            · rw [x2] at t4
              have T3 := Lib.hid t3
              have T4 := Lib.hid t4
              have HN := Lib.hid (show ∀ v, V - 1 < v → v < 256 → (hasV a.data.toList v && hasV b.data.toList v) = false from fun v h1 h2 => by
                by_cases e : v = V
                · subst e; rw [x2, Bool.and_false]
                · exact HG.out v (by omega) h2)
              clear t3 t4 x1 x2
              go_wp2_with fail
              refine (T3.out _).mono ?_
              rintro e w3 ⟨rfl, rfl⟩
              go_wp2_with fail
              refine (T4.out _).mono ?_
              rintro e w3 ⟨rfl, rfl⟩
              go_wp2_with fail
              go_round
              case rel => exact ⟨V - 1, by omega, by rw [show ((V - 1 : Nat) : Int) = (V : Int) - 1 by omega], HN.out⟩
              case measure => (simp [intOf] <;> omega)
            · rw [x2] at t4
              have T3 := Lib.hid t3
              have T4 := Lib.hid t4
              have HN := Lib.hid (rb_hit R1.out R2.out hV x1 x2 HG.out)
              clear t3 t4 x1 x2
              go_wp2_with fail
              refine (T3.out _).mono ?_
              rintro e w3 ⟨rfl, rfl⟩
              go_wp2_with fail
              refine (T4.out _).mono ?_
              rintro e w3 ⟨rfl, rfl⟩
              go_wp2_with fail
              go_ret2
              exact ⟨by rw [HN.out.1, HN.out.2]; rfl, hB2⟩
        · obtain rfl : V = 0 := by omega
          have HN := Lib.hid (rb_miss R1.out R2.out HG.out)
          clear h0 hV
          go_wp2_with fail
          go_ret2
          exact ⟨by rw [HN.out.1, HN.out.2]; rfl, hB2⟩

theorem run_oneN (w : World) (V : Nat) (hV : V < 256) (b : Nat) (h : w.cell? ⟨b, 0, none⟩ = some (.int .u8 (V : Int))) : (convert 32 9 (.slice (some ⟨b, 0, none⟩) 1 1)).run Try.prog w = .ok (.string (str [UInt8.ofNat V])) w :=
  run_one w (UInt8.ofNat V) b (by rw [ofNat_toNat hV]; exact h)
theorem sel_gt {f : Nat → Bool} {V : Nat} (hV : V ≤ 255) (c : UInt8) (h : c ∈ sel f (255 - V)) : V < c.toNat := by
  obtain ⟨i, h1, h2, rfl⟩ := (sel_mem _ _ _).1 h
  rw [ofNat_toNat (by omega)]; omega
/-- what is made so far: the greater ones, and V, if it came. -/
def part (L : List Int) (V j : Nat) : List UInt8 := sel (memB L) (255 - V) ++ (if memB (L.take j) V then [UInt8.ofNat V] else [])
theorem part_len (L : List Int) (V j : Nat) : (part L V j).length ≤ 257 := by
  unfold part
  have := sel_len (memB L) (255 - V)
  split <;> simp <;> omega
theorem part_has (L : List Int) (V j : Nat) (hV : V ≤ 255) : hasV (part L V j) V = memB (L.take j) V := by
  unfold part hasV
  rw [List.any_append]
  have h1 : (sel (memB L) (255 - V)).any (fun c => c.toNat == V) = false := by
    rw [List.any_eq_false]
    intro c hc
    have := sel_gt hV c hc
    simp; omega
  rw [h1]
  split
  · rename_i h; rw [h]; simp; omega
  · rename_i h; simp at h; rw [h]; rfl
theorem part_zero (L : List Int) (V : Nat) : part L V 0 = sel (memB L) (255 - V) := by
  unfold part memB; simp
theorem part_end (L : List Int) (V : Nat) (h1 : 1 ≤ V) (hV : V ≤ 255) : part L V L.length = sel (memB L) (255 - (V - 1)) := by
  unfold part
  rw [List.take_length, show 255 - (V - 1) = (255 - V) + 1 by omega, sel_succ, show 255 - (255 - V) = V by omega]
theorem part_skip (L : List Int) (V j : Nat) (h : j < L.length) (hx : ¬ L[j] = (V : Int)) : part L V (j + 1) = part L V j := by
  unfold part
  have : memB (L.take (j + 1)) V = memB (L.take j) V := by
    unfold memB
    rw [List.take_succ_eq_append_getElem h, Bool.eq_iff_iff]
    simp only [decide_eq_true_eq, List.mem_append, List.mem_singleton]
    exact ⟨fun h => h.elim id (fun e => absurd e.symm hx), .inl⟩
  rw [this]
theorem part_hit (L : List Int) (V j : Nat) (h : j < L.length) (hx : L[j] = (V : Int)) : part L V (j + 1) = if memB (L.take j) V then part L V j else part L V j ++ [UInt8.ofNat V] := by
  unfold part
  rw [mem_succ L j h V hx]
  cases h2 : memB (L.take j) V <;> simp
theorem make_sel {L : List Int} : makeS L = (if okB L && (decide (1 ≤ (sel (memB L) 255).length) && decide ((sel (memB L) 255).length ≤ 8)) then sel (memB L) 255 else []) ∧ makeE L = (if okB L && (decide (1 ≤ (sel (memB L) 255).length) && decide ((sel (memB L) 255).length ≤ 8)) then 0 else 1) := by
  unfold makeS makeE
  cases h : okB L
  · exact ⟨rfl, rfl⟩
  · have : sel (memB L) 256 = sel (memB L) 255 := by rw [show 256 = 255 + 1 from rfl, sel_succ, show 255 - 255 = 0 from rfl, ok_zero h]; simp
    rw [this]; exact ⟨rfl, rfl⟩
theorem rmake_any (a : Option Addr) (cap : Nat) (L : List Int) (w : World) (r : Ints w a L) (hl : L.length ≤ 1000) :
    Calls Try.prog 10 #[.slice a L.length cap] w (MakeOk L w) := by
  have h0 : str [] = ⟨#[]⟩ := rfl
  have R := Lib.hid r
  clear r
  unfold MakeOk
  go_enter Try.func10, Try.ntmps10
  go_wp2_with fail
  go_loopw [4, 5] (fun s v wr => ∃ V : Nat, V ≤ 255 ∧ v = .int .i64 V ∧ s = .string (str (sel (memB L) (255 - V))) ∧ Below w.heap.size w wr) (fun _ v _ => (intOf v).toNat)
  case atStart => exact ⟨255, Nat.le_refl _, rfl, rfl, Below.refl _ _⟩
  case round =>
    obtain ⟨V, hV, rfl, rfl, hB⟩ := hrel
    by_cases h1 : 1 ≤ V
    · have h1' : (1 : Int) ≤ (V : Int) := by omega
      have HP0 := Lib.hid (part_zero L V)
      have HPE := Lib.hid (part_end L V h1 hV)
      rw [← HP0.out]
      clear h0
      go_wp2_with fail
      go_loopw [4, 6] (fun s i wx => ∃ j : Nat, j ≤ L.length ∧ i = .int .i64 j ∧ s = .string (str (part L V j)) ∧ Below w.heap.size w wx) (fun _ i _ => L.length - (intOf i).toNat)
      case atStart => exact ⟨0, Nat.zero_le _, rfl, rfl, hB⟩
      case round =>
        obtain ⟨j, hj, rfl, rfl, hB2⟩ := hrel
        clear hB
        by_cases hjl : j < L.length
        · obtain ⟨g, off, rfl, hg, c0⟩ := (R.out.keep hB2) j hjl
          have hjl' : (j : Int) < (L.length : Int) := by omega
          have hj0 : (0 : Int) ≤ (j : Int) := by omega
          have hsz := str_size (part L V j)
          have hpl := part_len L V j
          have hhas := part_has L V j hV
          have hskip := part_skip L V j hjl
          have hhit := part_hit L V j hjl
          generalize L[j] = x at c0 hskip hhit
          by_cases hx : x = (V : Int)
          · have hx' : (x == (V : Int)) = true := beq_iff_eq.2 hx
            have t3 := fun W => rhas_any (str (part L V j)) V W (by omega) (by rw [hsz]; omega)
            rw [str_list, hhas] at t3
            have h2 := hhit hx
            have hsm : (str (part L V j)).size + (str [UInt8.ofNat V]).size ≤ 9223372036854775807 := by rw [str_size, str_size]; simp; omega
            have hap := str_app (part L V j) (UInt8.ofNat V)
            clear hskip hhit hx hsz
            cases hm : memB (L.take j) V
            · rw [hm] at t3 h2
              have T3 := Lib.hid t3
              have H2 := Lib.hid h2
              clear t3 hm h2 hhas
              go_wp2_with fail
              refine (T3.out _).mono ?_
              rintro e w3 ⟨rfl, rfl⟩
              have rn := run_oneN (wr.alloc (.cells #[.int .u8 (V : Int)] 5)) V (by omega) wr.heap.size (by rw [World.cell?_alloc_new]; rfl)
              go_wp2_with fail
              go_roundw
              case rel => exact ⟨j + 1, by omega, by go_num, by rw [H2.out]; rfl, hB2.alloc hB2.size _⟩
              case measure => (simp [intOf] <;> omega)
            · rw [hm] at t3 h2
              have T3 := Lib.hid t3
              have H2 := Lib.hid h2
              clear t3 hm h2 hhas hap
              go_wp2_with fail
              refine (T3.out _).mono ?_
              rintro e w3 ⟨rfl, rfl⟩
              go_wp2_with fail
              go_roundw
              case rel => exact ⟨j + 1, by omega, by go_num, by rw [H2.out]; rfl, hB2⟩
              case measure => (simp [intOf] <;> omega)
          · have hx' : (x == (V : Int)) = false := beq_eq_false_iff_ne.2 hx
            have H2 := Lib.hid (hskip hx)
            clear hskip hhit hx hsz hhas
            go_wp2_with fail
            go_roundw
            case rel => exact ⟨j + 1, by omega, by go_num, by rw [H2.out], hB2⟩
            case measure => (simp [intOf] <;> omega)
        · obtain rfl : j = L.length := by omega
          rw [HPE.out]
          clear hjl hj
          go_wp2_with fail
          go_roundw
          case rel => exact ⟨V - 1, by omega, by rw [show ((V - 1 : Nat) : Int) = (V : Int) - 1 by omega], rfl, hB2⟩
          case measure => (simp [intOf] <;> omega)
    · obtain rfl : V = 0 := by omega
      rw [show 255 - 0 = 255 from rfl]
      have hms := make_sel (L := L)
      have hsl := sel_len (memB L) 255
      have hsz := str_size (sel (memB L) 255)
      clear h1 hV
      generalize sel (memB L) 255 = S at hms hsl hsz ⊢
      have HSZ := Lib.hid hsz
      have HMS := Lib.hid hms
      clear hms hsz
      go_wp2_with fail
      go_loopw [7] (fun i wx => ∃ j : Nat, j ≤ L.length ∧ i = .int .i64 j ∧ okB (L.take j) = true ∧ Below w.heap.size w wx) (fun i _ => L.length - (intOf i).toNat)
      case atStart => exact ⟨0, Nat.zero_le _, rfl, rfl, hB⟩
      case round =>
        obtain ⟨j, hj, rfl, hok, hB2⟩ := hrel
        clear hB
        by_cases hjl : j < L.length
        · obtain ⟨g, off, rfl, hg, c0⟩ := (R.out.keep hB2) j hjl
          have hjl' : (j : Int) < (L.length : Int) := by omega
          have hj0 : (0 : Int) ≤ (j : Int) := by omega
          have hmem : L[j] ∈ L := List.getElem_mem _
          have hos := ok_succ L j hjl
          rw [hok, Bool.true_and] at hos
          generalize L[j] = x at c0 hmem hos
          by_cases h1 : x < 1
          · have HB := Lib.hid (make_bad hmem (.inl h1))
            clear hos hmem hok
            go_wp2_with fail
            go_ret2
            exact ⟨by rw [HB.out.1, HB.out.2]; rfl, hB2⟩
          · by_cases h2 : 255 < x
            · have HB := Lib.hid (make_bad hmem (.inr h2))
              clear hos hmem hok
              go_wp2_with fail
              go_ret2
              exact ⟨by rw [HB.out.1, HB.out.2]; rfl, hB2⟩
            · have HOS := Lib.hid (show okB (L.take (j + 1)) = true by rw [hos]; simp; omega)
              clear hos hmem hok
              go_wp2_with fail
              go_roundw
              case rel => exact ⟨j + 1, by omega, by go_num, HOS.out, hB2⟩
              case measure => (simp [intOf] <;> omega)
        · obtain rfl : j = L.length := by omega
          rw [List.take_length] at hok
          have HOK := Lib.hid hok
          clear hok hjl hj
          by_cases h1 : 1 ≤ S.length
          · by_cases h2 : S.length ≤ 8
            · have HM2 := Lib.hid (show makeS L = S ∧ makeE L = 0 by rw [HMS.out.1, HMS.out.2, HOK.out]; simp [h1, h2])
              have h1' : 1 ≤ (str S).size := by rw [HSZ.out]; exact h1
              have h2' : (str S).size ≤ 8 := by rw [HSZ.out]; exact h2
              have h3' : (((str S).size : Int) == 0) = false := beq_eq_false_iff_ne.2 (by omega)
              have h4' : ¬ str S = ByteArray.empty := fun e => by rw [e] at h1'; exact absurd h1' (by decide)
              go_wp2_with fail
              go_ret2
              exact ⟨by rw [HM2.out.1, HM2.out.2]; rfl, hB2⟩
            · have HM2 := Lib.hid (show makeS L = [] ∧ makeE L = 1 by rw [HMS.out.1, HMS.out.2, HOK.out]; simp [h1, h2])
              have h1' : 1 ≤ (str S).size := by rw [HSZ.out]; exact h1
              have h2' : ¬ (str S).size ≤ 8 := by rw [HSZ.out]; exact h2
              have h3' : (((str S).size : Int) == 0) = false := beq_eq_false_iff_ne.2 (by omega)
              have h4' : ¬ str S = ByteArray.empty := fun e => by rw [e] at h1'; exact absurd h1' (by decide)
              go_wp2_with fail
              go_ret2
              exact ⟨by rw [HM2.out.1, HM2.out.2]; rfl, hB2⟩
          · have HM2 := Lib.hid (show makeS L = [] ∧ makeE L = 1 by rw [HMS.out.1, HMS.out.2, HOK.out]; simp [h1])
            obtain rfl : S = [] := List.length_eq_zero_iff.1 (by omega)
            have h3' : ((str []).size == 0) = true := rfl
            go_wp2_with fail
            go_ret2
            exact ⟨by rw [HM2.out.1, HM2.out.2]; rfl, hB2⟩
end Go.Proofs.Ytpojhdabpajjkaa
