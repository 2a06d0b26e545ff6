/- The contracts of offer's Both and Best. -/
import Derived.Test.YtpojhdabpajjkaaA
import Derived.Laws.BytesArg
import Derived.Laws.IdiomStrings
namespace Go.Proofs.Ytpojhdabpajjkaa
open Go.RowKit
set_option maxHeartbeats 1000000
set_option maxRecDepth 100000
set_option linter.unusedVariables false

def u8s (l : List UInt8) : List Value := l.map fun c => Value.int .u8 (c.toNat : Int)
theorem u8s_app (l : List UInt8) (c : UInt8) : u8s (l ++ [c]) = u8s l ++ [.int .u8 (c.toNat : Int)] := by simp [u8s]
theorem infoU8 : (Try.prog.info? 5).map (fun i => (i.zero, i.size, i.bytes)) = some (some (.int .u8 0), 1, 1) := by kernel_rfl
/-- a text of bytes. -/
def str (l : List UInt8) : ByteArray := ⟨l.toArray⟩
theorem str_list (l : List UInt8) : (str l).data.toList = l := rfl
theorem str_size (l : List UInt8) : (str l).size = l.length := by simp [str, ByteArray.size]
theorem str_of (s : ByteArray) : str s.data.toList = s := by cases s; rfl
theorem run_str {w : World} {base : Nat} {v : Value} {l : List UInt8} (h : w.ownsRow base 5 1 v l.length (u8s l)) : (convert 32 9 v).run Try.prog w = .ok (.string (str l)) w := by
  rcases h.2 with ⟨rfl, h0⟩ | ⟨g, cap, cur, rfl, _⟩
  · have : l = [] := List.length_eq_zero_iff.1 h0
    subst this
    exact run_convert_bytes_nil w 32 5 Try.underlying32 Try.underlying5 0 0 9 Try.underlying9
  · refine run_convert_bytes_back w 32 9 5 ⟨g, 0, none⟩ cap l Try.underlying32 Try.underlying5 Try.underlying9 (fun j hj => ?_)
    have hadd : (⟨g, 0, none⟩ : Addr).add j = ⟨g, j, none⟩ := by unfold Addr.add; split <;> simp_all
    rw [hadd, h.cellAt j (by omega)]
    simp [u8s, hj]

def bothL (a b : List UInt8) : List UInt8 := if rightB a && rightB b then a.filter (fun c => decide (c ∈ b)) else []

def StrOk (l : List UInt8) (w : World) (e : Ending) (w' : World) : Prop := e = .returned (.string (str l)) ∧ Below w.heap.size w w'

theorem both_no (a b : ByteArray) (w : World) (ha : a.size ≤ 1000) (hb : b.size ≤ 1000) (h : (rightB a.data.toList && rightB b.data.toList) = false) :
    Calls Try.prog 15 #[.string a, .string b] w (StrOk [] w) := by
  have t1 := fun W => right_any a W ha
  have t2 := fun W => right_any b W hb
  cases h1 : rightB a.data.toList
  · rw [h1] at t1
    have T1 := Lib.hid t1
    clear t1 t2 h h1
    go_enter Try.func15, Try.ntmps15
    go_wp2_with fail
    refine (T1.out _).mono ?_
    rintro e w1 ⟨rfl, rfl⟩
    go_wp2_with fail
    go_ret
    exact ⟨rfl, Below.refl _ _⟩
  · rw [h1] at t1 h
    rw [Bool.true_and] at h
    rw [h] at t2
    have T1 := Lib.hid t1
    have T2 := Lib.hid t2
    clear t1 t2 h h1
    go_enter Try.func15, Try.ntmps15
    go_wp2_with fail
    refine (T1.out _).mono ?_
    rintro e w1 ⟨rfl, rfl⟩
    go_wp2_with fail
    refine (T2.out _).mono ?_
    rintro e w1 ⟨rfl, rfl⟩
    go_wp2_with fail
    go_ret
    exact ⟨rfl, Below.refl _ _⟩

theorem both_yes (a b : ByteArray) (w : World) (ha : a.size ≤ 1000) (hb : b.size ≤ 1000) (h1 : rightB a.data.toList = true) (h2 : rightB b.data.toList = true) :
    Calls Try.prog 15 #[.string a, .string b] w (StrOk (a.data.toList.filter (fun c => decide (c ∈ b.data.toList))) w) := by
  obtain ⟨i0, hi0, hi1, hi2, hi3⟩ := info_parts infoU8
  have t1 := fun W => right_any a W ha
  have t2 := fun W => right_any b W hb
  rw [h1] at t1
  rw [h2] at t2
  have T1 := Lib.hid t1
  have T2 := Lib.hid t2
  clear t1 t2 h1 h2
  go_enter Try.func15, Try.ntmps15
  go_wp2_with fail
  refine (T1.out _).mono ?_
  rintro e w1 ⟨rfl, rfl⟩
  go_wp2_with fail
  refine (T2.out _).mono ?_
  rintro e w1 ⟨rfl, rfl⟩
  go_wp2_with fail
  go_loopw [5, 17] (fun v i wr => ∃ (k : Nat) (l : List UInt8), k ≤ a.size ∧ i = .int .i64 k ∧ l = (a.data.toList.take k).filter (fun c => decide (c ∈ b.data.toList)) ∧ l.length ≤ k ∧ wr.ownsRow w.heap.size 5 1 v l.length (u8s l) ∧ Below w.heap.size w wr) (fun _ i _ => a.size - (intOf i).toNat)
  case atStart => exact ⟨0, [], Nat.zero_le _, rfl, rfl, Nat.zero_le _, World.ownsRow_nil _ _ _ _, Below.refl _ _⟩
  case round =>
    obtain ⟨k, l, hk, rfl, hl, hlk, hown, hB⟩ := hrel
    have HL := Lib.hid hl
    have HW := Lib.hid hown
    clear hl
    obtain ⟨va, vc, rfl, hform⟩ := row_form hown
    clear hown hform
    by_cases hka : k < a.size
    · have htk : a.data.toList.take (k + 1) = a.data.toList.take k ++ [a[k]] := by rw [List.take_succ_eq_append_getElem (by simpa using hka)]; rfl
      have hka' : (k : Int) < (a.size : Int) := by omega
      have hk0 : (0 : Int) ≤ (k : Int) := by omega
      have hin := index_mem b.data.toList a[k]
      have t3 := fun W => index_any b a[k] W
      have hl2 : (a.data.toList.take (k + 1)).filter (fun c => decide (c ∈ b.data.toList)) = l ++ [a[k]].filter (fun c => decide (c ∈ b.data.toList)) := by
        rw [htk, List.filter_append, ← HL.out]
      generalize b.data.toList = Bl at hin t3 hl2 ⊢
      obtain ⟨c, hc⟩ : ∃ c, a[k] = c := ⟨_, rfl⟩
      rw [hc] at hin t3 hl2
      generalize Lib.indexByte Bl c = ix at hin t3
      have T3 := Lib.hid t3
      clear t3 htk
      have hl3 : l.length ≤ 1000 := by omega
      by_cases hm : 0 ≤ ix
      · have hl4 : (a.data.toList.take (k + 1)).filter (fun c => decide (c ∈ Bl)) = l ++ [c] := by rw [hl2]; simp [hin ▸ hm]
        have HL4 := Lib.hid hl4
        clear hl4 hl2 hin
        go_wp2_with fail
        refine (T3.out _).mono ?_
        rintro e w2 ⟨rfl, rfl⟩
        have HW3 := Lib.hid (HW.out.alloc (.cells #[.int .u8 (c.toNat : Int)] 5))
        have l7 := hB.size
        go_wp2_with (at_builtin; refine wpList_append_lies _ rfl _ _ _ rfl w.heap.size 5 i0 (.int .u8 0) 1 1 Try.underlying32 hi0 hi1 hi2 hi3 rfl (by decide) (.slice va l.length vc) l.length (u8s l) rfl HW3.out ⟨wr.heap.size, 0, none⟩ 1 1 [.int .u8 (c.toNat : Int)] rfl rfl (World.news_of_block (B := wr.heap.size) (cs := #[.int .u8 (c.toNat : Int)]) (t := 5) (fr := (0, 0)) (news1 rfl)) (by simp [Value.oneCell']) (by omega) (by unfold maxLen; omega) (by omega) (by simp; omega) (wr.heap.size + 1) (by simp) ?_; intro ge cq w5 hown5 hgrow5 hat5 hlt5)
        go_roundw
        case rel => exact ⟨k + 1, l ++ [c], by omega, by go_num, HL4.out.symm, by simp; omega, by rw [u8s_app]; simpa using hown5, (hB.alloc hB.size _).grown hgrow5 (by simp; omega) (fun k hk => (HW3.out.lt k hk).1)⟩
        case measure => (simp [intOf] <;> omega)
      · have hl4 : (a.data.toList.take (k + 1)).filter (fun c => decide (c ∈ Bl)) = l := by rw [hl2]; simp [show ¬ c ∈ Bl from fun h => hm (hin ▸ h)]
        have HL4 := Lib.hid hl4
        clear hl4 hl2 hin
        go_wp2_with fail
        refine (T3.out _).mono ?_
        rintro e w2 ⟨rfl, rfl⟩
        go_wp2_with fail
        go_roundw
        case rel => exact ⟨k + 1, l, by omega, by go_num, HL4.out.symm, by omega, HW.out, hB⟩
        case measure => (simp [intOf] <;> omega)
    · obtain rfl : k = a.size := by omega
      have hx := run_str HW.out
      rw [show a.data.toList.take a.size = a.data.toList from List.take_of_length_le (by simp)] at HL
      clear hka hk
      go_wp2_with fail
      go_ret
      exact ⟨by rw [HL.out]; rfl, hB⟩

theorem both_len (a b : List UInt8) : (bothL a b).length ≤ a.length := by
  unfold bothL; split
  · exact List.length_filter_le _ _
  · exact Nat.zero_le _
def bestV (a b : List UInt8) : Nat := match bothL a b with
  | [] => 0
  | c :: _ => c.toNat
def bestE (a b : List UInt8) : Int := if rightB a && rightB b then (match bothL a b with
  | [] => 11
  | _ :: _ => 0) else 3
theorem both_any (a b : ByteArray) (w : World) (ha : a.size ≤ 1000) (hb : b.size ≤ 1000) : Calls Try.prog 15 #[.string a, .string b] w (StrOk (bothL a.data.toList b.data.toList) w) := by
  unfold bothL
  cases h : (rightB a.data.toList && rightB b.data.toList)
  · exact both_no a b w ha hb h
  · rw [Bool.and_eq_true] at h
    exact both_yes a b w ha hb h.1 h.2

theorem str_nil_empty : (str []).toList.isEmpty = true := by rw [ByteArray.toList_eq]; rfl
theorem str_cons_empty (c : UInt8) (l : List UInt8) : (str (c :: l)).toList.isEmpty = false := by
  rw [ByteArray.toList_eq]; rfl
theorem best_any (a b : ByteArray) (w : World) (ha : a.size ≤ 1000) (hb : b.size ≤ 1000) :
    Calls Try.prog 11 #[.string a, .string b] w fun e w' => e = .returned (.tuple #[.int .i64 (bestV a.data.toList b.data.toList), .int .i64 (bestE a.data.toList b.data.toList)]) ∧ Below w.heap.size w w' := by
  have t1 := fun W => right_any a W ha
  have t2 := fun W => right_any b W hb
  have t3 := fun W => both_any a b W ha hb
  have hv : bestV a.data.toList b.data.toList = (match bothL a.data.toList b.data.toList with | [] => 0 | c :: _ => c.toNat) := rfl
  have he : bestE a.data.toList b.data.toList = if rightB a.data.toList && rightB b.data.toList then (match bothL a.data.toList b.data.toList with | [] => 11 | _ :: _ => 0) else 3 := rfl
  have hno : (rightB a.data.toList && rightB b.data.toList) = false → bothL a.data.toList b.data.toList = [] := fun h => by unfold bothL; rw [h]; rfl
  have hlen := both_len a.data.toList b.data.toList
  rw [hv, he]
  generalize bothL a.data.toList b.data.toList = L at t3 hno hlen ⊢
  cases h1 : rightB a.data.toList
  · rw [h1] at t1 hno
    have hL := hno rfl
    subst hL
    have T1 := Lib.hid t1
    clear t1 t2 t3 hno h1 hv he
    simp only [Bool.false_and, Bool.false_eq_true, if_false]
    go_enter Try.func11, Try.ntmps11
    go_wp2_with fail
    refine (T1.out _).mono ?_
    rintro e w1 ⟨rfl, rfl⟩
    go_wp2_with fail
    go_ret2
    exact ⟨rfl, Below.refl _ _⟩
  · rw [h1] at t1 hno
    cases h2 : rightB b.data.toList
    · rw [h2] at t2 hno
      have hL := hno rfl
      subst hL
      have T1 := Lib.hid t1
      have T2 := Lib.hid t2
      clear t1 t2 t3 hno h1 h2 hv he
      simp only [Bool.and_false, Bool.false_eq_true, if_false]
      go_enter Try.func11, Try.ntmps11
      go_wp2_with fail
      refine (T1.out _).mono ?_
      rintro e w1 ⟨rfl, rfl⟩
      go_wp2_with fail
      refine (T2.out _).mono ?_
      rintro e w1 ⟨rfl, rfl⟩
      go_wp2_with fail
      go_ret2
      exact ⟨rfl, Below.refl _ _⟩
    · rw [h2] at t2
      have T1 := Lib.hid t1
      have T2 := Lib.hid t2
      have T3 := Lib.hid t3
      clear t1 t2 t3 hno h1 h2 hv he
      simp only [Bool.and_true, if_true]
      cases L with
      | nil =>
        simp only []
        have hE := str_nil_empty
        go_enter Try.func11, Try.ntmps11
        go_wp2_with fail
        refine (T1.out _).mono ?_
        rintro e w1 ⟨rfl, rfl⟩
        go_wp2_with fail
        refine (T2.out _).mono ?_
        rintro e w1 ⟨rfl, rfl⟩
        go_wp2_with fail
        refine (T3.out _).mono ?_
        rintro e w1 ⟨rfl, hbl⟩
        go_wp2_with fail
        go_ret2
        exact ⟨rfl, hbl⟩
      | cons c l =>
        simp only []
        have hs := str_size (c :: l)
        have h0 : ∀ h, (str (c :: l))[0]'h = c := fun h => rfl
        have hl0 : (str (c :: l)).data.toList = c :: l := rfl
        have hE := str_cons_empty c l
        have hcl := byte_lt c
        have hS : 1 ≤ (str (c :: l)).size := by rw [str_size]; simp
        have hS' : (0 : Int) < ((str (c :: l)).size : Int) := by omega
        clear hs hl0 hlen
        go_enter Try.func11, Try.ntmps11
        go_wp2_with fail
        refine (T1.out _).mono ?_
        rintro e w1 ⟨rfl, rfl⟩
        go_wp2_with fail
        refine (T2.out _).mono ?_
        rintro e w1 ⟨rfl, rfl⟩
        go_wp2_with fail
        refine (T3.out _).mono ?_
        rintro e w1 ⟨rfl, hbl⟩
        go_wp2_with fail
        go_ret2
        exact ⟨rfl, hbl⟩
end Go.Proofs.Ytpojhdabpajjkaa
