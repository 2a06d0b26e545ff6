/- The contracts of the law's One and Refs, of the reference's Same. -/
import Derived.Test.YtnogfgpdgodalaaD
import Derived.BigQuiet
namespace Go.Proofs.Ytnogfgpdgodalaa
open Go.RowKit
set_option maxHeartbeats 1000000
set_option maxRecDepth 100000
set_option linter.unusedVariables false

theorem one_any (a b c : Int) (w : World) : Calls Try.prog 18 #[.agg #[.int .u64 a, .int .u64 b, .int .u64 c]] w fun e w' => e = .returned (.agg #[.int .u64 a, .int .u64 b, .int .u64 c]) ∧ Below w.heap.size w w' := by
  go_enter Try.func18, Try.ntmps18
  go_wp2
  exact bodyPost_ret (v := .agg #[.int .u64 a, .int .u64 b, .int .u64 c]) (by simp [results, Try.results18, go_sem]) rfl ⟨rfl, by go_grown⟩

@[go_sem] theorem eq45 (a b c a' b' c' : Int) (w : World) : (Op.equalIn 10000 45 (.agg #[.int .u64 a, .int .u64 b, .int .u64 c]) (.agg #[.int .u64 a', .int .u64 b', .int .u64 c'])).run Try.prog w = .ok (a == a' && b == b' && c == c') w := by
  have u23 := Try.underlying23
  have a23 := Try.isAgg23
  have z23 := Try.sizeOf23
  have hS : Try.prog.underlying 45 = some (.struct (Try.prog.fieldsOf 45)) := by kernel_rfl
  rw [run_equalIn_agg w 9999 45 _ _ hS (by kernel_rfl)]
  simp only [Program.fieldsOf, Try.underlying45]
  go_simp
  by_cases h1 : a = a' <;> by_cases h2 : b = b' <;> by_cases h3 : c = c' <;> simp [h1, h2, h3]

theorem infoRef : (Try.prog.info? 45).map (fun i => (i.zero, i.size, i.bytes)) = some (some (.agg #[.int .u64 0, .int .u64 0, .int .u64 0]), 3, 24) := by kernel_rfl

/-- a slice that is read: where its elements lie. -/
def Reads (w : World) (a : Option Addr) (L : List O) : Prop := ∀ k (h : k < L.length), ∃ g, a = some ⟨g, 0, none⟩ ∧ g < w.heap.size ∧ w.cell? ⟨g, k * 3, none⟩ = some (.int .u64 L[k].a) ∧ w.cell? ⟨g, k * 3 + 1, none⟩ = some (.int .u64 L[k].b) ∧ w.cell? ⟨g, k * 3 + 2, none⟩ = some (.int .u64 L[k].c)
theorem Reads.keep {w w' : World} {a : Option Addr} {L : List O} (r : Reads w a L) (hb : Below w.heap.size w w') : Reads w' a L := fun k h => by
  obtain ⟨g, ha, hl, c0, c1, c2⟩ := r k h
  exact ⟨g, ha, Nat.lt_of_lt_of_le hl hb.size, Ytnogfgpdgodalaa.keep hb c0, Ytnogfgpdgodalaa.keep hb c1, Ytnogfgpdgodalaa.keep hb c2⟩
theorem reads_of {w : World} {base : Nat} {e : TypeId} {v : Value} {L : List O} (h : w.ownsRow base e 3 v L.length (ocs L)) : ∃ a cap, v = .slice a L.length cap ∧ Reads w a L := by
  obtain ⟨a, cap, rfl, hf⟩ := row_form h
  refine ⟨a, cap, rfl, fun k hk => ?_⟩
  obtain ⟨g, rfl, _, hl⟩ := hf (by omega)
  obtain ⟨g0, g1, g2⟩ := ocs_get L k hk
  exact ⟨g, rfl, hl, (h.cellAt (k * 3) (by omega)).trans g0, (h.cellAt (k * 3 + 1) (by omega)).trans g1, (h.cellAt (k * 3 + 2) (by omega)).trans g2⟩

def RefsOk (L : List O) (w : World) (e : Ending) (w' : World) : Prop :=
  ∃ v, e = .returned v ∧ w'.ownsRow w.heap.size 45 3 v L.length (ocs L) ∧ Below w.heap.size w w'

theorem refs_any (a : Option Addr) (cap : Nat) (L : List O) (w : World) (r : Reads w a L) (hl : L.length ≤ 100) :
    Calls Try.prog 17 #[.slice a L.length cap] w (RefsOk L w) := by
  obtain ⟨i0, hi0, hi1, hi2, hi3⟩ := info_parts infoRef
  have R := Lib.hid r
  clear r
  go_enter Try.func17, Try.ntmps17
  go_wp2_with fail
  go_loopw [3, 4] (fun v i wr => ∃ k : Nat, k ≤ L.length ∧ i = .int .i64 k ∧ wr.ownsRow w.heap.size 45 3 v (L.take k).length (ocs (L.take k)) ∧ Below w.heap.size w wr) (fun _ i _ => L.length - (intOf i).toNat)
  case atStart => exact ⟨0, Nat.zero_le _, rfl, World.ownsRow_made w #[] 0 (Nat.le_refl _) (by decide) rfl, by go_grown⟩
  case round =>
    obtain ⟨k, hk, rfl, hown, hB⟩ := hrel
    by_cases hkl : k < L.length
    · obtain ⟨g, rfl, hg, c0, c1, c2⟩ := (R.out.keep hB) k hkl
      have htk := List.take_succ_eq_append_getElem hkl
      generalize L[k] = x at htk c0 c1 c2
      have hle : (L.take k).length ≤ 100 := by rw [List.length_take]; omega
      have HT := Lib.hid htk
      have hkl' : (k : Int) < (L.length : Int) := by omega
      have hk0 : (0 : Int) ≤ (k : Int) := by omega
      obtain ⟨va, vc, rfl, hform⟩ := row_form hown
      have HW := Lib.hid hown
      clear hown htk hform
      obtain ⟨l, hll⟩ : ∃ l, L.take k = l := ⟨_, rfl⟩
      rw [hll] at hle HT HW ⊢
      clear hll
      go_wp2_with fail
      refine (one_any _ _ _ _).mono ?_
      rintro e w2 ⟨rfl, hb⟩
      have hB2 := below_from hB hB.size hb
      have HW2 := Lib.hid (row_keep HW.out hb)
      have HW3 := Lib.hid (HW2.out.alloc (.cells #[.int .u64 x.a, .int .u64 x.b, .int .u64 x.c] 45))
      have l7 := hB2.size
      clear hb hB c0 c1 c2
      go_wp2_with (at_builtin; refine wpList_append_lies _ rfl _ _ _ rfl w.heap.size 45 i0 (.agg #[.int .u64 0, .int .u64 0, .int .u64 0]) 3 24 Try.underlying43 hi0 hi1 hi2 hi3 rfl (by decide) (.slice va l.length vc) l.length (ocs l) rfl HW3.out ⟨w2.heap.size, 0, none⟩ 1 1 [.int .u64 x.a, .int .u64 x.b, .int .u64 x.c] rfl rfl (World.news_of_block (B := w2.heap.size) (cs := #[.int .u64 x.a, .int .u64 x.b, .int .u64 x.c]) (t := 45) (fr := (0, 0)) (news1 rfl)) (by simp [Value.oneCell']) (by omega) (by unfold maxLen; omega) (by omega) (by simp; omega) (w2.heap.size + 1) (by simp) ?_; intro ge cq w5 hown5 hgrow5 hat5 hlt5)
      go_roundw
      case rel => exact ⟨k + 1, by omega, by go_num, by rw [HT.out, ocs_app]; simpa using hown5, (hB2.alloc hB2.size _).grown hgrow5 (by simp; omega) (fun k hk => (HW3.out.lt k hk).1)⟩
      case measure => (simp [intOf] <;> omega)
    · obtain rfl : k = L.length := by omega
      rw [List.take_length] at hown
      clear hkl hk
      go_wp2_with fail
      go_ret
      exact ⟨_, rfl, hown, hB⟩

theorem same_yes (a b : Option Addr) (ca cb : Nat) (L : List O) (w : World) (r1 : Reads w a L) (r2 : Reads w b L) (hl : L.length ≤ 100) :
    Calls Try.prog 16 #[.slice a L.length ca, .slice b L.length cb] w fun e w' => e = .returned (.bool true) ∧ Below w.heap.size w w' := by
  have R1 := Lib.hid r1
  have R2 := Lib.hid r2
  clear r1 r2
  go_enter Try.func16, Try.ntmps16
  go_wp2_with fail
  go_loopw [5] (fun i wr => ∃ k : Nat, k ≤ L.length ∧ i = .int .i64 k ∧ Below w.heap.size w wr) (fun i _ => L.length - (intOf i).toNat)
  case atStart => exact ⟨0, Nat.zero_le _, rfl, Below.refl _ _⟩
  case round =>
    obtain ⟨k, hk, rfl, hB⟩ := hrel
    by_cases hkl : k < L.length
    · obtain ⟨g, rfl, hg, c0, c1, c2⟩ := (R1.out.keep hB) k hkl
      obtain ⟨g', rfl, hg', d0, d1, d2⟩ := (R2.out.keep hB) k hkl
      generalize L[k] = x at c0 c1 c2 d0 d1 d2
      have hkl' : (k : Int) < (L.length : Int) := by omega
      have hk0 : (0 : Int) ≤ (k : Int) := by omega
      go_wp2_with fail
      go_quiet (fail)
      go_wp2_with fail
      go_roundw
      case rel => exact ⟨k + 1, by omega, by go_num, bdrewN hB _⟩
      case measure => (simp [intOf] <;> omega)
    · obtain rfl : k = L.length := by omega
      go_wp2_with fail
      go_ret
      exact ⟨rfl, hB⟩
end Go.Proofs.Ytnogfgpdgodalaa
