/- The contract of offer's Make. -/
import Derived.Test.YtpojhdabpajjkaaB
import Derived.Deep.DeepCutAuto
namespace Go.Proofs.Ytpojhdabpajjkaa
open Go.RowKit
set_option maxHeartbeats 1000000
set_option maxRecDepth 100000
set_option linter.unusedVariables false

/-- a slice of ints that is read. -/
def Ints (w : World) (a : Option Addr) (L : List Int) : Prop := ∀ k (h : k < L.length), ∃ g off, a = some ⟨g, off, none⟩ ∧ g < w.heap.size ∧ w.cell? ⟨g, off + k, none⟩ = some (.int .i64 L[k])
theorem Ints.keep {w w' : World} {a : Option Addr} {L : List Int} (r : Ints w a L) (hb : Below w.heap.size w w') : Ints w' a L := fun k h => by
  obtain ⟨g, off, ha, hl, c0⟩ := r k h
  exact ⟨g, off, ha, Nat.lt_of_lt_of_le hl hb.size, Ytpojhdabpajjkaa.keep hb c0⟩
/-- an array of 256 bools. -/
structure HasAt (w : World) (b : Nat) (f : Nat → Bool) : Prop where
  cell : ∀ i, i < 256 → w.cell? ⟨b, i, none⟩ = some (.bool (f i))
  free : ∀ i, w.frozen? ⟨b, i, none⟩ = false

def Z256 : Array Value := Array.replicate 256 (.bool false)
theorem zero38 (w : World) : (zeroValue 38).run Try.prog w = .ok (.agg Z256) w := by kernel_rfl
theorem has_zero (w : World) (t : TypeId) : HasAt (w.alloc (.cells Z256 t)) w.heap.size (fun _ => false) := by
  refine ⟨fun i hi => ?_, fun i => by simp⟩
  rw [World.cell?_alloc_new]
  unfold Z256
  simp [hi]
theorem HasAt.lt {w : World} {b : Nat} {f : Nat → Bool} (h : HasAt w b f) : b < w.heap.size := lt_of (h.cell 0 (by omega))
theorem HasAt.keep {w w' : World} {b : Nat} {f : Nat → Bool} (h : HasAt w b f) (hb : Below w.heap.size w w') : HasAt w' b f :=
  ⟨fun i hi => Ytpojhdabpajjkaa.keep hb (h.cell i hi), fun i => (hb.frozen (p := ⟨b, i, none⟩) h.lt).trans (h.free i)⟩
theorem HasAt.grown {w w' : World} {b : Nat} {f : Nat → Bool} {row : Option Nat} (h : HasAt w b f) (hg : w.grownBy w' row) (hn : some b ≠ row) : HasAt w' b f :=
  ⟨fun i hi => hg.cell (h.cell i hi) hn, fun i => (hg.frozen_far ⟨b, i, none⟩ h.lt hn).trans (h.free i)⟩
theorem HasAt.set {w : World} {b v : Nat} {f : Nat → Bool} (h : HasAt w b f) (hv : v < 256) : HasAt (w.setCell ⟨b, v, none⟩ (.bool true)) b (fun i => f i || decide (i = v)) := by
  refine ⟨fun i hi => ?_, fun i => by simpa using h.free i⟩
  by_cases e : i = v
  · subst e
    rw [World.cell?_setCell_same _ _ _ (h.cell i hi)]; simp
  · rw [World.cell?_setCell_other _ _ _ _ (fun h0 => e (by injection h0 with _ h0; exact h0.symm)), h.cell i hi]; simp [e]

/-- the numbers of a set, the greatest first, among the first k from 255 down. -/
def sel (f : Nat → Bool) (k : Nat) : List UInt8 := ((List.range k).filter (fun i => f (255 - i))).map (fun i => UInt8.ofNat (255 - i))
theorem sel_succ (f : Nat → Bool) (k : Nat) : sel f (k + 1) = sel f k ++ (if f (255 - k) then [UInt8.ofNat (255 - k)] else []) := by
  unfold sel
  rw [List.range_succ, List.filter_append, List.map_append]
  cases h : f (255 - k) <;> simp [h]
theorem sel_len (f : Nat → Bool) (k : Nat) : (sel f k).length ≤ k := by
  unfold sel
  rw [List.length_map]
  exact Nat.le_trans (List.length_filter_le _ _) (by simp)
def memB (L : List Int) (i : Nat) : Bool := decide ((i : Int) ∈ L)
def okB (L : List Int) : Bool := L.all fun v => decide (1 ≤ v) && decide (v ≤ 255)
def makeS (L : List Int) : List UInt8 := if okB L && (decide (1 ≤ (sel (memB L) 256).length) && decide ((sel (memB L) 256).length ≤ 8)) then sel (memB L) 256 else []
def makeE (L : List Int) : Int := if okB L && (decide (1 ≤ (sel (memB L) 256).length) && decide ((sel (memB L) 256).length ≤ 8)) then 0 else 1
def MakeOk (L : List Int) (w : World) (e : Ending) (w' : World) : Prop := e = .returned (.tuple #[.string (str (makeS L)), .int .i64 (makeE L)]) ∧ Below w.heap.size w w'
theorem make_bad {L : List Int} {v : Int} (hv : v ∈ L) (h : v < 1 ∨ 255 < v) : makeS L = [] ∧ makeE L = 1 := by
  have : okB L = false := by
    unfold okB
    rw [List.all_eq_false]
    exact ⟨v, hv, by simp; omega⟩
  unfold makeS makeE
  rw [this]; exact ⟨rfl, rfl⟩
theorem mem_succ (L : List Int) (k : Nat) (h : k < L.length) (n : Nat) (hn : L[k] = (n : Int)) : memB (L.take (k + 1)) = fun i => memB (L.take k) i || decide (i = n) := by
  funext i
  unfold memB
  rw [List.take_succ_eq_append_getElem h, Bool.eq_iff_iff]
  simp only [decide_eq_true_eq, Bool.or_eq_true, List.mem_append, List.mem_singleton, hn]
  constructor <;> intro h <;> rcases h with h | h <;> first | exact .inl h | exact .inr (by omega)
theorem ok_succ (L : List Int) (k : Nat) (h : k < L.length) : okB (L.take (k + 1)) = (okB (L.take k) && (decide (1 ≤ L[k]) && decide (L[k] ≤ 255))) := by
  unfold okB
  rw [List.take_succ_eq_append_getElem h, List.all_append]; simp

theorem make_any (a : Option Addr) (cap : Nat) (L : List Int) (w : World) (r : Ints w a L) (hl : L.length ≤ 1000) :
    Calls Try.prog 9 #[.slice a L.length cap] w (MakeOk L w) := by
  have hz := zero38
  obtain ⟨i0, hi0, hi1, hi2, hi3⟩ := info_parts infoU8
  have R := Lib.hid r
  clear r
  go_enter Try.func9, Try.ntmps9
  go_wp2_with fail
  clear hz
  go_loopw [12] (fun i wr => ∃ k : Nat, k ≤ L.length ∧ i = .int .i64 k ∧ okB (L.take k) = true ∧ HasAt wr w.heap.size (memB (L.take k)) ∧ Below w.heap.size w wr) (fun i _ => L.length - (intOf i).toNat)
  case atStart => exact ⟨0, Nat.zero_le _, rfl, rfl, has_zero w 38 |> fun h => (show memB (L.take 0) = (fun _ => false) from by funext i; simp [memB]) ▸ h, by go_grown⟩
  case round =>
    obtain ⟨k, hk, rfl, hok, hA, hB⟩ := hrel
    by_cases hkl : k < L.length
    · obtain ⟨g, off, rfl, hg, c0⟩ := (R.out.keep hB) k hkl
      have hkl' : (k : Int) < (L.length : Int) := by omega
      have hk0 : (0 : Int) ≤ (k : Int) := by omega
      have hmem : L[k] ∈ L := List.getElem_mem _
      have hos := ok_succ L k hkl
      rw [hok] at hos
      have hms := mem_succ L k hkl
      generalize L[k] = v at c0 hmem hos hms
      by_cases h1 : v < 1
      · have hb := make_bad hmem (.inl h1)
        have HB := Lib.hid hb
        clear hb hos hms hA
        go_wp2_with fail
        go_ret2
        exact ⟨by rw [HB.out.1, HB.out.2]; rfl, hB⟩
      · by_cases h2 : 255 < v
        · have hb := make_bad hmem (.inr h2)
          have HB := Lib.hid hb
          have h2' : (256 : Int) ≤ v := by omega
          clear hb hos hms hA
          go_wp2_with fail
          go_ret2
          exact ⟨by rw [HB.out.1, HB.out.2]; rfl, hB⟩
        · obtain ⟨n, rfl⟩ : ∃ n : Nat, v = n := ⟨v.toNat, by omega⟩
          have hn : n < 256 := by omega
          have hms2 := hms n rfl
          have hos2 : okB (L.take (k + 1)) = true := by rw [hos]; simp; omega
          have HMS := Lib.hid hms2
          have HOS := Lib.hid hos2
          have hcell := hA.cell n hn
          have hfree := hA.free n
          have hn' : (n : Int) < 256 := by omega
          clear hms hos hms2 hos2 hmem
          have HA := Lib.hid hA
          clear hA hok
          go_wp2_with fail
          go_roundw
          case rel => exact ⟨k + 1, by omega, by go_num, HOS.out, by rw [HMS.out]; exact HA.out.set hn, by go_grown⟩
          case measure => (simp [intOf] <;> omega)
    · obtain rfl : k = L.length := by omega
      rw [List.take_length] at hok hA
      have lA := hA.lt
      obtain ⟨f, hf⟩ : ∃ f, memB L = f := ⟨_, rfl⟩
      rw [hf] at hA
      have HF := Lib.hid hf
      have HOK := Lib.hid hok
      clear hf hok hkl hk
      go_wp2_with fail
      go_loopw [7, 25] (fun v i wx => ∃ (j : Nat) (l : List UInt8), j ≤ 256 ∧ i = .int .i64 j ∧ l = sel f j ∧ HasAt wx w.heap.size f ∧ wx.ownsRow (w.heap.size + 1) 5 1 v l.length (u8s l) ∧ Below w.heap.size w wx) (fun _ i _ => 256 - (intOf i).toNat)
      case atStart => exact ⟨0, [], Nat.zero_le _, rfl, rfl, hA, World.ownsRow_nil _ _ _ _, hB⟩
      case round =>
        obtain ⟨j, l, hj, rfl, hl2, hA2, hown, hB2⟩ := hrel
        clear hA hB lA
        have hlen : l.length ≤ j := by rw [hl2]; exact sel_len _ _
        have HLL := Lib.hid hl2
        obtain ⟨va, vc, rfl, hform⟩ := row_form hown
        have HW := Lib.hid hown
        have lA := hA2.lt
        clear hown hform hl2
        by_cases hj2 : j < 256
        · obtain ⟨m, hm⟩ : ∃ m : Nat, (255 : Int) - (j : Int) = (m : Int) := ⟨255 - j, by omega⟩
          have hm2 : 255 - j = m := by omega
          have hm3 : m < 256 := by omega
          have hm4 : (m : Int) < 256 := by omega
          have hcell := hA2.cell m hm3
          have hs := sel_succ f j
          rw [hm2, ← HLL.out] at hs
          have HS := Lib.hid hs
          have HA := Lib.hid hA2
          have hj2' : (j : Int) < 256 := by omega
          clear hs hA2 hm2
          cases hfm : f m
          · rw [hfm] at hcell HS
            clear hfm
            go_wp2_with fail
            go_roundw
            case rel => exact ⟨j + 1, l, by omega, by go_num, by rw [HS.out]; simp, HA.out, HW.out, hB2⟩
            case measure => (simp [intOf] <;> omega)
          · rw [hfm] at hcell HS
            clear hfm
            have HW3 := Lib.hid (HW.out.alloc (.cells #[.int .u8 (m : Int)] 5))
            go_wp2_with (at_builtin; refine wpList_append_lies _ rfl _ _ _ rfl (w.heap.size + 1) 5 i0 (.int .u8 0) 1 1 Try.underlying32 hi0 hi1 hi2 hi3 rfl (by decide) (.slice va l.length vc) l.length (u8s l) rfl HW3.out ⟨wr.heap.size, 0, none⟩ 1 1 [.int .u8 (m : Int)] rfl rfl (World.news_of_block (B := wr.heap.size) (cs := #[.int .u8 (m : Int)]) (t := 5) (fr := (0, 0)) (news1 rfl)) (by simp [Value.oneCell']) (by omega) (by unfold maxLen; omega) (by omega) (by simp; omega) (wr.heap.size + 1) (by simp) ?_; intro ge cq w5 hown5 hgrow5 hat5 hlt5)
            have hB3 := (hB2.alloc hB2.size (.cells #[.int .u8 (m : Int)] 5)).grown hgrow5 (by simp; omega) (fun k hk => by have := (HW3.out.lt k hk).1; omega)
            have HA3 := Lib.hid ((HA.out.keep ((Below.refl _ _).alloc (Nat.le_refl _) (.cells #[.int .u8 (m : Int)] 5))).grown hgrow5 (fun e => by have := (HW3.out.lt _ e.symm).1; omega))
            clear hgrow5 hat5
            go_roundw
            case rel => exact ⟨j + 1, l ++ [UInt8.ofNat m], by omega, by go_num, HS.out.symm, HA3.out, by rw [u8s_app]; simpa [Nat.mod_eq_of_lt hm3] using hown5, hB3⟩
            case measure => (simp [intOf] <;> omega)
        · obtain rfl : j = 256 := by omega
          have hx := run_str HW.out
          have hS := HLL.out
          rw [← HF.out] at hS
          have hmS : makeS L = if (decide (1 ≤ l.length) && decide (l.length ≤ 8)) then l else [] := by unfold makeS; rw [← hS, HOK.out]; rfl
          have hmE : makeE L = if (decide (1 ≤ l.length) && decide (l.length ≤ 8)) then 0 else 1 := by unfold makeE; rw [← hS, HOK.out]; rfl
          have HM := Lib.hid (And.intro hmS hmE)
          clear hS hmS hmE hj2 hj hA2
          by_cases h1 : 1 ≤ l.length
          · by_cases h2 : l.length ≤ 8
            · have HM2 := Lib.hid (show makeS L = l ∧ makeE L = 0 by rw [HM.out.1, HM.out.2]; simp [h1, h2])
              go_wp2_with fail
              go_ret2
              exact ⟨by rw [HM2.out.1, HM2.out.2]; rfl, hB2⟩
            · have HM2 := Lib.hid (show makeS L = [] ∧ makeE L = 1 by rw [HM.out.1, HM.out.2]; simp [h1, h2])
              go_wp2_with fail
              go_ret2
              exact ⟨by rw [HM2.out.1, HM2.out.2]; rfl, hB2⟩
          · have HM2 := Lib.hid (show makeS L = [] ∧ makeE L = 1 by rw [HM.out.1, HM.out.2]; simp [h1])
            go_wp2_with fail
            go_ret2
            exact ⟨by rw [HM2.out.1, HM2.out.2]; rfl, hB2⟩
end Go.Proofs.Ytpojhdabpajjkaa
