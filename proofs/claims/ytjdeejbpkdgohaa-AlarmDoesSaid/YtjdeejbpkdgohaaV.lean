/- The document's alarms: a list behind a pointer; place, First. -/
import Derived.Test.YtjdeejbpkdgohaaU
namespace Go.Proofs.Ytjdeejbpkdgohaa
open Go.RowKit Go.Maps
set_option maxHeartbeats 1000000
set_option maxRecDepth 100000
set_option linter.unusedVariables false

/-- a row of alarms that is read. -/
def Row2 (W : World) (a : Option Addr) (S : List Al) : Prop := ∀ k (h : k < S.length), ∃ g off, a = some ⟨g, off, none⟩ ∧ g < W.heap.size ∧ W.cell? ⟨g, off + k * 2, none⟩ = some (.int .u64 (S[k].1 : Int)) ∧ W.cell? ⟨g, off + k * 2 + 1, none⟩ = some (.int .u64 (S[k].2 : Int))
theorem Row2.touch {T : Nat → Prop} {W W' : World} {a : Option Addr} {S : List Al} (h : Row2 W a S) (k : Touch T W W') (hn : ∀ x, a = some x → ¬ T x.block) : Row2 W' a S := fun i hi => by
  obtain ⟨g, off, ha, hl, c0, c1⟩ := h i hi
  have hb : W'.heap[g]? = W.heap[g]? := k.block g hl (hn _ ha)
  exact ⟨g, off, ha, Nat.lt_of_lt_of_le hl k.size, (World.cell?_of_block hb).trans c0, (World.cell?_of_block hb).trans c1⟩
/-- the list S, and how many at most, behind a pointer to block br; G: the blocks in which it lies. -/
def RefAt (W : World) (br : Nat) (G : Nat → Prop) (S : List Al) (most : Int) : Prop := ∃ a c, At W br 28 #[.slice a S.length c, .int .i64 most] ∧ Row2 W a S ∧ S.length ≤ c ∧ G br ∧ (∀ x, a = some x → G x.block ∧ x.block ≠ br) ∧ ∀ b, G b → b < W.heap.size
theorem RefAt.lt {W : World} {br : Nat} {G : Nat → Prop} {S : List Al} {most : Int} (h : RefAt W br G S most) : ∀ b, G b → b < W.heap.size := by obtain ⟨a, c, _, _, _, _, _, h⟩ := h; exact h
theorem RefAt.touch {T : Nat → Prop} {W W' : World} {br : Nat} {G : Nat → Prop} {S : List Al} {most : Int} (h : RefAt W br G S most) (k : Touch T W W') (hn : ∀ b, G b → ¬ T b) : RefAt W' br G S most := by
  obtain ⟨a, c, h1, h2, h3, h4, h5, h6⟩ := h
  exact ⟨a, c, h1.touch k (hn br h4), h2.touch k (fun x hx => hn _ (h5 x hx).1), h3, h4, h5, fun b hb => Nat.lt_of_lt_of_le (h6 b hb) k.size⟩
theorem below_touch {W W' : World} (hb : Below W.heap.size W W') : Touch (fun _ => False) W W' := ⟨hb.os, hb.tape, hb.output, hb.size, fun k hk _ => hb.block k hk⟩
theorem RefAt.below {W W' : World} {br : Nat} {G : Nat → Prop} {S : List Al} {most : Int} (h : RefAt W br G S most) (hb : Below W.heap.size W W') : RefAt W' br G S most := h.touch (below_touch hb) (fun _ _ h => h)

/-- where a number stands; -1: nowhere. -/
def PlaceOk (S : List Al) (id : Nat) (r : Int) : Prop := (hasS S id = false ∧ r = -1) ∨ ∃ k : Nat, ∃ h : k < S.length, r = k ∧ S[k].1 = id
theorem place_any {W : World} {br : Nat} {G : Nat → Prop} {S : List Al} {most : Int} (h : RefAt W br G S most) (id : Nat) (hl : S.length < 1000000) :
    Calls Try.prog 23 #[apt br, .int .u64 id] W fun e w' => (∃ r, e = .returned (.int .i64 r) ∧ PlaceOk S id r) ∧ W = w' := by
  obtain ⟨a, c, h1, h2, h3, h4, h5, h6⟩ := h
  have cr0 : W.cell? ⟨br, 0, none⟩ = some (.slice a S.length c) := by rw [h1.rd]; rfl
  have HS := Lib.hid h2
  clear h1 h2 h3 h4 h5 h6
  unfold apt
  go_enter Try.func23, Try.ntmps23
  go_wp2_with fail
  go_loop [5] (fun i => ∃ k : Nat, k ≤ S.length ∧ i = .int .i64 k ∧ ∀ j (h : j < S.length), j < k → S[j].1 ≠ id) (fun i => S.length - (intOf i).toNat)
  case atStart => exact ⟨0, Nat.zero_le _, rfl, fun j _ hj => absurd hj (Nat.not_lt_zero _)⟩
  case round =>
    obtain ⟨k, hk, rfl, hall⟩ := hrel
    by_cases hkl : k < S.length
    · obtain ⟨g, off, rfl, hg, c0, c1⟩ := HS.out k hkl
      have hkl' : (k : Int) < (S.length : Int) := by omega
      have hk0 : (0 : Int) ≤ (k : Int) := by omega
      by_cases hid : S[k].1 = id
      · have hq : ((S[k].1 : Int) == (id : Int)) = true := by rw [hid]; simp
        have HI := Lib.hid hid
        have HKL := Lib.hid hkl
        clear hall hid
        go_wp2_with fail
        go_ret
        exact ⟨⟨k, rfl, .inr ⟨k, HKL.out, rfl, HI.out⟩⟩, rfl⟩
      · have hq : ((S[k].1 : Int) == (id : Int)) = false := by rw [beq_eq_false_iff_ne]; omega
        have HA := Lib.hid (show ∀ j (h : j < S.length), j < k + 1 → S[j].1 ≠ id from fun j h hj => by
          by_cases e : j = k
          · subst e; exact hid
          · exact hall j h (by omega))
        clear hall hid
        go_wp2_with fail
        go_round
        case rel => exact ⟨k + 1, by omega, by go_num, HA.out⟩
        case measure => (simp [intOf] <;> omega)
    · obtain rfl : k = S.length := by omega
      have HN := Lib.hid (show hasS S id = false by
        rw [← Bool.not_eq_true, has_mem]
        rintro ⟨x, hx, e⟩
        obtain ⟨j, hj, rfl⟩ := List.getElem_of_mem hx
        exact hall j hj hj e)
      clear hall hkl hk
      go_wp2_with fail
      go_ret
      exact ⟨⟨-1, rfl, .inl ⟨HN.out, rfl⟩⟩, rfl⟩

theorem rfirst_any {W : World} {br : Nat} {G : Nat → Prop} {S : List Al} {most : Int} (h : RefAt W br G S most) : Calls Try.prog 18 #[apt br] W fun e w' => e = .returned (.tuple #[.int .u64 (firstT S : Nat), .bool (someS S)]) ∧ W = w' := by
  obtain ⟨a, c, h1, h2, h3, h4, h5, h6⟩ := h
  have cr0 : W.cell? ⟨br, 0, none⟩ = some (.slice a S.length c) := by rw [h1.rd]; rfl
  cases S with
  | nil =>
    unfold apt
    go_enter Try.func18, Try.ntmps18
    go_wp2_with fail
    go_ret2
    exact ⟨rfl, rfl⟩
  | cons x S =>
    obtain ⟨g, off, rfl, hg, c0, c1⟩ := h2 0 (by simp)
    have e : (x :: S)[0] = x := rfl
    rw [e] at c0 c1
    have c1' : W.cell? ⟨g, off + 1, none⟩ = some (.int .u64 (x.2 : Int)) := c1
    have hl0 : (0 : Int) < (((x :: S).length : Nat) : Int) := by simp
    have hl1 : ((((x :: S).length : Nat) : Int) == 0) = false := by rw [beq_eq_false_iff_ne]; omega
    have hF : firstT (x :: S) = x.2 := rfl
    have hS : someS (x :: S) = true := rfl
    rw [hF, hS]
    generalize (x :: S).length = n at *
    clear h1 h2 h3 h4 h5 h6 c0 c1
    unfold apt
    go_enter Try.func18, Try.ntmps18
    go_wp2_with fail
    go_ret2
    exact ⟨rfl, rfl⟩
end Go.Proofs.Ytjdeejbpkdgohaa
