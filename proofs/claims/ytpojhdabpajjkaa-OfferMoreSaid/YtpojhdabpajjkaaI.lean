/- Rows of ints that a law makes. -/
import Derived.Test.YtpojhdabpajjkaaF
import Derived.Test.YtpojhdabpajjkaaQ
namespace Go.Proofs.Ytpojhdabpajjkaa
open Go.RowKit
set_option linter.unusedVariables false

def ints (l : List Int) : List Value := l.map (Value.int .i64)
theorem ints_app (l : List Int) (c : Int) : ints (l ++ [c]) = ints l ++ [.int .i64 c] := by simp [ints]
theorem infoInt : (Try.prog.info? 3).map (fun i => (i.zero, i.size, i.bytes)) = some (some (.int .i64 0), 1, 8) := by kernel_rfl
theorem ints_of {w : World} {base : Nat} {a : Option Addr} {cap : Nat} {l : List Int} (h : w.ownsRow base 3 1 (.slice a l.length cap) l.length (ints l)) : Ints w a l := by
  intro k hk
  obtain ⟨a', cap', e, hf⟩ := row_form h
  injection e with e1 e2 e3
  subst e1
  obtain ⟨g, rfl, _, hl⟩ := hf (by omega)
  refine ⟨g, 0, rfl, hl, ?_⟩
  rw [Nat.zero_add]
  have e' : cap' = cap := e3.symm
  rw [h.cellAt k (by omega)]
  simp [ints, hk]
/-- right versions: the numbers of a law's own making. -/
def okL (l : List Int) : Prop := ∀ v ∈ l, 1 ≤ v ∧ v ≤ 255
theorem okL_nil : okL [] := fun v h => by cases h
theorem okL_app {l : List Int} {v : Int} (h : okL l) (h1 : 1 ≤ v) (h2 : v ≤ 255) : okL (l ++ [v]) := by
  intro x hx
  rcases List.mem_append.1 hx with hx | hx
  · exact h x hx
  · simp at hx; omega
theorem okL_b {l : List Int} (h : okL l) : okB l = true := by
  unfold okB
  rw [List.all_eq_true]
  intro v hv
  have := h v hv
  simp; omega
/-- what a row is made of. -/
theorem make_of {l : List Int} (h : okL l) (h8 : l.length ≤ 8) : (l = [] ∧ makeS l = [] ∧ makeE l = 1) ∨ (l ≠ [] ∧ makeE l = 0 ∧ rightB (makeS l) = true) := by
  by_cases e : l = []
  · subst e
    exact .inl ⟨rfl, by decide +kernel, by decide +kernel⟩
  · have h0 := make_small (okL_b h) e h8
    exact .inr ⟨e, h0, (make_ok h0).1⟩
end Go.Proofs.Ytpojhdabpajjkaa
