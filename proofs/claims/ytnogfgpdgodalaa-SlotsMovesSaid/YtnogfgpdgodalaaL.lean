/- How a session, and a peer's sessions, come in. -/
import Derived.Test.YtnogfgpdgodalaaRows
import Derived.Test.YtnogfgpdgodalaaB
import Derived.ProofKit
import Derived.OpenShut
import Derived.Lib.SmallJoins
import Derived.Deep.Strs
namespace Go.Proofs.Ytnogfgpdgodalaa
open Go.ChangeShapes Go.WideShapes Go.ChangeAt Go.RowKit Go.Joins Go.Deep
set_option linter.unusedVariables false

def OWf (o : O) : Prop := (Lit.int .u64 o.a).wf = true ∧ (Lit.int .u64 o.b).wf = true ∧ (Lit.int .u64 o.c).wf = true
theorem cells23 : Try.prog.cellsOf 23 = 1 := by kernel_rfl
theorem cells25 : Try.prog.cellsOf 25 = 3 := by kernel_rfl
theorem cells27 : Try.prog.cellsOf 27 = 9 := by kernel_rfl

section
variable {H : Type} {enc : TypeId × Value → H} {w : World} {base : Nat} {spare : Nat → Bool} {held : Bool}
theorem trod_One {n : Nat} {cs : List Value} {y : DataW H × List MemPlace} (h : DataW.trod enc Try.prog w base spare held n 25 cs = some y) : ∃ o : O, cs = [.int .u64 o.a, .int .u64 o.b, .int .u64 o.c] ∧ OWf o := by
  obtain ⟨y0, y1, y2, m, _, hl, h0, h1, h2⟩ := trod_struct3 Try.underlying25 h
  rw [cells25] at hl
  match cs, hl with
  | [v0, v1, v2], _ =>
    simp only [cells23, List.drop, List.take] at h0 h1 h2
    obtain ⟨a, e0, _, wa⟩ := DataW.trod_int Try.underlying23 h0
    obtain ⟨b, e1, _, wb⟩ := DataW.trod_int Try.underlying23 h1
    obtain ⟨c, e2, _, wc⟩ := DataW.trod_int Try.underlying23 h2
    simp at e0 e1 e2
    subst e0 e1 e2
    exact ⟨⟨a, b, c⟩, rfl, wa, wb, wc⟩
theorem trod_Slots {n : Nat} {cs : List Value} {y : DataW H × List MemPlace} (h : DataW.trod enc Try.prog w base spare held n 27 cs = some y) : ∃ p c q : O, cs = [.int .u64 p.a, .int .u64 p.b, .int .u64 p.c, .int .u64 c.a, .int .u64 c.b, .int .u64 c.c, .int .u64 q.a, .int .u64 q.b, .int .u64 q.c] ∧ OWf p ∧ OWf c ∧ OWf q := by
  obtain ⟨y0, y1, y2, m, _, hl, h0, h1, h2⟩ := trod_struct3 Try.underlying27 h
  rw [cells27] at hl
  match cs, hl with
  | [v0, v1, v2, v3, v4, v5, v6, v7, v8], _ =>
    simp only [cells25, List.drop, List.take] at h0 h1 h2
    obtain ⟨p, e0, wp⟩ := trod_One h0
    obtain ⟨c, e1, wc⟩ := trod_One h1
    obtain ⟨q, e2, wq⟩ := trod_One h2
    simp at e0 e1 e2
    obtain ⟨rfl, rfl, rfl⟩ := e0
    obtain ⟨rfl, rfl, rfl⟩ := e1
    obtain ⟨rfl, rfl, rfl⟩ := e2
    exact ⟨p, c, q, rfl, wp, wc, wq⟩
theorem open_One {r : Reach} {b0 : Nat} {v : Value} {d : DataW H} {p : List MemPlace} (hv : Value.okWide Try.prog w r b0 25 v) (h : DataW.Trod enc Try.prog w base spare held 25 v d p) : ∃ o : O, v = .agg #[.int .u64 o.a, .int .u64 o.b, .int .u64 o.c] ∧ OWf o := by
  obtain ⟨cs, rfl, hsz⟩ := okWide_struct Try.underlying25 hv
  obtain ⟨fuel, hf⟩ := h
  obtain ⟨o, ho, hw⟩ := trod_One hf
  refine ⟨o, ?_, hw⟩
  have : cs.toList = [.int .u64 o.a, .int .u64 o.b, .int .u64 o.c] := by simpa [Value.cells] using ho
  cases cs; simp_all
theorem open_Slots {r : Reach} {b0 : Nat} {v : Value} {d : DataW H} {pl : List MemPlace} (hv : Value.okWide Try.prog w r b0 27 v) (h : DataW.Trod enc Try.prog w base spare held 27 v d pl) :
    ∃ p c q : O, v = .agg #[.int .u64 p.a, .int .u64 p.b, .int .u64 p.c, .int .u64 c.a, .int .u64 c.b, .int .u64 c.c, .int .u64 q.a, .int .u64 q.b, .int .u64 q.c] ∧ OWf p ∧ OWf c ∧ OWf q := by
  obtain ⟨cs, rfl, hsz⟩ := okWide_struct Try.underlying27 hv
  obtain ⟨fuel, hf⟩ := h
  obtain ⟨p, c, q, ho, hw⟩ := trod_Slots hf
  refine ⟨p, c, q, ?_, hw⟩
  have : cs.toList = [.int .u64 p.a, .int .u64 p.b, .int .u64 p.c, .int .u64 c.a, .int .u64 c.b, .int .u64 c.c, .int .u64 q.a, .int .u64 q.b, .int .u64 q.c] := by simpa [Value.cells] using ho
  cases cs; simp_all
end
end Go.Proofs.Ytnogfgpdgodalaa
