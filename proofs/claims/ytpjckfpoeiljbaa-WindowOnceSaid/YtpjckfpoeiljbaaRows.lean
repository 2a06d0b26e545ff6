/-
  No cell of these rows narrows 'for every input' (looked for: loops, veiled, ifaces, maps, wideKeys, modest, calm, conditions, laid).
  DERIVED. THE GIVEN ROWS OF THIS SEAT. 6 by the template 'for every input the law returns true; each argument reads behind the call as it read before'; 0 by the template 'total and deterministic' (their statements: YtpjckfpoeiljbaaTotals.lean).
  GIVEN WITH THE SEED: the statements are not yours to turn. If you find one false, say at which input.
  Laid BY PROGRAM, IN A SANDBOX (cutbox-rows.mjs): the forced cells as the released guide's own fill.sh prints them over the translation 4b0e1e4a99315832… (all of the seat's roots in one cut). By AI agents, Wed Nov 11 2026. No macro, syntax, notation, axiom, sorry.
-/
import Derived.Test.YtpjckfpoeiljbaaChecked
import GoSem.Claim
import GoSem.ClaimJoined
import GoSem.ClaimMapViews
import Derived.JoinedTies
import Derived.KernelRfl
namespace Go.Proofs.Ytpjckfpoeiljbaa
/- THE CELL 'sum', in the pinned program and in every row, IS THE sha256 OF THE DUMP (.gsa) THAT YtpjckfpoeiljbaaProg.lean LOADS. Nothing in Lean hashes anything: it is a label: what it is worth is what the hold of that sum in a sandbox is worth. -/
noncomputable def Try.pinned : Pinned := { name := "ytpjckfpoeiljbaa", sum := "4b0e1e4a993158323f667792ac13464bc5b88c5a05d8c5e660f8fe6c28493a85", checked := Try.checked }
namespace Rows
def none {H : Type} : Left H := { results := [], args := [] }

/-- 'soughlaw14.WindowTells': WHATEVER THE INPUT: true; the input reads as it did. -/
def windowTellsSpec : ChangeSpec := { name := "windowTells", fn := fun _ => fun
  | [d1, d2] => { results := [.lit (.bool true)], args := [d1, d2] }
  | _ => none }
def windowTellsRow : OpenClaim := { program := "ytpjckfpoeiljbaa", sum := "4b0e1e4a993158323f667792ac13464bc5b88c5a05d8c5e660f8fe6c28493a85", func := "sough/soughlaw14.WindowTells", spec := "windowTells", apart := false }
def WindowTellsSaid : Prop := windowTellsRow.holds Try.pinned (OpenSpec.ofChange windowTellsSpec)

/-- ITS FALSE NEIGHBOUR: 'it returns false'. Refute it at one input. -/
def windowTellsWrong : ChangeSpec := { name := "windowTells", fn := fun _ => fun
  | [d1, d2] => { results := [.lit (.bool false)], args := [d1, d2] }
  | _ => none }
def WindowTellsWrongFalsely : Prop := windowTellsRow.holds Try.pinned (OpenSpec.ofChange windowTellsWrong)

/-- 'soughlaw14.WindowOnce': WHATEVER THE INPUT: true; the input reads as it did. -/
def windowOnceSpec : ChangeSpec := { name := "windowOnce", fn := fun _ => fun
  | [d1, d2] => { results := [.lit (.bool true)], args := [d1, d2] }
  | _ => none }
def windowOnceRow : OpenClaim := { program := "ytpjckfpoeiljbaa", sum := "4b0e1e4a993158323f667792ac13464bc5b88c5a05d8c5e660f8fe6c28493a85", func := "sough/soughlaw14.WindowOnce", spec := "windowOnce", apart := false }
def WindowOnceSaid : Prop := windowOnceRow.holds Try.pinned (OpenSpec.ofChange windowOnceSpec)

/-- ITS FALSE NEIGHBOUR: 'it returns false'. Refute it at one input. -/
def windowOnceWrong : ChangeSpec := { name := "windowOnce", fn := fun _ => fun
  | [d1, d2] => { results := [.lit (.bool false)], args := [d1, d2] }
  | _ => none }
def WindowOnceWrongFalsely : Prop := windowOnceRow.holds Try.pinned (OpenSpec.ofChange windowOnceWrong)

/-- 'soughlaw14.WindowStays': WHATEVER THE INPUT: true; the input reads as it did. -/
def windowStaysSpec : ChangeSpec := { name := "windowStays", fn := fun _ => fun
  | [d1, d2, d3] => { results := [.lit (.bool true)], args := [d1, d2, d3] }
  | _ => none }
def windowStaysRow : OpenClaim := { program := "ytpjckfpoeiljbaa", sum := "4b0e1e4a993158323f667792ac13464bc5b88c5a05d8c5e660f8fe6c28493a85", func := "sough/soughlaw14.WindowStays", spec := "windowStays", apart := false }
def WindowStaysSaid : Prop := windowStaysRow.holds Try.pinned (OpenSpec.ofChange windowStaysSpec)

/-- ITS FALSE NEIGHBOUR: 'it returns false'. Refute it at one input. -/
def windowStaysWrong : ChangeSpec := { name := "windowStays", fn := fun _ => fun
  | [d1, d2, d3] => { results := [.lit (.bool false)], args := [d1, d2, d3] }
  | _ => none }
def WindowStaysWrongFalsely : Prop := windowStaysRow.holds Try.pinned (OpenSpec.ofChange windowStaysWrong)

/-- 'soughlaw14.WindowOrder': WHATEVER THE INPUT: true; the input reads as it did. -/
def windowOrderSpec : ChangeSpec := { name := "windowOrder", fn := fun _ => fun
  | [d1, d2] => { results := [.lit (.bool true)], args := [d1, d2] }
  | _ => none }
def windowOrderRow : OpenClaim := { program := "ytpjckfpoeiljbaa", sum := "4b0e1e4a993158323f667792ac13464bc5b88c5a05d8c5e660f8fe6c28493a85", func := "sough/soughlaw14.WindowOrder", spec := "windowOrder", apart := false }
def WindowOrderSaid : Prop := windowOrderRow.holds Try.pinned (OpenSpec.ofChange windowOrderSpec)

/-- ITS FALSE NEIGHBOUR: 'it returns false'. Refute it at one input. -/
def windowOrderWrong : ChangeSpec := { name := "windowOrder", fn := fun _ => fun
  | [d1, d2] => { results := [.lit (.bool false)], args := [d1, d2] }
  | _ => none }
def WindowOrderWrongFalsely : Prop := windowOrderRow.holds Try.pinned (OpenSpec.ofChange windowOrderWrong)

/-- 'soughlaw14.WindowFar': WHATEVER THE INPUT: true; the input reads as it did. -/
def windowFarSpec : ChangeSpec := { name := "windowFar", fn := fun _ => fun
  | [d1, d2] => { results := [.lit (.bool true)], args := [d1, d2] }
  | _ => none }
def windowFarRow : OpenClaim := { program := "ytpjckfpoeiljbaa", sum := "4b0e1e4a993158323f667792ac13464bc5b88c5a05d8c5e660f8fe6c28493a85", func := "sough/soughlaw14.WindowFar", spec := "windowFar", apart := false }
def WindowFarSaid : Prop := windowFarRow.holds Try.pinned (OpenSpec.ofChange windowFarSpec)

/-- ITS FALSE NEIGHBOUR: 'it returns false'. Refute it at one input. -/
def windowFarWrong : ChangeSpec := { name := "windowFar", fn := fun _ => fun
  | [d1, d2] => { results := [.lit (.bool false)], args := [d1, d2] }
  | _ => none }
def WindowFarWrongFalsely : Prop := windowFarRow.holds Try.pinned (OpenSpec.ofChange windowFarWrong)

/-- 'soughlaw14.WindowEnd': WHATEVER THE INPUT: true; the input reads as it did. -/
def windowEndSpec : ChangeSpec := { name := "windowEnd", fn := fun _ => fun
  | [d1, d2] => { results := [.lit (.bool true)], args := [d1, d2] }
  | _ => none }
def windowEndRow : OpenClaim := { program := "ytpjckfpoeiljbaa", sum := "4b0e1e4a993158323f667792ac13464bc5b88c5a05d8c5e660f8fe6c28493a85", func := "sough/soughlaw14.WindowEnd", spec := "windowEnd", apart := false }
def WindowEndSaid : Prop := windowEndRow.holds Try.pinned (OpenSpec.ofChange windowEndSpec)

/-- ITS FALSE NEIGHBOUR: 'it returns false'. Refute it at one input. -/
def windowEndWrong : ChangeSpec := { name := "windowEnd", fn := fun _ => fun
  | [d1, d2] => { results := [.lit (.bool false)], args := [d1, d2] }
  | _ => none }
def WindowEndWrongFalsely : Prop := windowEndRow.holds Try.pinned (OpenSpec.ofChange windowEndWrong)

/- THE SECOND FORM. 'bulk': how many values and letters a reading holds, each counted each time it is reached (what is shared counts as often as it is met; a slice's spare places count too). A statement '..UptoSaid' is the law's where the arguments, and the package variables that the reading takes, are together of bulk at most 1048576: NARROWER than '..Said'. Prove '..Said' where nothing that the law and all that it calls make is longer than what came in: it says more and counts as full. Else prove '..UptoSaid'. A law counts once. -/
mutual
def uptoBulk {H : Type} : DataW H → Nat
  | .lit (.string bytes) => bytes.length + 1
  | .lit _ => 1
  | .nil => 1
  | .ptr d => uptoBulk d + 1
  | .slice elems spare => uptoBulkAll elems + uptoBulkAll spare + 1
  | .agg parts => uptoBulkAll parts + 1
  | .iface _ d => uptoBulk d + 1
  | .map entries => uptoBulkEntries entries + 1
  | .held _ => 1
def uptoBulkAll {H : Type} : List (DataW H) → Nat
  | [] => 0
  | d :: r => uptoBulk d + uptoBulkAll r
def uptoBulkEntries {H : Type} : List (Lit × DataW H) → Nat
  | [] => 0
  | x :: r => uptoBulkEntry x + uptoBulkEntries r
def uptoBulkEntry {H : Type} : Lit × DataW H → Nat
  | (.string bytes, d) => bytes.length + uptoBulk d + 1
  | (_, d) => uptoBulk d + 1
 end
def uptoSmall : (H : Type) → List (DataW H) → Bool := fun _ ds => decide (uptoBulkAll ds ≤ 1048576)
def OpenSpec.upto (s : _root_.Go.ChangeSpec) : _root_.Go.OpenSpec := { _root_.Go.OpenSpec.ofChange s with cond := some uptoSmall }

/-- 'soughlaw14.WindowTells', WHERE WHAT IT READS IS OF BULK AT MOST 1048576: true; the input reads as it did. -/
def windowTellsUptoRow : OpenClaim := { program := "ytpjckfpoeiljbaa", sum := "4b0e1e4a993158323f667792ac13464bc5b88c5a05d8c5e660f8fe6c28493a85", func := "sough/soughlaw14.WindowTells", spec := "windowTells", apart := false, narrowed := true }
def WindowTellsUptoSaid : Prop := windowTellsUptoRow.holds Try.pinned (OpenSpec.upto windowTellsSpec)

/-- 'soughlaw14.WindowOnce', WHERE WHAT IT READS IS OF BULK AT MOST 1048576: true; the input reads as it did. -/
def windowOnceUptoRow : OpenClaim := { program := "ytpjckfpoeiljbaa", sum := "4b0e1e4a993158323f667792ac13464bc5b88c5a05d8c5e660f8fe6c28493a85", func := "sough/soughlaw14.WindowOnce", spec := "windowOnce", apart := false, narrowed := true }
def WindowOnceUptoSaid : Prop := windowOnceUptoRow.holds Try.pinned (OpenSpec.upto windowOnceSpec)

/-- 'soughlaw14.WindowStays', WHERE WHAT IT READS IS OF BULK AT MOST 1048576: true; the input reads as it did. -/
def windowStaysUptoRow : OpenClaim := { program := "ytpjckfpoeiljbaa", sum := "4b0e1e4a993158323f667792ac13464bc5b88c5a05d8c5e660f8fe6c28493a85", func := "sough/soughlaw14.WindowStays", spec := "windowStays", apart := false, narrowed := true }
def WindowStaysUptoSaid : Prop := windowStaysUptoRow.holds Try.pinned (OpenSpec.upto windowStaysSpec)

/-- 'soughlaw14.WindowOrder', WHERE WHAT IT READS IS OF BULK AT MOST 1048576: true; the input reads as it did. -/
def windowOrderUptoRow : OpenClaim := { program := "ytpjckfpoeiljbaa", sum := "4b0e1e4a993158323f667792ac13464bc5b88c5a05d8c5e660f8fe6c28493a85", func := "sough/soughlaw14.WindowOrder", spec := "windowOrder", apart := false, narrowed := true }
def WindowOrderUptoSaid : Prop := windowOrderUptoRow.holds Try.pinned (OpenSpec.upto windowOrderSpec)

/-- 'soughlaw14.WindowFar', WHERE WHAT IT READS IS OF BULK AT MOST 1048576: true; the input reads as it did. -/
def windowFarUptoRow : OpenClaim := { program := "ytpjckfpoeiljbaa", sum := "4b0e1e4a993158323f667792ac13464bc5b88c5a05d8c5e660f8fe6c28493a85", func := "sough/soughlaw14.WindowFar", spec := "windowFar", apart := false, narrowed := true }
def WindowFarUptoSaid : Prop := windowFarUptoRow.holds Try.pinned (OpenSpec.upto windowFarSpec)

/-- 'soughlaw14.WindowEnd', WHERE WHAT IT READS IS OF BULK AT MOST 1048576: true; the input reads as it did. -/
def windowEndUptoRow : OpenClaim := { program := "ytpjckfpoeiljbaa", sum := "4b0e1e4a993158323f667792ac13464bc5b88c5a05d8c5e660f8fe6c28493a85", func := "sough/soughlaw14.WindowEnd", spec := "windowEnd", apart := false, narrowed := true }
def WindowEndUptoSaid : Prop := windowEndUptoRow.holds Try.pinned (OpenSpec.upto windowEndSpec)

end Rows
end Go.Proofs.Ytpjckfpoeiljbaa
