/-
  No cell of these rows narrows 'for every input' (looked for: loops, veiled, ifaces, maps, wideKeys, modest, calm, conditions, laid).
  DERIVED. THE GIVEN ROWS OF THIS SEAT. 6 by the template 'for every input the law returns true; each argument reads behind the call as it read before'; 0 by the template 'total and deterministic' (their statements: YtpojhdabpajjkaaTotals.lean).
  GIVEN WITH THE SEED: the statements are not yours to turn. If you find one false, say at which input.
  Laid BY PROGRAM, IN A SANDBOX (cutbox-rows.mjs): the forced cells as the released guide's own fill.sh prints them over the translation 88785dced6cdc3e1… (all of the seat's roots in one cut). By AI agents, Wed Nov 11 2026. No macro, syntax, notation, axiom, sorry.
-/
import Derived.Test.YtpojhdabpajjkaaChecked
import GoSem.Claim
import GoSem.ClaimJoined
import GoSem.ClaimMapViews
import Derived.JoinedTies
import Derived.KernelRfl
namespace Go.Proofs.Ytpojhdabpajjkaa
/- THE CELL 'sum', in the pinned program and in every row, IS THE sha256 OF THE DUMP (.gsa) THAT YtpojhdabpajjkaaProg.lean LOADS. Nothing in Lean hashes anything: it is a label: what it is worth is what the hold of that sum in a sandbox is worth. -/
noncomputable def Try.pinned : Pinned := { name := "ytpojhdabpajjkaa", sum := "88785dced6cdc3e1a9bb0e0ea6695a789ddcc1137a09e80c54f05b46819aa8b3", checked := Try.checked }
namespace Rows
def none {H : Type} : Left H := { results := [], args := [] }

/-- 'soughlaw09.OfferTells': WHATEVER THE INPUT: true; the input reads as it did. -/
def offerTellsSpec : ChangeSpec := { name := "offerTells", fn := fun _ => fun
  | [d1, d2, d3] => { results := [.lit (.bool true)], args := [d1, d2, d3] }
  | _ => none }
def offerTellsRow : OpenClaim := { program := "ytpojhdabpajjkaa", sum := "88785dced6cdc3e1a9bb0e0ea6695a789ddcc1137a09e80c54f05b46819aa8b3", func := "sough/soughlaw09.OfferTells", spec := "offerTells", inPlace := ["internal/bytealg.IndexByteString"], apart := false }
def OfferTellsSaid : Prop := offerTellsRow.holds Try.pinned (OpenSpec.ofChange offerTellsSpec)

/-- ITS FALSE NEIGHBOUR: 'it returns false'. Refute it at one input. -/
def offerTellsWrong : ChangeSpec := { name := "offerTells", fn := fun _ => fun
  | [d1, d2, d3] => { results := [.lit (.bool false)], args := [d1, d2, d3] }
  | _ => none }
def OfferTellsWrongFalsely : Prop := offerTellsRow.holds Try.pinned (OpenSpec.ofChange offerTellsWrong)

/-- 'soughlaw09.OfferMakes': WHATEVER THE INPUT: true; the input reads as it did. -/
def offerMakesSpec : ChangeSpec := { name := "offerMakes", fn := fun _ => fun
  | [d] => { results := [.lit (.bool true)], args := [d] }
  | _ => none }
def offerMakesRow : OpenClaim := { program := "ytpojhdabpajjkaa", sum := "88785dced6cdc3e1a9bb0e0ea6695a789ddcc1137a09e80c54f05b46819aa8b3", func := "sough/soughlaw09.OfferMakes", spec := "offerMakes", inPlace := ["internal/bytealg.IndexByteString"], apart := false }
def OfferMakesSaid : Prop := offerMakesRow.holds Try.pinned (OpenSpec.ofChange offerMakesSpec)

/-- ITS FALSE NEIGHBOUR: 'it returns false'. Refute it at one input. -/
def offerMakesWrong : ChangeSpec := { name := "offerMakes", fn := fun _ => fun
  | [d] => { results := [.lit (.bool false)], args := [d] }
  | _ => none }
def OfferMakesWrongFalsely : Prop := offerMakesRow.holds Try.pinned (OpenSpec.ofChange offerMakesWrong)

/-- 'soughlaw09.OfferBoth': WHATEVER THE INPUT: true; the input reads as it did. -/
def offerBothSpec : ChangeSpec := { name := "offerBoth", fn := fun _ => fun
  | [d1, d2] => { results := [.lit (.bool true)], args := [d1, d2] }
  | _ => none }
def offerBothRow : OpenClaim := { program := "ytpojhdabpajjkaa", sum := "88785dced6cdc3e1a9bb0e0ea6695a789ddcc1137a09e80c54f05b46819aa8b3", func := "sough/soughlaw09.OfferBoth", spec := "offerBoth", inPlace := ["internal/bytealg.IndexByteString"], apart := false }
def OfferBothSaid : Prop := offerBothRow.holds Try.pinned (OpenSpec.ofChange offerBothSpec)

/-- ITS FALSE NEIGHBOUR: 'it returns false'. Refute it at one input. -/
def offerBothWrong : ChangeSpec := { name := "offerBoth", fn := fun _ => fun
  | [d1, d2] => { results := [.lit (.bool false)], args := [d1, d2] }
  | _ => none }
def OfferBothWrongFalsely : Prop := offerBothRow.holds Try.pinned (OpenSpec.ofChange offerBothWrong)

/-- 'soughlaw09.OfferOnce': WHATEVER THE INPUT: true; the input reads as it did. -/
def offerOnceSpec : ChangeSpec := { name := "offerOnce", fn := fun _ => fun
  | [d1, d2] => { results := [.lit (.bool true)], args := [d1, d2] }
  | _ => none }
def offerOnceRow : OpenClaim := { program := "ytpojhdabpajjkaa", sum := "88785dced6cdc3e1a9bb0e0ea6695a789ddcc1137a09e80c54f05b46819aa8b3", func := "sough/soughlaw09.OfferOnce", spec := "offerOnce", inPlace := ["internal/bytealg.IndexByteString"], apart := false }
def OfferOnceSaid : Prop := offerOnceRow.holds Try.pinned (OpenSpec.ofChange offerOnceSpec)

/-- ITS FALSE NEIGHBOUR: 'it returns false'. Refute it at one input. -/
def offerOnceWrong : ChangeSpec := { name := "offerOnce", fn := fun _ => fun
  | [d1, d2] => { results := [.lit (.bool false)], args := [d1, d2] }
  | _ => none }
def OfferOnceWrongFalsely : Prop := offerOnceRow.holds Try.pinned (OpenSpec.ofChange offerOnceWrong)

/-- 'soughlaw09.OfferBest': WHATEVER THE INPUT: true; the input reads as it did. -/
def offerBestSpec : ChangeSpec := { name := "offerBest", fn := fun _ => fun
  | [d1, d2] => { results := [.lit (.bool true)], args := [d1, d2] }
  | _ => none }
def offerBestRow : OpenClaim := { program := "ytpojhdabpajjkaa", sum := "88785dced6cdc3e1a9bb0e0ea6695a789ddcc1137a09e80c54f05b46819aa8b3", func := "sough/soughlaw09.OfferBest", spec := "offerBest", inPlace := ["internal/bytealg.IndexByteString"], apart := false }
def OfferBestSaid : Prop := offerBestRow.holds Try.pinned (OpenSpec.ofChange offerBestSpec)

/-- ITS FALSE NEIGHBOUR: 'it returns false'. Refute it at one input. -/
def offerBestWrong : ChangeSpec := { name := "offerBest", fn := fun _ => fun
  | [d1, d2] => { results := [.lit (.bool false)], args := [d1, d2] }
  | _ => none }
def OfferBestWrongFalsely : Prop := offerBestRow.holds Try.pinned (OpenSpec.ofChange offerBestWrong)

/-- 'soughlaw09.OfferMore': WHATEVER THE INPUT: true; the input reads as it did. -/
def offerMoreSpec : ChangeSpec := { name := "offerMore", fn := fun _ => fun
  | [d1, d2, d3] => { results := [.lit (.bool true)], args := [d1, d2, d3] }
  | _ => none }
def offerMoreRow : OpenClaim := { program := "ytpojhdabpajjkaa", sum := "88785dced6cdc3e1a9bb0e0ea6695a789ddcc1137a09e80c54f05b46819aa8b3", func := "sough/soughlaw09.OfferMore", spec := "offerMore", inPlace := ["internal/bytealg.IndexByteString"], apart := false }
def OfferMoreSaid : Prop := offerMoreRow.holds Try.pinned (OpenSpec.ofChange offerMoreSpec)

/-- ITS FALSE NEIGHBOUR: 'it returns false'. Refute it at one input. -/
def offerMoreWrong : ChangeSpec := { name := "offerMore", fn := fun _ => fun
  | [d1, d2, d3] => { results := [.lit (.bool false)], args := [d1, d2, d3] }
  | _ => none }
def OfferMoreWrongFalsely : Prop := offerMoreRow.holds Try.pinned (OpenSpec.ofChange offerMoreWrong)

/- THE SECOND FORM. 'bulk': how many values and letters a reading holds, each counted each time it is reached (what is shared counts as often as it is met; a slice's spare places count too). A statement '..UptoSaid' is the law's where the arguments, and the package variables that the reading takes, are together of bulk at most 1048576: NARROWER than '..Said'. Prove '..Said' where nothing that the law and all that it calls make is longer than what came in: it says more and counts as full. Else prove '..UptoSaid'. A law counts once. -/
mutual
def uptoBulk {H : Type} : DataW H → Nat
  | .lit (.string bytes) => bytes.length + 1
  | .lit _ => 1
  | .nil => 1
  | .ptr d => uptoBulk d + 1
  | .slice elems spare => uptoBulkAll elems + uptoBulkAll spare + 1
  | .agg parts => uptoBulkAll parts + 1
  | .iface _ d => uptoBulk d + 1
  | .map entries => uptoBulkEntries entries + 1
  | .held _ => 1
def uptoBulkAll {H : Type} : List (DataW H) → Nat
  | [] => 0
  | d :: r => uptoBulk d + uptoBulkAll r
def uptoBulkEntries {H : Type} : List (Lit × DataW H) → Nat
  | [] => 0
  | x :: r => uptoBulkEntry x + uptoBulkEntries r
def uptoBulkEntry {H : Type} : Lit × DataW H → Nat
  | (.string bytes, d) => bytes.length + uptoBulk d + 1
  | (_, d) => uptoBulk d + 1
 end
def uptoSmall : (H : Type) → List (DataW H) → Bool := fun _ ds => decide (uptoBulkAll ds ≤ 1048576)
def OpenSpec.upto (s : _root_.Go.ChangeSpec) : _root_.Go.OpenSpec := { _root_.Go.OpenSpec.ofChange s with cond := some uptoSmall }

/-- 'soughlaw09.OfferTells', WHERE WHAT IT READS IS OF BULK AT MOST 1048576: true; the input reads as it did. -/
def offerTellsUptoRow : OpenClaim := { program := "ytpojhdabpajjkaa", sum := "88785dced6cdc3e1a9bb0e0ea6695a789ddcc1137a09e80c54f05b46819aa8b3", func := "sough/soughlaw09.OfferTells", spec := "offerTells", inPlace := ["internal/bytealg.IndexByteString"], apart := false, narrowed := true }
def OfferTellsUptoSaid : Prop := offerTellsUptoRow.holds Try.pinned (OpenSpec.upto offerTellsSpec)

/-- 'soughlaw09.OfferMakes', WHERE WHAT IT READS IS OF BULK AT MOST 1048576: true; the input reads as it did. -/
def offerMakesUptoRow : OpenClaim := { program := "ytpojhdabpajjkaa", sum := "88785dced6cdc3e1a9bb0e0ea6695a789ddcc1137a09e80c54f05b46819aa8b3", func := "sough/soughlaw09.OfferMakes", spec := "offerMakes", inPlace := ["internal/bytealg.IndexByteString"], apart := false, narrowed := true }
def OfferMakesUptoSaid : Prop := offerMakesUptoRow.holds Try.pinned (OpenSpec.upto offerMakesSpec)

/-- 'soughlaw09.OfferBoth', WHERE WHAT IT READS IS OF BULK AT MOST 1048576: true; the input reads as it did. -/
def offerBothUptoRow : OpenClaim := { program := "ytpojhdabpajjkaa", sum := "88785dced6cdc3e1a9bb0e0ea6695a789ddcc1137a09e80c54f05b46819aa8b3", func := "sough/soughlaw09.OfferBoth", spec := "offerBoth", inPlace := ["internal/bytealg.IndexByteString"], apart := false, narrowed := true }
def OfferBothUptoSaid : Prop := offerBothUptoRow.holds Try.pinned (OpenSpec.upto offerBothSpec)

/-- 'soughlaw09.OfferOnce', WHERE WHAT IT READS IS OF BULK AT MOST 1048576: true; the input reads as it did. -/
def offerOnceUptoRow : OpenClaim := { program := "ytpojhdabpajjkaa", sum := "88785dced6cdc3e1a9bb0e0ea6695a789ddcc1137a09e80c54f05b46819aa8b3", func := "sough/soughlaw09.OfferOnce", spec := "offerOnce", inPlace := ["internal/bytealg.IndexByteString"], apart := false, narrowed := true }
def OfferOnceUptoSaid : Prop := offerOnceUptoRow.holds Try.pinned (OpenSpec.upto offerOnceSpec)

/-- 'soughlaw09.OfferBest', WHERE WHAT IT READS IS OF BULK AT MOST 1048576: true; the input reads as it did. -/
def offerBestUptoRow : OpenClaim := { program := "ytpojhdabpajjkaa", sum := "88785dced6cdc3e1a9bb0e0ea6695a789ddcc1137a09e80c54f05b46819aa8b3", func := "sough/soughlaw09.OfferBest", spec := "offerBest", inPlace := ["internal/bytealg.IndexByteString"], apart := false, narrowed := true }
def OfferBestUptoSaid : Prop := offerBestUptoRow.holds Try.pinned (OpenSpec.upto offerBestSpec)

/-- 'soughlaw09.OfferMore', WHERE WHAT IT READS IS OF BULK AT MOST 1048576: true; the input reads as it did. -/
def offerMoreUptoRow : OpenClaim := { program := "ytpojhdabpajjkaa", sum := "88785dced6cdc3e1a9bb0e0ea6695a789ddcc1137a09e80c54f05b46819aa8b3", func := "sough/soughlaw09.OfferMore", spec := "offerMore", inPlace := ["internal/bytealg.IndexByteString"], apart := false, narrowed := true }
def OfferMoreUptoSaid : Prop := offerMoreUptoRow.holds Try.pinned (OpenSpec.upto offerMoreSpec)

end Rows
end Go.Proofs.Ytpojhdabpajjkaa
