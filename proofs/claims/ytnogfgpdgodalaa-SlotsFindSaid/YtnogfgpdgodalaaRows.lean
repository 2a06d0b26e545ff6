/-
  No cell of these rows narrows 'for every input' (looked for: loops, veiled, ifaces, maps, wideKeys, modest, calm, conditions, laid).
  DERIVED. THE GIVEN ROWS OF THIS SEAT. 4 by the template 'for every input the law returns true; each argument reads behind the call as it read before'; 0 by the template 'total and deterministic' (their statements: YtnogfgpdgodalaaTotals.lean).
  GIVEN WITH THE SEED: the statements are not yours to turn. If you find one false, say at which input.
  Laid BY PROGRAM, IN A SANDBOX (cutbox-rows.mjs): the forced cells as the released guide's own fill.sh prints them over the translation 9bb33024daeb2502… (all of the seat's roots in one cut). By AI agents, Wed Nov 11 2026. No macro, syntax, notation, axiom, sorry.
-/
import Derived.Test.YtnogfgpdgodalaaChecked
import GoSem.Claim
import GoSem.ClaimJoined
import GoSem.ClaimMapViews
import Derived.JoinedTies
import Derived.KernelRfl
namespace Go.Proofs.Ytnogfgpdgodalaa
/- THE CELL 'sum', in the pinned program and in every row, IS THE sha256 OF THE DUMP (.gsa) THAT YtnogfgpdgodalaaProg.lean LOADS. Nothing in Lean hashes anything: it is a label: what it is worth is what the hold of that sum in a sandbox is worth. -/
noncomputable def Try.pinned : Pinned := { name := "ytnogfgpdgodalaa", sum := "9bb33024daeb250215fff7bda1e70322791f498a740fc9c28ed7106a33d32584", checked := Try.checked }
namespace Rows
def none {H : Type} : Left H := { results := [], args := [] }

/-- 'soughlaw20.SlotsBounds': WHATEVER THE INPUT: true; the input reads as it did. -/
def slotsBoundsSpec : ChangeSpec := { name := "slotsBounds", fn := fun _ => fun
  | [d] => { results := [.lit (.bool true)], args := [d] }
  | _ => none }
def slotsBoundsRow : OpenClaim := { program := "ytnogfgpdgodalaa", sum := "9bb33024daeb250215fff7bda1e70322791f498a740fc9c28ed7106a33d32584", func := "sough/soughlaw20.SlotsBounds", spec := "slotsBounds", apart := false }
def SlotsBoundsSaid : Prop := slotsBoundsRow.holds Try.pinned (OpenSpec.ofChange slotsBoundsSpec)

/-- ITS FALSE NEIGHBOUR: 'it returns false'. Refute it at one input. -/
def slotsBoundsWrong : ChangeSpec := { name := "slotsBounds", fn := fun _ => fun
  | [d] => { results := [.lit (.bool false)], args := [d] }
  | _ => none }
def SlotsBoundsWrongFalsely : Prop := slotsBoundsRow.holds Try.pinned (OpenSpec.ofChange slotsBoundsWrong)

/-- 'soughlaw20.SlotsAge': WHATEVER THE INPUT: true; the input reads as it did. -/
def slotsAgeSpec : ChangeSpec := { name := "slotsAge", fn := fun _ => fun
  | [d1, d2, d3] => { results := [.lit (.bool true)], args := [d1, d2, d3] }
  | _ => none }
def slotsAgeRow : OpenClaim := { program := "ytnogfgpdgodalaa", sum := "9bb33024daeb250215fff7bda1e70322791f498a740fc9c28ed7106a33d32584", func := "sough/soughlaw20.SlotsAge", spec := "slotsAge", apart := false }
def SlotsAgeSaid : Prop := slotsAgeRow.holds Try.pinned (OpenSpec.ofChange slotsAgeSpec)

/-- ITS FALSE NEIGHBOUR: 'it returns false'. Refute it at one input. -/
def slotsAgeWrong : ChangeSpec := { name := "slotsAge", fn := fun _ => fun
  | [d1, d2, d3] => { results := [.lit (.bool false)], args := [d1, d2, d3] }
  | _ => none }
def SlotsAgeWrongFalsely : Prop := slotsAgeRow.holds Try.pinned (OpenSpec.ofChange slotsAgeWrong)

/-- 'soughlaw20.SlotsFind': WHATEVER THE INPUT: true; the input reads as it did. -/
def slotsFindSpec : ChangeSpec := { name := "slotsFind", fn := fun _ => fun
  | [d1, d2] => { results := [.lit (.bool true)], args := [d1, d2] }
  | _ => none }
def slotsFindRow : OpenClaim := { program := "ytnogfgpdgodalaa", sum := "9bb33024daeb250215fff7bda1e70322791f498a740fc9c28ed7106a33d32584", func := "sough/soughlaw20.SlotsFind", spec := "slotsFind", apart := false }
def SlotsFindSaid : Prop := slotsFindRow.holds Try.pinned (OpenSpec.ofChange slotsFindSpec)

/-- ITS FALSE NEIGHBOUR: 'it returns false'. Refute it at one input. -/
def slotsFindWrong : ChangeSpec := { name := "slotsFind", fn := fun _ => fun
  | [d1, d2] => { results := [.lit (.bool false)], args := [d1, d2] }
  | _ => none }
def SlotsFindWrongFalsely : Prop := slotsFindRow.holds Try.pinned (OpenSpec.ofChange slotsFindWrong)

/-- 'soughlaw20.SlotsMoves': WHATEVER THE INPUT: true; the input reads as it did. -/
def slotsMovesSpec : ChangeSpec := { name := "slotsMoves", fn := fun _ => fun
  | [d1, d2, d3] => { results := [.lit (.bool true)], args := [d1, d2, d3] }
  | _ => none }
def slotsMovesRow : OpenClaim := { program := "ytnogfgpdgodalaa", sum := "9bb33024daeb250215fff7bda1e70322791f498a740fc9c28ed7106a33d32584", func := "sough/soughlaw20.SlotsMoves", spec := "slotsMoves", apart := false }
def SlotsMovesSaid : Prop := slotsMovesRow.holds Try.pinned (OpenSpec.ofChange slotsMovesSpec)

/-- ITS FALSE NEIGHBOUR: 'it returns false'. Refute it at one input. -/
def slotsMovesWrong : ChangeSpec := { name := "slotsMoves", fn := fun _ => fun
  | [d1, d2, d3] => { results := [.lit (.bool false)], args := [d1, d2, d3] }
  | _ => none }
def SlotsMovesWrongFalsely : Prop := slotsMovesRow.holds Try.pinned (OpenSpec.ofChange slotsMovesWrong)

/- THE SECOND FORM. 'bulk': how many values and letters a reading holds, each counted each time it is reached (what is shared counts as often as it is met; a slice's spare places count too). A statement '..UptoSaid' is the law's where the arguments, and the package variables that the reading takes, are together of bulk at most 1048576: NARROWER than '..Said'. Prove '..Said' where nothing that the law and all that it calls make is longer than what came in: it says more and counts as full. Else prove '..UptoSaid'. A law counts once. -/
mutual
def uptoBulk {H : Type} : DataW H → Nat
  | .lit (.string bytes) => bytes.length + 1
  | .lit _ => 1
  | .nil => 1
  | .ptr d => uptoBulk d + 1
  | .slice elems spare => uptoBulkAll elems + uptoBulkAll spare + 1
  | .agg parts => uptoBulkAll parts + 1
  | .iface _ d => uptoBulk d + 1
  | .map entries => uptoBulkEntries entries + 1
  | .held _ => 1
def uptoBulkAll {H : Type} : List (DataW H) → Nat
  | [] => 0
  | d :: r => uptoBulk d + uptoBulkAll r
def uptoBulkEntries {H : Type} : List (Lit × DataW H) → Nat
  | [] => 0
  | x :: r => uptoBulkEntry x + uptoBulkEntries r
def uptoBulkEntry {H : Type} : Lit × DataW H → Nat
  | (.string bytes, d) => bytes.length + uptoBulk d + 1
  | (_, d) => uptoBulk d + 1
 end
def uptoSmall : (H : Type) → List (DataW H) → Bool := fun _ ds => decide (uptoBulkAll ds ≤ 1048576)
def OpenSpec.upto (s : _root_.Go.ChangeSpec) : _root_.Go.OpenSpec := { _root_.Go.OpenSpec.ofChange s with cond := some uptoSmall }

/-- 'soughlaw20.SlotsBounds', WHERE WHAT IT READS IS OF BULK AT MOST 1048576: true; the input reads as it did. -/
def slotsBoundsUptoRow : OpenClaim := { program := "ytnogfgpdgodalaa", sum := "9bb33024daeb250215fff7bda1e70322791f498a740fc9c28ed7106a33d32584", func := "sough/soughlaw20.SlotsBounds", spec := "slotsBounds", apart := false, narrowed := true }
def SlotsBoundsUptoSaid : Prop := slotsBoundsUptoRow.holds Try.pinned (OpenSpec.upto slotsBoundsSpec)

/-- 'soughlaw20.SlotsAge', WHERE WHAT IT READS IS OF BULK AT MOST 1048576: true; the input reads as it did. -/
def slotsAgeUptoRow : OpenClaim := { program := "ytnogfgpdgodalaa", sum := "9bb33024daeb250215fff7bda1e70322791f498a740fc9c28ed7106a33d32584", func := "sough/soughlaw20.SlotsAge", spec := "slotsAge", apart := false, narrowed := true }
def SlotsAgeUptoSaid : Prop := slotsAgeUptoRow.holds Try.pinned (OpenSpec.upto slotsAgeSpec)

/-- 'soughlaw20.SlotsFind', WHERE WHAT IT READS IS OF BULK AT MOST 1048576: true; the input reads as it did. -/
def slotsFindUptoRow : OpenClaim := { program := "ytnogfgpdgodalaa", sum := "9bb33024daeb250215fff7bda1e70322791f498a740fc9c28ed7106a33d32584", func := "sough/soughlaw20.SlotsFind", spec := "slotsFind", apart := false, narrowed := true }
def SlotsFindUptoSaid : Prop := slotsFindUptoRow.holds Try.pinned (OpenSpec.upto slotsFindSpec)

/-- 'soughlaw20.SlotsMoves', WHERE WHAT IT READS IS OF BULK AT MOST 1048576: true; the input reads as it did. -/
def slotsMovesUptoRow : OpenClaim := { program := "ytnogfgpdgodalaa", sum := "9bb33024daeb250215fff7bda1e70322791f498a740fc9c28ed7106a33d32584", func := "sough/soughlaw20.SlotsMoves", spec := "slotsMoves", apart := false, narrowed := true }
def SlotsMovesUptoSaid : Prop := slotsMovesUptoRow.holds Try.pinned (OpenSpec.upto slotsMovesSpec)

end Rows
end Go.Proofs.Ytnogfgpdgodalaa
