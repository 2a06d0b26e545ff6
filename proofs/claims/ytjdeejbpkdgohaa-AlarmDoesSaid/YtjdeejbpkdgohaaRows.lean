/-
  No cell of these rows narrows 'for every input' (looked for: loops, veiled, ifaces, maps, wideKeys, modest, calm, conditions, laid).
  DERIVED. THE GIVEN ROWS OF THIS SEAT. 6 by the template 'for every input the law returns true; each argument reads behind the call as it read before'; 0 by the template 'total and deterministic' (their statements: YtjdeejbpkdgohaaTotals.lean).
  GIVEN WITH THE SEED: the statements are not yours to turn. If you find one false, say at which input.
  Laid BY PROGRAM, IN A SANDBOX (cutbox-rows.mjs): the forced cells as the released guide's own fill.sh prints them over the translation 0751f8b75cfb653b… (all of the seat's roots in one cut). By AI agents, Wed Nov 11 2026. No macro, syntax, notation, axiom, sorry.
-/
import Derived.Test.YtjdeejbpkdgohaaChecked
import GoSem.Claim
import GoSem.ClaimJoined
import GoSem.ClaimMapViews
import Derived.JoinedTies
import Derived.KernelRfl
namespace Go.Proofs.Ytjdeejbpkdgohaa
/- THE CELL 'sum', in the pinned program and in every row, IS THE sha256 OF THE DUMP (.gsa) THAT YtjdeejbpkdgohaaProg.lean LOADS. Nothing in Lean hashes anything: it is a label: what it is worth is what the hold of that sum in a sandbox is worth. -/
noncomputable def Try.pinned : Pinned := { name := "ytjdeejbpkdgohaa", sum := "0751f8b75cfb653b2f95b1f6b23798b0a73e3a2bfda88ec27b7c3665555e6ab3", checked := Try.checked }
namespace Rows
def none {H : Type} : Left H := { results := [], args := [] }

/-- 'soughlaw12.AlarmDoes': WHATEVER THE INPUT: true; the input reads as it did. -/
def alarmDoesSpec : ChangeSpec := { name := "alarmDoes", fn := fun _ => fun
  | [d1, d2] => { results := [.lit (.bool true)], args := [d1, d2] }
  | _ => none }
def alarmDoesRow : OpenClaim := { program := "ytjdeejbpkdgohaa", sum := "0751f8b75cfb653b2f95b1f6b23798b0a73e3a2bfda88ec27b7c3665555e6ab3", func := "sough/soughlaw12.AlarmDoes", spec := "alarmDoes", unfollowed := true, recurses := true, apart := false }
def AlarmDoesSaid : Prop := alarmDoesRow.holds Try.pinned (OpenSpec.ofChange alarmDoesSpec)

/-- ITS FALSE NEIGHBOUR: 'it returns false'. Refute it at one input. -/
def alarmDoesWrong : ChangeSpec := { name := "alarmDoes", fn := fun _ => fun
  | [d1, d2] => { results := [.lit (.bool false)], args := [d1, d2] }
  | _ => none }
def AlarmDoesWrongFalsely : Prop := alarmDoesRow.holds Try.pinned (OpenSpec.ofChange alarmDoesWrong)

/-- 'soughlaw12.AlarmOrder': WHATEVER THE INPUT: true; the input reads as it did. -/
def alarmOrderSpec : ChangeSpec := { name := "alarmOrder", fn := fun _ => fun
  | [d1, d2] => { results := [.lit (.bool true)], args := [d1, d2] }
  | _ => none }
def alarmOrderRow : OpenClaim := { program := "ytjdeejbpkdgohaa", sum := "0751f8b75cfb653b2f95b1f6b23798b0a73e3a2bfda88ec27b7c3665555e6ab3", func := "sough/soughlaw12.AlarmOrder", spec := "alarmOrder", unfollowed := true, recurses := true, apart := false }
def AlarmOrderSaid : Prop := alarmOrderRow.holds Try.pinned (OpenSpec.ofChange alarmOrderSpec)

/-- ITS FALSE NEIGHBOUR: 'it returns false'. Refute it at one input. -/
def alarmOrderWrong : ChangeSpec := { name := "alarmOrder", fn := fun _ => fun
  | [d1, d2] => { results := [.lit (.bool false)], args := [d1, d2] }
  | _ => none }
def AlarmOrderWrongFalsely : Prop := alarmOrderRow.holds Try.pinned (OpenSpec.ofChange alarmOrderWrong)

/-- 'soughlaw12.AlarmTimes': WHATEVER THE INPUT: true; the input reads as it did. -/
def alarmTimesSpec : ChangeSpec := { name := "alarmTimes", fn := fun _ => fun
  | [d] => { results := [.lit (.bool true)], args := [d] }
  | _ => none }
def alarmTimesRow : OpenClaim := { program := "ytjdeejbpkdgohaa", sum := "0751f8b75cfb653b2f95b1f6b23798b0a73e3a2bfda88ec27b7c3665555e6ab3", func := "sough/soughlaw12.AlarmTimes", spec := "alarmTimes", unfollowed := true, recurses := true, apart := false }
def AlarmTimesSaid : Prop := alarmTimesRow.holds Try.pinned (OpenSpec.ofChange alarmTimesSpec)

/-- ITS FALSE NEIGHBOUR: 'it returns false'. Refute it at one input. -/
def alarmTimesWrong : ChangeSpec := { name := "alarmTimes", fn := fun _ => fun
  | [d] => { results := [.lit (.bool false)], args := [d] }
  | _ => none }
def AlarmTimesWrongFalsely : Prop := alarmTimesRow.holds Try.pinned (OpenSpec.ofChange alarmTimesWrong)

/-- 'soughlaw12.AlarmRoom': WHATEVER THE INPUT: true; the input reads as it did. -/
def alarmRoomSpec : ChangeSpec := { name := "alarmRoom", fn := fun _ => fun
  | [d1, d2] => { results := [.lit (.bool true)], args := [d1, d2] }
  | _ => none }
def alarmRoomRow : OpenClaim := { program := "ytjdeejbpkdgohaa", sum := "0751f8b75cfb653b2f95b1f6b23798b0a73e3a2bfda88ec27b7c3665555e6ab3", func := "sough/soughlaw12.AlarmRoom", spec := "alarmRoom", unfollowed := true, recurses := true, apart := false }
def AlarmRoomSaid : Prop := alarmRoomRow.holds Try.pinned (OpenSpec.ofChange alarmRoomSpec)

/-- ITS FALSE NEIGHBOUR: 'it returns false'. Refute it at one input. -/
def alarmRoomWrong : ChangeSpec := { name := "alarmRoom", fn := fun _ => fun
  | [d1, d2] => { results := [.lit (.bool false)], args := [d1, d2] }
  | _ => none }
def AlarmRoomWrongFalsely : Prop := alarmRoomRow.holds Try.pinned (OpenSpec.ofChange alarmRoomWrong)

/-- 'soughlaw12.AlarmFirst': WHATEVER THE INPUT: true; the input reads as it did. -/
def alarmFirstSpec : ChangeSpec := { name := "alarmFirst", fn := fun _ => fun
  | [d] => { results := [.lit (.bool true)], args := [d] }
  | _ => none }
def alarmFirstRow : OpenClaim := { program := "ytjdeejbpkdgohaa", sum := "0751f8b75cfb653b2f95b1f6b23798b0a73e3a2bfda88ec27b7c3665555e6ab3", func := "sough/soughlaw12.AlarmFirst", spec := "alarmFirst", unfollowed := true, recurses := true, apart := false }
def AlarmFirstSaid : Prop := alarmFirstRow.holds Try.pinned (OpenSpec.ofChange alarmFirstSpec)

/-- ITS FALSE NEIGHBOUR: 'it returns false'. Refute it at one input. -/
def alarmFirstWrong : ChangeSpec := { name := "alarmFirst", fn := fun _ => fun
  | [d] => { results := [.lit (.bool false)], args := [d] }
  | _ => none }
def AlarmFirstWrongFalsely : Prop := alarmFirstRow.holds Try.pinned (OpenSpec.ofChange alarmFirstWrong)

/-- 'soughlaw12.AlarmMoves': WHATEVER THE INPUT: true; the input reads as it did. -/
def alarmMovesSpec : ChangeSpec := { name := "alarmMoves", fn := fun _ => fun
  | [d1, d2, d3] => { results := [.lit (.bool true)], args := [d1, d2, d3] }
  | _ => none }
def alarmMovesRow : OpenClaim := { program := "ytjdeejbpkdgohaa", sum := "0751f8b75cfb653b2f95b1f6b23798b0a73e3a2bfda88ec27b7c3665555e6ab3", func := "sough/soughlaw12.AlarmMoves", spec := "alarmMoves", unfollowed := true, recurses := true, apart := false }
def AlarmMovesSaid : Prop := alarmMovesRow.holds Try.pinned (OpenSpec.ofChange alarmMovesSpec)

/-- ITS FALSE NEIGHBOUR: 'it returns false'. Refute it at one input. -/
def alarmMovesWrong : ChangeSpec := { name := "alarmMoves", fn := fun _ => fun
  | [d1, d2, d3] => { results := [.lit (.bool false)], args := [d1, d2, d3] }
  | _ => none }
def AlarmMovesWrongFalsely : Prop := alarmMovesRow.holds Try.pinned (OpenSpec.ofChange alarmMovesWrong)

/- THE SECOND FORM. 'bulk': how many values and letters a reading holds, each counted each time it is reached (what is shared counts as often as it is met; a slice's spare places count too). A statement '..UptoSaid' is the law's where the arguments, and the package variables that the reading takes, are together of bulk at most 1048576: NARROWER than '..Said'. Prove '..Said' where nothing that the law and all that it calls make is longer than what came in: it says more and counts as full. Else prove '..UptoSaid'. A law counts once. -/
mutual
def uptoBulk {H : Type} : DataW H → Nat
  | .lit (.string bytes) => bytes.length + 1
  | .lit _ => 1
  | .nil => 1
  | .ptr d => uptoBulk d + 1
  | .slice elems spare => uptoBulkAll elems + uptoBulkAll spare + 1
  | .agg parts => uptoBulkAll parts + 1
  | .iface _ d => uptoBulk d + 1
  | .map entries => uptoBulkEntries entries + 1
  | .held _ => 1
def uptoBulkAll {H : Type} : List (DataW H) → Nat
  | [] => 0
  | d :: r => uptoBulk d + uptoBulkAll r
def uptoBulkEntries {H : Type} : List (Lit × DataW H) → Nat
  | [] => 0
  | x :: r => uptoBulkEntry x + uptoBulkEntries r
def uptoBulkEntry {H : Type} : Lit × DataW H → Nat
  | (.string bytes, d) => bytes.length + uptoBulk d + 1
  | (_, d) => uptoBulk d + 1
 end
def uptoSmall : (H : Type) → List (DataW H) → Bool := fun _ ds => decide (uptoBulkAll ds ≤ 1048576)
def OpenSpec.upto (s : _root_.Go.ChangeSpec) : _root_.Go.OpenSpec := { _root_.Go.OpenSpec.ofChange s with cond := some uptoSmall }

/-- 'soughlaw12.AlarmDoes', WHERE WHAT IT READS IS OF BULK AT MOST 1048576: true; the input reads as it did. -/
def alarmDoesUptoRow : OpenClaim := { program := "ytjdeejbpkdgohaa", sum := "0751f8b75cfb653b2f95b1f6b23798b0a73e3a2bfda88ec27b7c3665555e6ab3", func := "sough/soughlaw12.AlarmDoes", spec := "alarmDoes", unfollowed := true, recurses := true, apart := false, narrowed := true }
def AlarmDoesUptoSaid : Prop := alarmDoesUptoRow.holds Try.pinned (OpenSpec.upto alarmDoesSpec)

/-- 'soughlaw12.AlarmOrder', WHERE WHAT IT READS IS OF BULK AT MOST 1048576: true; the input reads as it did. -/
def alarmOrderUptoRow : OpenClaim := { program := "ytjdeejbpkdgohaa", sum := "0751f8b75cfb653b2f95b1f6b23798b0a73e3a2bfda88ec27b7c3665555e6ab3", func := "sough/soughlaw12.AlarmOrder", spec := "alarmOrder", unfollowed := true, recurses := true, apart := false, narrowed := true }
def AlarmOrderUptoSaid : Prop := alarmOrderUptoRow.holds Try.pinned (OpenSpec.upto alarmOrderSpec)

/-- 'soughlaw12.AlarmTimes', WHERE WHAT IT READS IS OF BULK AT MOST 1048576: true; the input reads as it did. -/
def alarmTimesUptoRow : OpenClaim := { program := "ytjdeejbpkdgohaa", sum := "0751f8b75cfb653b2f95b1f6b23798b0a73e3a2bfda88ec27b7c3665555e6ab3", func := "sough/soughlaw12.AlarmTimes", spec := "alarmTimes", unfollowed := true, recurses := true, apart := false, narrowed := true }
def AlarmTimesUptoSaid : Prop := alarmTimesUptoRow.holds Try.pinned (OpenSpec.upto alarmTimesSpec)

/-- 'soughlaw12.AlarmRoom', WHERE WHAT IT READS IS OF BULK AT MOST 1048576: true; the input reads as it did. -/
def alarmRoomUptoRow : OpenClaim := { program := "ytjdeejbpkdgohaa", sum := "0751f8b75cfb653b2f95b1f6b23798b0a73e3a2bfda88ec27b7c3665555e6ab3", func := "sough/soughlaw12.AlarmRoom", spec := "alarmRoom", unfollowed := true, recurses := true, apart := false, narrowed := true }
def AlarmRoomUptoSaid : Prop := alarmRoomUptoRow.holds Try.pinned (OpenSpec.upto alarmRoomSpec)

/-- 'soughlaw12.AlarmFirst', WHERE WHAT IT READS IS OF BULK AT MOST 1048576: true; the input reads as it did. -/
def alarmFirstUptoRow : OpenClaim := { program := "ytjdeejbpkdgohaa", sum := "0751f8b75cfb653b2f95b1f6b23798b0a73e3a2bfda88ec27b7c3665555e6ab3", func := "sough/soughlaw12.AlarmFirst", spec := "alarmFirst", unfollowed := true, recurses := true, apart := false, narrowed := true }
def AlarmFirstUptoSaid : Prop := alarmFirstUptoRow.holds Try.pinned (OpenSpec.upto alarmFirstSpec)

/-- 'soughlaw12.AlarmMoves', WHERE WHAT IT READS IS OF BULK AT MOST 1048576: true; the input reads as it did. -/
def alarmMovesUptoRow : OpenClaim := { program := "ytjdeejbpkdgohaa", sum := "0751f8b75cfb653b2f95b1f6b23798b0a73e3a2bfda88ec27b7c3665555e6ab3", func := "sough/soughlaw12.AlarmMoves", spec := "alarmMoves", unfollowed := true, recurses := true, apart := false, narrowed := true }
def AlarmMovesUptoSaid : Prop := alarmMovesUptoRow.holds Try.pinned (OpenSpec.upto alarmMovesSpec)

end Rows
end Go.Proofs.Ytjdeejbpkdgohaa
