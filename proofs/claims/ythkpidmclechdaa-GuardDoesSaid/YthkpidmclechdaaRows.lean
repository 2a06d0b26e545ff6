/-
  No cell of these rows narrows 'for every input' (looked for: loops, veiled, ifaces, maps, wideKeys, modest, calm, conditions, laid).
  DERIVED. THE GIVEN ROWS OF THIS SEAT. 4 by the template 'for every input the law returns true; each argument reads behind the call as it read before'; 0 by the template 'total and deterministic' (their statements: YthkpidmclechdaaTotals.lean).
  GIVEN WITH THE SEED: the statements are not yours to turn. If you find one false, say at which input.
  Laid BY PROGRAM, IN A SANDBOX (cutbox-rows.mjs): the forced cells as the released guide's own fill.sh prints them over the translation fd7cf611b794a4b5… (all of the seat's roots in one cut). By AI agents, Wed Nov 11 2026. No macro, syntax, notation, axiom, sorry.
-/
import Derived.Test.YthkpidmclechdaaChecked
import GoSem.Claim
import GoSem.ClaimJoined
import GoSem.ClaimMapViews
import Derived.JoinedTies
import Derived.KernelRfl
namespace Go.Proofs.Ythkpidmclechdaa
/- THE CELL 'sum', in the pinned program and in every row, IS THE sha256 OF THE DUMP (.gsa) THAT YthkpidmclechdaaProg.lean LOADS. Nothing in Lean hashes anything: it is a label: what it is worth is what the hold of that sum in a sandbox is worth. -/
noncomputable def Try.pinned : Pinned := { name := "ythkpidmclechdaa", sum := "fd7cf611b794a4b50c144fbb7780e8a63a67425ddab2eef475f0f69e891f5e0b", checked := Try.checked }
namespace Rows
def none {H : Type} : Left H := { results := [], args := [] }

/-- 'soughlaw18.GuardDoes': WHATEVER THE INPUT: true; the input reads as it did. -/
def guardDoesSpec : ChangeSpec := { name := "guardDoes", fn := fun _ => fun
  | [d1, d2, d3] => { results := [.lit (.bool true)], args := [d1, d2, d3] }
  | _ => none }
def guardDoesRow : OpenClaim := { program := "ythkpidmclechdaa", sum := "fd7cf611b794a4b50c144fbb7780e8a63a67425ddab2eef475f0f69e891f5e0b", func := "sough/soughlaw18.GuardDoes", spec := "guardDoes", unfollowed := true, recurses := true, apart := false }
def GuardDoesSaid : Prop := guardDoesRow.holds Try.pinned (OpenSpec.ofChange guardDoesSpec)

/-- ITS FALSE NEIGHBOUR: 'it returns false'. Refute it at one input. -/
def guardDoesWrong : ChangeSpec := { name := "guardDoes", fn := fun _ => fun
  | [d1, d2, d3] => { results := [.lit (.bool false)], args := [d1, d2, d3] }
  | _ => none }
def GuardDoesWrongFalsely : Prop := guardDoesRow.holds Try.pinned (OpenSpec.ofChange guardDoesWrong)

/-- 'soughlaw18.GuardRises': WHATEVER THE INPUT: true; the input reads as it did. -/
def guardRisesSpec : ChangeSpec := { name := "guardRises", fn := fun _ => fun
  | [d1, d2] => { results := [.lit (.bool true)], args := [d1, d2] }
  | _ => none }
def guardRisesRow : OpenClaim := { program := "ythkpidmclechdaa", sum := "fd7cf611b794a4b50c144fbb7780e8a63a67425ddab2eef475f0f69e891f5e0b", func := "sough/soughlaw18.GuardRises", spec := "guardRises", unfollowed := true, recurses := true, apart := false }
def GuardRisesSaid : Prop := guardRisesRow.holds Try.pinned (OpenSpec.ofChange guardRisesSpec)

/-- ITS FALSE NEIGHBOUR: 'it returns false'. Refute it at one input. -/
def guardRisesWrong : ChangeSpec := { name := "guardRises", fn := fun _ => fun
  | [d1, d2] => { results := [.lit (.bool false)], args := [d1, d2] }
  | _ => none }
def GuardRisesWrongFalsely : Prop := guardRisesRow.holds Try.pinned (OpenSpec.ofChange guardRisesWrong)

/-- 'soughlaw18.GuardCan': WHATEVER THE INPUT: true; the input reads as it did. -/
def guardCanSpec : ChangeSpec := { name := "guardCan", fn := fun _ => fun
  | [d1, d2] => { results := [.lit (.bool true)], args := [d1, d2] }
  | _ => none }
def guardCanRow : OpenClaim := { program := "ythkpidmclechdaa", sum := "fd7cf611b794a4b50c144fbb7780e8a63a67425ddab2eef475f0f69e891f5e0b", func := "sough/soughlaw18.GuardCan", spec := "guardCan", unfollowed := true, recurses := true, apart := false }
def GuardCanSaid : Prop := guardCanRow.holds Try.pinned (OpenSpec.ofChange guardCanSpec)

/-- ITS FALSE NEIGHBOUR: 'it returns false'. Refute it at one input. -/
def guardCanWrong : ChangeSpec := { name := "guardCan", fn := fun _ => fun
  | [d1, d2] => { results := [.lit (.bool false)], args := [d1, d2] }
  | _ => none }
def GuardCanWrongFalsely : Prop := guardCanRow.holds Try.pinned (OpenSpec.ofChange guardCanWrong)

/-- 'soughlaw18.GuardPeers': WHATEVER THE INPUT: true; the input reads as it did. -/
def guardPeersSpec : ChangeSpec := { name := "guardPeers", fn := fun _ => fun
  | [d1, d2, d3] => { results := [.lit (.bool true)], args := [d1, d2, d3] }
  | _ => none }
def guardPeersRow : OpenClaim := { program := "ythkpidmclechdaa", sum := "fd7cf611b794a4b50c144fbb7780e8a63a67425ddab2eef475f0f69e891f5e0b", func := "sough/soughlaw18.GuardPeers", spec := "guardPeers", unfollowed := true, recurses := true, apart := false }
def GuardPeersSaid : Prop := guardPeersRow.holds Try.pinned (OpenSpec.ofChange guardPeersSpec)

/-- ITS FALSE NEIGHBOUR: 'it returns false'. Refute it at one input. -/
def guardPeersWrong : ChangeSpec := { name := "guardPeers", fn := fun _ => fun
  | [d1, d2, d3] => { results := [.lit (.bool false)], args := [d1, d2, d3] }
  | _ => none }
def GuardPeersWrongFalsely : Prop := guardPeersRow.holds Try.pinned (OpenSpec.ofChange guardPeersWrong)

/- THE SECOND FORM. 'bulk': how many values and letters a reading holds, each counted each time it is reached (what is shared counts as often as it is met; a slice's spare places count too). A statement '..UptoSaid' is the law's where the arguments, and the package variables that the reading takes, are together of bulk at most 1048576: NARROWER than '..Said'. Prove '..Said' where nothing that the law and all that it calls make is longer than what came in: it says more and counts as full. Else prove '..UptoSaid'. A law counts once. -/
mutual
def uptoBulk {H : Type} : DataW H → Nat
  | .lit (.string bytes) => bytes.length + 1
  | .lit _ => 1
  | .nil => 1
  | .ptr d => uptoBulk d + 1
  | .slice elems spare => uptoBulkAll elems + uptoBulkAll spare + 1
  | .agg parts => uptoBulkAll parts + 1
  | .iface _ d => uptoBulk d + 1
  | .map entries => uptoBulkEntries entries + 1
  | .held _ => 1
def uptoBulkAll {H : Type} : List (DataW H) → Nat
  | [] => 0
  | d :: r => uptoBulk d + uptoBulkAll r
def uptoBulkEntries {H : Type} : List (Lit × DataW H) → Nat
  | [] => 0
  | x :: r => uptoBulkEntry x + uptoBulkEntries r
def uptoBulkEntry {H : Type} : Lit × DataW H → Nat
  | (.string bytes, d) => bytes.length + uptoBulk d + 1
  | (_, d) => uptoBulk d + 1
 end
def uptoSmall : (H : Type) → List (DataW H) → Bool := fun _ ds => decide (uptoBulkAll ds ≤ 1048576)
def OpenSpec.upto (s : _root_.Go.ChangeSpec) : _root_.Go.OpenSpec := { _root_.Go.OpenSpec.ofChange s with cond := some uptoSmall }

/-- 'soughlaw18.GuardDoes', WHERE WHAT IT READS IS OF BULK AT MOST 1048576: true; the input reads as it did. -/
def guardDoesUptoRow : OpenClaim := { program := "ythkpidmclechdaa", sum := "fd7cf611b794a4b50c144fbb7780e8a63a67425ddab2eef475f0f69e891f5e0b", func := "sough/soughlaw18.GuardDoes", spec := "guardDoes", unfollowed := true, recurses := true, apart := false, narrowed := true }
def GuardDoesUptoSaid : Prop := guardDoesUptoRow.holds Try.pinned (OpenSpec.upto guardDoesSpec)

/-- 'soughlaw18.GuardRises', WHERE WHAT IT READS IS OF BULK AT MOST 1048576: true; the input reads as it did. -/
def guardRisesUptoRow : OpenClaim := { program := "ythkpidmclechdaa", sum := "fd7cf611b794a4b50c144fbb7780e8a63a67425ddab2eef475f0f69e891f5e0b", func := "sough/soughlaw18.GuardRises", spec := "guardRises", unfollowed := true, recurses := true, apart := false, narrowed := true }
def GuardRisesUptoSaid : Prop := guardRisesUptoRow.holds Try.pinned (OpenSpec.upto guardRisesSpec)

/-- 'soughlaw18.GuardCan', WHERE WHAT IT READS IS OF BULK AT MOST 1048576: true; the input reads as it did. -/
def guardCanUptoRow : OpenClaim := { program := "ythkpidmclechdaa", sum := "fd7cf611b794a4b50c144fbb7780e8a63a67425ddab2eef475f0f69e891f5e0b", func := "sough/soughlaw18.GuardCan", spec := "guardCan", unfollowed := true, recurses := true, apart := false, narrowed := true }
def GuardCanUptoSaid : Prop := guardCanUptoRow.holds Try.pinned (OpenSpec.upto guardCanSpec)

/-- 'soughlaw18.GuardPeers', WHERE WHAT IT READS IS OF BULK AT MOST 1048576: true; the input reads as it did. -/
def guardPeersUptoRow : OpenClaim := { program := "ythkpidmclechdaa", sum := "fd7cf611b794a4b50c144fbb7780e8a63a67425ddab2eef475f0f69e891f5e0b", func := "sough/soughlaw18.GuardPeers", spec := "guardPeers", unfollowed := true, recurses := true, apart := false, narrowed := true }
def GuardPeersUptoSaid : Prop := guardPeersUptoRow.holds Try.pinned (OpenSpec.upto guardPeersSpec)

end Rows
end Go.Proofs.Ythkpidmclechdaa
