/-
  DERIVED. GIVEN WITH THE SEED: THE CARDS: each row of YtadggjnohohedaaGreatDoorRows.lean that lists a variable, with what it lists TIED to the program's text (the seventh form; the later family's looks); each row that meets fmt, with fmt's text TOLD by the authors' own Lean function (tested against real Go, not proved from fmt's source: count such statements apart). THE CARD IS WHAT COUNTS. Prove the row's statement (the work); the ties are given (YtadggjnohohedaaGreatDoorTie.lean); close each card by the builder's one call (the guide's Derived/Test/ToyasCard.lean, 'card_holds'). Laid BY PROGRAM, IN A SANDBOX (cutbox-door.mjs). By AI agents, Wed Nov 11 2026. No macro, syntax, notation, axiom, sorry.
-/
import Derived.Test.YtadggjnohohedaaGreatDoorRows
import GoSem.ClaimSeven
namespace Go.Proofs.YtadggjnohohedaaGreatDoor
namespace Rows

/-- THE TIED CARD OF 'soughtop.TopTampers'. -/
def topTampersCard : Claim7 := { stood := { row := topTampersRow, standIns := [], harness := (true, "1289edd236f927cd685937b9019a994d797e30e42a5e82994a0384da59966773"), looks := true }, kinds := [], alts := [], laidByText := true, laidKinds := [.data, .data, .data, .data], laidTests := true, laidLooks := .later }
def TopTampersCardSaid : Prop := Claim7.holds Tryz.pinned (.plain (OpenSpec.ofChange topTampersSpec)) topTampersCard

/-- THE TIED CARD OF 'soughtop.TopAlone'. -/
def topAloneCard : Claim7 := { stood := { row := topAloneRow, standIns := [], harness := (true, "1289edd236f927cd685937b9019a994d797e30e42a5e82994a0384da59966773"), looks := true }, kinds := [], alts := [], laidByText := true, laidKinds := [.data, .data, .data, .data], laidTests := true, laidLooks := .later }
def TopAloneCardSaid : Prop := Claim7.holds Tryz.pinned (.plain (OpenSpec.ofChange topAloneSpec)) topAloneCard

/-- THE SECOND FORM's CARD OF 'soughtop.TopTampers'. -/
def topTampersUptoCard : Claim7 := { stood := { row := topTampersUptoRow, standIns := [], harness := (true, "1289edd236f927cd685937b9019a994d797e30e42a5e82994a0384da59966773"), looks := true }, kinds := [], alts := [], laidByText := true, laidKinds := [.data, .data, .data, .data], laidTests := true, laidLooks := .later }
def TopTampersUptoCardSaid : Prop := Claim7.holds Tryz.pinned (.plain (OpenSpec.upto topTampersSpec)) topTampersUptoCard

/-- THE SECOND FORM's CARD OF 'soughtop.TopAlone'. -/
def topAloneUptoCard : Claim7 := { stood := { row := topAloneUptoRow, standIns := [], harness := (true, "1289edd236f927cd685937b9019a994d797e30e42a5e82994a0384da59966773"), looks := true }, kinds := [], alts := [], laidByText := true, laidKinds := [.data, .data, .data, .data], laidTests := true, laidLooks := .later }
def TopAloneUptoCardSaid : Prop := Claim7.holds Tryz.pinned (.plain (OpenSpec.upto topAloneSpec)) topAloneUptoCard
end Rows
end Go.Proofs.YtadggjnohohedaaGreatDoor
