/-
  DERIVED. GIVEN WITH THE SEED: THE CARDS: each row of YtehgpkadkdekmaaGreatDoorRows.lean that lists a variable, with what it lists TIED to the program's text (the seventh form; the later family's looks); each row that meets fmt, with fmt's text TOLD by the authors' own Lean function (tested against real Go, not proved from fmt's source: count such statements apart). THE CARD IS WHAT COUNTS. Prove the row's statement (the work); the ties are given (YtehgpkadkdekmaaGreatDoorTie.lean); close each card by the builder's one call (the guide's Derived/Test/ToyasCard.lean, 'card_holds'). Laid BY PROGRAM, IN A SANDBOX (cutbox-door.mjs). By AI agents, Wed Nov 11 2026. No macro, syntax, notation, axiom, sorry.
-/
import Derived.Test.YtehgpkadkdekmaaGreatDoorRows
import GoSem.ClaimSeven
namespace Go.Proofs.YtehgpkadkdekmaaGreatDoor
namespace Rows

/-- THE TIED CARD OF 'laws.FnProofs'. -/
def fnProofsCard : Claim7 := { stood := { row := fnProofsRow, standIns := [], harness := (true, "17695b0ab7e5b6908e43c3163a7752b8b008fb635ca7ef8620902c053c7151b3"), looks := false }, kinds := [], alts := [], laidByText := true, laidKinds := [.data, .data, .data], laidTests := true, laidLooks := .later }
def FnProofsCardSaid : Prop := Claim7.holds Tryz.pinned (.plain (OpenSpec.ofChange fnProofsSpec)) fnProofsCard

/-- THE SECOND FORM's CARD OF 'laws.FnProofs'. -/
def fnProofsUptoCard : Claim7 := { stood := { row := fnProofsUptoRow, standIns := [], harness := (true, "17695b0ab7e5b6908e43c3163a7752b8b008fb635ca7ef8620902c053c7151b3"), looks := false }, kinds := [], alts := [], laidByText := true, laidKinds := [.data, .data, .data], laidTests := true, laidLooks := .later }
def FnProofsUptoCardSaid : Prop := Claim7.holds Tryz.pinned (.plain (OpenSpec.upto fnProofsSpec)) fnProofsUptoCard
end Rows
end Go.Proofs.YtehgpkadkdekmaaGreatDoor
