/-
  DERIVED. GIVEN WITH THE SEED: THE CARDS: each row of YtehcdhelbkjaeaaGreatDoorRows.lean that lists a variable, with what it lists TIED to the program's text (the seventh form; the later family's looks); each row that meets fmt, with fmt's text TOLD by the authors' own Lean function (tested against real Go, not proved from fmt's source: count such statements apart). THE CARD IS WHAT COUNTS. Prove the row's statement (the work); the ties are given (YtehcdhelbkjaeaaGreatDoorTie.lean); close each card by the builder's one call (the guide's Derived/Test/ToyasCard.lean, 'card_holds'). Laid BY PROGRAM, IN A SANDBOX (cutbox-door.mjs). By AI agents, Wed Nov 11 2026. No macro, syntax, notation, axiom, sorry.
-/
import Derived.Test.YtehcdhelbkjaeaaGreatDoorRows
import GoSem.ClaimSeven
namespace Go.Proofs.YtehcdhelbkjaeaaGreatDoor
namespace Rows

/-- THE TIED CARD OF 'laws.FnExactParseProof'. -/
def fnExactParseProofCard : Claim7 := { stood := { row := fnExactParseProofRow, standIns := [], harness := (true, "c91a9f534b9627a934c4a76f82bd6cc1ffdca8196dafe8aad27b54dc00fb5894"), looks := true }, kinds := [], alts := [], laidByText := true, laidKinds := [.data, .data, .data, .sentinel, .sentinel], laidTests := true, laidLooks := .later }
def FnExactParseProofCardSaid : Prop := Claim7.holds Tryz.pinned (.plain (OpenSpec.ofChange fnExactParseProofSpec)) fnExactParseProofCard

/-- THE SECOND FORM's CARD OF 'laws.FnExactParseProof'. -/
def fnExactParseProofUptoCard : Claim7 := { stood := { row := fnExactParseProofUptoRow, standIns := [], harness := (true, "c91a9f534b9627a934c4a76f82bd6cc1ffdca8196dafe8aad27b54dc00fb5894"), looks := true }, kinds := [], alts := [], laidByText := true, laidKinds := [.data, .data, .data, .sentinel, .sentinel], laidTests := true, laidLooks := .later }
def FnExactParseProofUptoCardSaid : Prop := Claim7.holds Tryz.pinned (.plain (OpenSpec.upto fnExactParseProofSpec)) fnExactParseProofUptoCard
end Rows
end Go.Proofs.YtehcdhelbkjaeaaGreatDoor
