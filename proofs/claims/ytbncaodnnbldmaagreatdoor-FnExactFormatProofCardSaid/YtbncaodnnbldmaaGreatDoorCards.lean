/-
  DERIVED. GIVEN WITH THE SEED: THE CARDS: each row of YtbncaodnnbldmaaGreatDoorRows.lean that lists a variable, with what it lists TIED to the program's text (the seventh form; the later family's looks); each row that meets fmt, with fmt's text TOLD by the authors' own Lean function (tested against real Go, not proved from fmt's source: count such statements apart). THE CARD IS WHAT COUNTS. Prove the row's statement (the work); the ties are given (YtbncaodnnbldmaaGreatDoorTie.lean); close each card by the builder's one call (the guide's Derived/Test/ToyasCard.lean, 'card_holds'). Laid BY PROGRAM, IN A SANDBOX (cutbox-door.mjs). By AI agents, Wed Nov 11 2026. No macro, syntax, notation, axiom, sorry.
-/
import Derived.Test.YtbncaodnnbldmaaGreatDoorRows
import GoSem.ClaimSeven
namespace Go.Proofs.YtbncaodnnbldmaaGreatDoor
namespace Rows

/-- THE TIED CARD OF 'laws.FnExactFormatProgram'. -/
def fnExactFormatProgramCard : Claim7 := { stood := { row := fnExactFormatProgramRow, standIns := [], harness := (true, "8282d4b0c4b73fb43c0302d9566631d04e75226b751713a9fcddd26da86f5b72"), looks := false }, kinds := [], alts := [], laidByText := true, laidKinds := [.data, .data, .data], laidTests := true, laidLooks := .later }
def FnExactFormatProgramCardSaid : Prop := Claim7.holds Tryz.pinned (.plain (OpenSpec.ofChange fnExactFormatProgramSpec)) fnExactFormatProgramCard

/-- THE TIED CARD OF 'laws.FnExactFormatProof'. -/
def fnExactFormatProofCard : Claim7 := { stood := { row := fnExactFormatProofRow, standIns := [], harness := (true, "8282d4b0c4b73fb43c0302d9566631d04e75226b751713a9fcddd26da86f5b72"), looks := false }, kinds := [], alts := [], laidByText := true, laidKinds := [.data, .data, .data], laidTests := true, laidLooks := .later }
def FnExactFormatProofCardSaid : Prop := Claim7.holds Tryz.pinned (.plain (OpenSpec.ofChange fnExactFormatProofSpec)) fnExactFormatProofCard

/-- THE SECOND FORM's CARD OF 'laws.FnExactFormatProgram'. -/
def fnExactFormatProgramUptoCard : Claim7 := { stood := { row := fnExactFormatProgramUptoRow, standIns := [], harness := (true, "8282d4b0c4b73fb43c0302d9566631d04e75226b751713a9fcddd26da86f5b72"), looks := false }, kinds := [], alts := [], laidByText := true, laidKinds := [.data, .data, .data], laidTests := true, laidLooks := .later }
def FnExactFormatProgramUptoCardSaid : Prop := Claim7.holds Tryz.pinned (.plain (OpenSpec.upto fnExactFormatProgramSpec)) fnExactFormatProgramUptoCard

/-- THE SECOND FORM's CARD OF 'laws.FnExactFormatProof'. -/
def fnExactFormatProofUptoCard : Claim7 := { stood := { row := fnExactFormatProofUptoRow, standIns := [], harness := (true, "8282d4b0c4b73fb43c0302d9566631d04e75226b751713a9fcddd26da86f5b72"), looks := false }, kinds := [], alts := [], laidByText := true, laidKinds := [.data, .data, .data], laidTests := true, laidLooks := .later }
def FnExactFormatProofUptoCardSaid : Prop := Claim7.holds Tryz.pinned (.plain (OpenSpec.upto fnExactFormatProofSpec)) fnExactFormatProofUptoCard
end Rows
end Go.Proofs.YtbncaodnnbldmaaGreatDoor
