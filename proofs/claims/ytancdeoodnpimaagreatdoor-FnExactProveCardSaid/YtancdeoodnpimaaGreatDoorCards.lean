/-
  DERIVED. GIVEN WITH THE SEED: THE CARDS: each row of YtancdeoodnpimaaGreatDoorRows.lean that lists a variable, with what it lists TIED to the program's text (the seventh form; the later family's looks); each row that meets fmt, with fmt's text TOLD by the authors' own Lean function (tested against real Go, not proved from fmt's source: count such statements apart). THE CARD IS WHAT COUNTS. Prove the row's statement (the work); the ties are given (YtancdeoodnpimaaGreatDoorTie.lean); close each card by the builder's one call (the guide's Derived/Test/ToyasCard.lean, 'card_holds'). Laid BY PROGRAM, IN A SANDBOX (cutbox-door.mjs). By AI agents, Wed Nov 11 2026. No macro, syntax, notation, axiom, sorry.
-/
import Derived.Test.YtancdeoodnpimaaGreatDoorRows
import GoSem.ClaimSeven
namespace Go.Proofs.YtancdeoodnpimaaGreatDoor
namespace Rows

/-- THE TIED CARD OF 'laws.FnExactProve'. -/
def fnExactProveCard : Claim7 := { stood := { row := fnExactProveRow, standIns := [], harness := (true, "a1b0f604f6a09afcc7c161f07f27b071fb5f33c5abd7012c4af6d6f1fa9e1e54"), looks := false }, kinds := [], alts := [], laidByText := true, laidKinds := [.data, .data, .data], laidTests := true, laidLooks := .later }
def FnExactProveCardSaid : Prop := Claim7.holds Tryz.pinned (.plain (OpenSpec.ofChange fnExactProveSpec)) fnExactProveCard

/-- THE SECOND FORM's CARD OF 'laws.FnExactProve'. -/
def fnExactProveUptoCard : Claim7 := { stood := { row := fnExactProveUptoRow, standIns := [], harness := (true, "a1b0f604f6a09afcc7c161f07f27b071fb5f33c5abd7012c4af6d6f1fa9e1e54"), looks := false }, kinds := [], alts := [], laidByText := true, laidKinds := [.data, .data, .data], laidTests := true, laidLooks := .later }
def FnExactProveUptoCardSaid : Prop := Claim7.holds Tryz.pinned (.plain (OpenSpec.upto fnExactProveSpec)) fnExactProveUptoCard
end Rows
end Go.Proofs.YtancdeoodnpimaaGreatDoor
