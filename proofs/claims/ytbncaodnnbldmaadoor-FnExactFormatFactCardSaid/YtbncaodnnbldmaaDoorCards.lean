/-
  DERIVED. GIVEN WITH THE SEED: THE CARDS: each row of YtbncaodnnbldmaaDoorRows.lean that lists a variable, with what it lists TIED to the program's text (the seventh form; the later family's looks); each row that meets fmt, with fmt's text TOLD by the authors' own Lean function (tested against real Go, not proved from fmt's source: count such statements apart). THE CARD IS WHAT COUNTS. Prove the row's statement (the work); the ties are given (YtbncaodnnbldmaaDoorTie.lean); close each card by the builder's one call (the guide's Derived/Test/ToyasCard.lean, 'card_holds'). Laid BY PROGRAM, IN A SANDBOX (cutbox-door.mjs). By AI agents, Wed Nov 11 2026. No macro, syntax, notation, axiom, sorry.
-/
import Derived.Test.YtbncaodnnbldmaaDoorRows
import GoSem.ClaimSeven
namespace Go.Proofs.YtbncaodnnbldmaaDoor
namespace Rows

/-- THE TIED CARD OF 'laws.FnExactFormatGoal'. -/
def fnExactFormatGoalCard : Claim7 := { stood := { row := fnExactFormatGoalRow, standIns := [], harness := (true, "e1b7c2b95adf8228e54b37a53a59ca956b70b789df667049efb16b3f35288f76"), looks := false }, kinds := [], alts := [], laidByText := true, laidKinds := [.data, .data, .data], laidTests := true, laidLooks := .later }
def FnExactFormatGoalCardSaid : Prop := Claim7.holds Tryd.pinned (.plain (OpenSpec.ofChange fnExactFormatGoalSpec)) fnExactFormatGoalCard

/-- THE TIED CARD OF 'laws.FnExactFormatFact'. -/
def fnExactFormatFactCard : Claim7 := { stood := { row := fnExactFormatFactRow, standIns := [], harness := (true, "e1b7c2b95adf8228e54b37a53a59ca956b70b789df667049efb16b3f35288f76"), looks := false }, kinds := [], alts := [], laidByText := true, laidKinds := [.data, .data, .data], laidTests := true, laidLooks := .later }
def FnExactFormatFactCardSaid : Prop := Claim7.holds Tryd.pinned (.plain (OpenSpec.ofChange fnExactFormatFactSpec)) fnExactFormatFactCard

/-- THE SECOND FORM's CARD OF 'laws.FnExactFormatGoal'. -/
def fnExactFormatGoalUptoCard : Claim7 := { stood := { row := fnExactFormatGoalUptoRow, standIns := [], harness := (true, "e1b7c2b95adf8228e54b37a53a59ca956b70b789df667049efb16b3f35288f76"), looks := false }, kinds := [], alts := [], laidByText := true, laidKinds := [.data, .data, .data], laidTests := true, laidLooks := .later }
def FnExactFormatGoalUptoCardSaid : Prop := Claim7.holds Tryd.pinned (.plain (OpenSpec.upto fnExactFormatGoalSpec)) fnExactFormatGoalUptoCard

/-- THE SECOND FORM's CARD OF 'laws.FnExactFormatFact'. -/
def fnExactFormatFactUptoCard : Claim7 := { stood := { row := fnExactFormatFactUptoRow, standIns := [], harness := (true, "e1b7c2b95adf8228e54b37a53a59ca956b70b789df667049efb16b3f35288f76"), looks := false }, kinds := [], alts := [], laidByText := true, laidKinds := [.data, .data, .data], laidTests := true, laidLooks := .later }
def FnExactFormatFactUptoCardSaid : Prop := Claim7.holds Tryd.pinned (.plain (OpenSpec.upto fnExactFormatFactSpec)) fnExactFormatFactUptoCard
end Rows
end Go.Proofs.YtbncaodnnbldmaaDoor
