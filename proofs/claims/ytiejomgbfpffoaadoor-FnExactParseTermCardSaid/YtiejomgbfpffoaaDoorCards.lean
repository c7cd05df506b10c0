/-
  DERIVED. GIVEN WITH THE SEED: THE CARDS: each row of YtiejomgbfpffoaaDoorRows.lean that lists a variable, with what it lists TIED to the program's text (the seventh form; the later family's looks); each row that meets fmt, with fmt's text TOLD by the authors' own Lean function (tested against real Go, not proved from fmt's source: count such statements apart). THE CARD IS WHAT COUNTS. Prove the row's statement (the work); the ties are given (YtiejomgbfpffoaaDoorTie.lean); close each card by the builder's one call (the guide's Derived/Test/ToyasCard.lean, 'card_holds'). Laid BY PROGRAM, IN A SANDBOX (cutbox-door.mjs). By AI agents, Wed Nov 11 2026. No macro, syntax, notation, axiom, sorry.
-/
import Derived.Test.YtiejomgbfpffoaaDoorRows
import GoSem.ClaimSeven
namespace Go.Proofs.YtiejomgbfpffoaaDoor
namespace Rows

/-- THE TIED CARD OF 'laws.FnExactParseTerms'. -/
def fnExactParseTermsCard : Claim7 := { stood := { row := fnExactParseTermsRow, standIns := [], harness := (true, "fc48b9fb6c46001ba29d4aee549e5e83b66fa40fcc3edc676ff1d50e46e4bb67"), looks := true }, kinds := [], alts := [], laidByText := true, laidKinds := [.data, .data, .data, .sentinel, .sentinel], laidTests := true, laidLooks := .later }
def FnExactParseTermsCardSaid : Prop := Claim7.holds Tryd.pinned (.plain (OpenSpec.ofChange fnExactParseTermsSpec)) fnExactParseTermsCard

/-- THE TIED CARD OF 'laws.FnExactParseTerm'. -/
def fnExactParseTermCard : Claim7 := { stood := { row := fnExactParseTermRow, standIns := [], harness := (true, "fc48b9fb6c46001ba29d4aee549e5e83b66fa40fcc3edc676ff1d50e46e4bb67"), looks := true }, kinds := [], alts := [], laidByText := true, laidKinds := [.data, .data, .data, .sentinel, .sentinel], laidTests := true, laidLooks := .later }
def FnExactParseTermCardSaid : Prop := Claim7.holds Tryd.pinned (.plain (OpenSpec.ofChange fnExactParseTermSpec)) fnExactParseTermCard

/-- THE TIED CARD OF 'laws.FnExactParseSubst'. -/
def fnExactParseSubstCard : Claim7 := { stood := { row := fnExactParseSubstRow, standIns := [], harness := (true, "fc48b9fb6c46001ba29d4aee549e5e83b66fa40fcc3edc676ff1d50e46e4bb67"), looks := true }, kinds := [], alts := [], laidByText := true, laidKinds := [.data, .data, .data, .sentinel, .sentinel], laidTests := true, laidLooks := .later }
def FnExactParseSubstCardSaid : Prop := Claim7.holds Tryd.pinned (.plain (OpenSpec.ofChange fnExactParseSubstSpec)) fnExactParseSubstCard

/-- THE SECOND FORM's CARD OF 'laws.FnExactParseTerms'. -/
def fnExactParseTermsUptoCard : Claim7 := { stood := { row := fnExactParseTermsUptoRow, standIns := [], harness := (true, "fc48b9fb6c46001ba29d4aee549e5e83b66fa40fcc3edc676ff1d50e46e4bb67"), looks := true }, kinds := [], alts := [], laidByText := true, laidKinds := [.data, .data, .data, .sentinel, .sentinel], laidTests := true, laidLooks := .later }
def FnExactParseTermsUptoCardSaid : Prop := Claim7.holds Tryd.pinned (.plain (OpenSpec.upto fnExactParseTermsSpec)) fnExactParseTermsUptoCard

/-- THE SECOND FORM's CARD OF 'laws.FnExactParseTerm'. -/
def fnExactParseTermUptoCard : Claim7 := { stood := { row := fnExactParseTermUptoRow, standIns := [], harness := (true, "fc48b9fb6c46001ba29d4aee549e5e83b66fa40fcc3edc676ff1d50e46e4bb67"), looks := true }, kinds := [], alts := [], laidByText := true, laidKinds := [.data, .data, .data, .sentinel, .sentinel], laidTests := true, laidLooks := .later }
def FnExactParseTermUptoCardSaid : Prop := Claim7.holds Tryd.pinned (.plain (OpenSpec.upto fnExactParseTermSpec)) fnExactParseTermUptoCard

/-- THE SECOND FORM's CARD OF 'laws.FnExactParseSubst'. -/
def fnExactParseSubstUptoCard : Claim7 := { stood := { row := fnExactParseSubstUptoRow, standIns := [], harness := (true, "fc48b9fb6c46001ba29d4aee549e5e83b66fa40fcc3edc676ff1d50e46e4bb67"), looks := true }, kinds := [], alts := [], laidByText := true, laidKinds := [.data, .data, .data, .sentinel, .sentinel], laidTests := true, laidLooks := .later }
def FnExactParseSubstUptoCardSaid : Prop := Claim7.holds Tryd.pinned (.plain (OpenSpec.upto fnExactParseSubstSpec)) fnExactParseSubstUptoCard
end Rows
end Go.Proofs.YtiejomgbfpffoaaDoor
