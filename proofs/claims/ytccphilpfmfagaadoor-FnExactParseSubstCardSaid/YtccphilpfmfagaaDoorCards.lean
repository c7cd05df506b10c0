/-
  DERIVED. GIVEN WITH THE SEED: THE CARDS: each row of YtccphilpfmfagaaDoorRows.lean that lists a variable, with what it lists TIED to the program's text (the seventh form; the later family's looks); each row that meets fmt, with fmt's text TOLD by the authors' own Lean function (tested against real Go, not proved from fmt's source: count such statements apart). THE CARD IS WHAT COUNTS. Prove the row's statement (the work); the ties are given (YtccphilpfmfagaaDoorTie.lean); close each card by the builder's one call (the guide's Derived/Test/ToyasCard.lean, 'card_holds'). Laid BY PROGRAM, IN A SANDBOX (cutbox-door.mjs). By AI agents, Wed Nov 11 2026. No macro, syntax, notation, axiom, sorry.
-/
import Derived.Test.YtccphilpfmfagaaDoorRows
import GoSem.ClaimSeven
namespace Go.Proofs.YtccphilpfmfagaaDoor
namespace Rows

/-- THE TIED CARD OF 'laws.FnTermText'. -/
def fnTermTextCard : Claim7 := { stood := { row := fnTermTextRow, standIns := [], harness := (true, "f55d0d54970b1828e758d1994518bc0f52a912ba4499100a86f741d623e8ef06"), looks := true }, kinds := [], alts := [], laidByText := true, laidKinds := [.data, .data, .data, .sentinel, .sentinel], laidTests := true, laidLooks := .later }
def FnTermTextCardSaid : Prop := Claim7.holds Tryd.pinned (.plain (OpenSpec.ofChange fnTermTextSpec)) fnTermTextCard

/-- THE TIED CARD OF 'laws.FnExactParseTerm'. -/
def fnExactParseTermCard : Claim7 := { stood := { row := fnExactParseTermRow, standIns := [], harness := (true, "f55d0d54970b1828e758d1994518bc0f52a912ba4499100a86f741d623e8ef06"), looks := true }, kinds := [], alts := [], laidByText := true, laidKinds := [.data, .data, .data, .sentinel, .sentinel], laidTests := true, laidLooks := .later }
def FnExactParseTermCardSaid : Prop := Claim7.holds Tryd.pinned (.plain (OpenSpec.ofChange fnExactParseTermSpec)) fnExactParseTermCard

/-- THE TIED CARD OF 'laws.FnExactParseSubst'. -/
def fnExactParseSubstCard : Claim7 := { stood := { row := fnExactParseSubstRow, standIns := [], harness := (true, "f55d0d54970b1828e758d1994518bc0f52a912ba4499100a86f741d623e8ef06"), looks := true }, kinds := [], alts := [], laidByText := true, laidKinds := [.data, .data, .data, .sentinel, .sentinel], laidTests := true, laidLooks := .later }
def FnExactParseSubstCardSaid : Prop := Claim7.holds Tryd.pinned (.plain (OpenSpec.ofChange fnExactParseSubstSpec)) fnExactParseSubstCard

/-- THE SECOND FORM's CARD OF 'laws.FnTermText'. -/
def fnTermTextUptoCard : Claim7 := { stood := { row := fnTermTextUptoRow, standIns := [], harness := (true, "f55d0d54970b1828e758d1994518bc0f52a912ba4499100a86f741d623e8ef06"), looks := true }, kinds := [], alts := [], laidByText := true, laidKinds := [.data, .data, .data, .sentinel, .sentinel], laidTests := true, laidLooks := .later }
def FnTermTextUptoCardSaid : Prop := Claim7.holds Tryd.pinned (.plain (OpenSpec.upto fnTermTextSpec)) fnTermTextUptoCard

/-- THE SECOND FORM's CARD OF 'laws.FnExactParseTerm'. -/
def fnExactParseTermUptoCard : Claim7 := { stood := { row := fnExactParseTermUptoRow, standIns := [], harness := (true, "f55d0d54970b1828e758d1994518bc0f52a912ba4499100a86f741d623e8ef06"), looks := true }, kinds := [], alts := [], laidByText := true, laidKinds := [.data, .data, .data, .sentinel, .sentinel], laidTests := true, laidLooks := .later }
def FnExactParseTermUptoCardSaid : Prop := Claim7.holds Tryd.pinned (.plain (OpenSpec.upto fnExactParseTermSpec)) fnExactParseTermUptoCard

/-- THE SECOND FORM's CARD OF 'laws.FnExactParseSubst'. -/
def fnExactParseSubstUptoCard : Claim7 := { stood := { row := fnExactParseSubstUptoRow, standIns := [], harness := (true, "f55d0d54970b1828e758d1994518bc0f52a912ba4499100a86f741d623e8ef06"), looks := true }, kinds := [], alts := [], laidByText := true, laidKinds := [.data, .data, .data, .sentinel, .sentinel], laidTests := true, laidLooks := .later }
def FnExactParseSubstUptoCardSaid : Prop := Claim7.holds Tryd.pinned (.plain (OpenSpec.upto fnExactParseSubstSpec)) fnExactParseSubstUptoCard
end Rows
end Go.Proofs.YtccphilpfmfagaaDoor
