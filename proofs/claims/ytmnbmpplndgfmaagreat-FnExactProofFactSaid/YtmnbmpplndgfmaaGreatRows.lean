/-
  NARROWER THAN 'FOR EVERY INPUT', by the rows' own cells (each row's printed sentence says how): FnExactExpandCall: loops · FnExactSliceProgram: loops · FnExactNormalProgram: loops · FnExactProofOk: loops · FnExactAllFacts: loops · FnExactStartStream: loops · FnExactProofFact: loops · FnExactGroundRules: loops · FnExactProofChoices: loops · FnExactProofTerms: loops.
  DERIVED. THE GIVEN ROWS OF THIS SEAT. 10 by the template 'for every input the law returns true; each argument reads behind the call as it read before'; 0 by the template 'total and deterministic' (their statements: YtmnbmpplndgfmaaGreatTotals.lean).
  GIVEN WITH THE SEED: the statements are not yours to turn. If you find one false, say at which input.
  Laid BY PROGRAM, IN A SANDBOX (cutbox-rows.mjs): the forced cells as the released guide's own fill.sh prints them over the translation c9409c7a5802cd2b… (all of the seat's roots in one cut). By AI agents, Wed Nov 11 2026. No macro, syntax, notation, axiom, sorry.
-/
import Derived.Test.YtmnbmpplndgfmaaGreatChecked
import GoSem.Claim
import GoSem.ClaimJoined
import GoSem.ClaimMapViews
import Derived.JoinedTies
import Derived.KernelRfl
namespace Go.Proofs.YtmnbmpplndgfmaaGreat
/- THE CELL 'sum', in the pinned program and in every row, IS THE sha256 OF THE DUMP (.gsa) THAT YtmnbmpplndgfmaaGreatProg.lean LOADS. Nothing in Lean hashes anything: it is a label: what it is worth is what the hold of that sum in a sandbox is worth. -/
noncomputable def Tryz.pinned : Pinned := { name := "ytmnbmpplndgfmaagreat", sum := "c9409c7a5802cd2ba290550cf86f2f15fa3bc48078e51b34be44d2cf59110415", checked := Tryz.checked }
namespace Rows
def none {H : Type} : Left H := { results := [], args := [] }

/-- 'laws.FnExactExpandCall': WHATEVER THE INPUT: true; the input reads as it did. -/
def fnExactExpandCallSpec : ChangeSpec := { name := "fnExactExpandCall", fn := fun _ => fun
  | [d1, d2, d3, d4] => { results := [.lit (.bool true)], args := [d1, d2, d3, d4] }
  | _ => none }
def fnExactExpandCallRow : OpenClaim := { program := "ytmnbmpplndgfmaagreat", sum := "c9409c7a5802cd2ba290550cf86f2f15fa3bc48078e51b34be44d2cf59110415", func := "loop.example/g03210/laws.FnExactExpandCall", spec := "fnExactExpandCall", unfollowed := true, recurses := true, loops := true, apart := false }
def FnExactExpandCallSaid : Prop := fnExactExpandCallRow.holds Tryz.pinned (OpenSpec.ofChange fnExactExpandCallSpec)

/-- ITS FALSE NEIGHBOUR: 'it returns false'. Refute it at one input. -/
def fnExactExpandCallWrong : ChangeSpec := { name := "fnExactExpandCall", fn := fun _ => fun
  | [d1, d2, d3, d4] => { results := [.lit (.bool false)], args := [d1, d2, d3, d4] }
  | _ => none }
def FnExactExpandCallWrongFalsely : Prop := fnExactExpandCallRow.holds Tryz.pinned (OpenSpec.ofChange fnExactExpandCallWrong)

/-- 'laws.FnExactSliceProgram': WHATEVER THE INPUT: true; the input reads as it did. -/
def fnExactSliceProgramSpec : ChangeSpec := { name := "fnExactSliceProgram", fn := fun _ => fun
  | [d1, d2] => { results := [.lit (.bool true)], args := [d1, d2] }
  | _ => none }
def fnExactSliceProgramRow : OpenClaim := { program := "ytmnbmpplndgfmaagreat", sum := "c9409c7a5802cd2ba290550cf86f2f15fa3bc48078e51b34be44d2cf59110415", func := "loop.example/g03210/laws.FnExactSliceProgram", spec := "fnExactSliceProgram", unfollowed := true, recurses := true, loops := true, apart := false }
def FnExactSliceProgramSaid : Prop := fnExactSliceProgramRow.holds Tryz.pinned (OpenSpec.ofChange fnExactSliceProgramSpec)

/-- ITS FALSE NEIGHBOUR: 'it returns false'. Refute it at one input. -/
def fnExactSliceProgramWrong : ChangeSpec := { name := "fnExactSliceProgram", fn := fun _ => fun
  | [d1, d2] => { results := [.lit (.bool false)], args := [d1, d2] }
  | _ => none }
def FnExactSliceProgramWrongFalsely : Prop := fnExactSliceProgramRow.holds Tryz.pinned (OpenSpec.ofChange fnExactSliceProgramWrong)

/-- 'laws.FnExactNormalProgram': WHATEVER THE INPUT: true; the input reads as it did. -/
def fnExactNormalProgramSpec : ChangeSpec := { name := "fnExactNormalProgram", fn := fun _ => fun
  | [d] => { results := [.lit (.bool true)], args := [d] }
  | _ => none }
def fnExactNormalProgramRow : OpenClaim := { program := "ytmnbmpplndgfmaagreat", sum := "c9409c7a5802cd2ba290550cf86f2f15fa3bc48078e51b34be44d2cf59110415", func := "loop.example/g03210/laws.FnExactNormalProgram", spec := "fnExactNormalProgram", unfollowed := true, recurses := true, loops := true, apart := false }
def FnExactNormalProgramSaid : Prop := fnExactNormalProgramRow.holds Tryz.pinned (OpenSpec.ofChange fnExactNormalProgramSpec)

/-- ITS FALSE NEIGHBOUR: 'it returns false'. Refute it at one input. -/
def fnExactNormalProgramWrong : ChangeSpec := { name := "fnExactNormalProgram", fn := fun _ => fun
  | [d] => { results := [.lit (.bool false)], args := [d] }
  | _ => none }
def FnExactNormalProgramWrongFalsely : Prop := fnExactNormalProgramRow.holds Tryz.pinned (OpenSpec.ofChange fnExactNormalProgramWrong)

/-- 'laws.FnExactProofOk': WHATEVER THE INPUT: true; the input reads as it did. -/
def fnExactProofOkSpec : ChangeSpec := { name := "fnExactProofOk", fn := fun _ => fun
  | [d1, d2] => { results := [.lit (.bool true)], args := [d1, d2] }
  | _ => none }
def fnExactProofOkRow : OpenClaim := { program := "ytmnbmpplndgfmaagreat", sum := "c9409c7a5802cd2ba290550cf86f2f15fa3bc48078e51b34be44d2cf59110415", func := "loop.example/g03210/laws.FnExactProofOk", spec := "fnExactProofOk", unfollowed := true, recurses := true, loops := true, apart := false }
def FnExactProofOkSaid : Prop := fnExactProofOkRow.holds Tryz.pinned (OpenSpec.ofChange fnExactProofOkSpec)

/-- ITS FALSE NEIGHBOUR: 'it returns false'. Refute it at one input. -/
def fnExactProofOkWrong : ChangeSpec := { name := "fnExactProofOk", fn := fun _ => fun
  | [d1, d2] => { results := [.lit (.bool false)], args := [d1, d2] }
  | _ => none }
def FnExactProofOkWrongFalsely : Prop := fnExactProofOkRow.holds Tryz.pinned (OpenSpec.ofChange fnExactProofOkWrong)

/-- 'laws.FnExactAllFacts': WHATEVER THE INPUT: true; the input reads as it did. -/
def fnExactAllFactsSpec : ChangeSpec := { name := "fnExactAllFacts", fn := fun _ => fun
  | [d1, d2] => { results := [.lit (.bool true)], args := [d1, d2] }
  | _ => none }
def fnExactAllFactsRow : OpenClaim := { program := "ytmnbmpplndgfmaagreat", sum := "c9409c7a5802cd2ba290550cf86f2f15fa3bc48078e51b34be44d2cf59110415", func := "loop.example/g03210/laws.FnExactAllFacts", spec := "fnExactAllFacts", inPlace := ["internal/reflectlite.ValueOf", "internal/reflectlite.Swapper", "(internal/reflectlite.Value).Len"], unfollowed := true, recurses := true, loops := true, apart := false }
def FnExactAllFactsSaid : Prop := fnExactAllFactsRow.holds Tryz.pinned (OpenSpec.ofChange fnExactAllFactsSpec)

/-- ITS FALSE NEIGHBOUR: 'it returns false'. Refute it at one input. -/
def fnExactAllFactsWrong : ChangeSpec := { name := "fnExactAllFacts", fn := fun _ => fun
  | [d1, d2] => { results := [.lit (.bool false)], args := [d1, d2] }
  | _ => none }
def FnExactAllFactsWrongFalsely : Prop := fnExactAllFactsRow.holds Tryz.pinned (OpenSpec.ofChange fnExactAllFactsWrong)

/-- 'laws.FnExactStartStream': WHATEVER THE INPUT: true; the input reads as it did. -/
def fnExactStartStreamSpec : ChangeSpec := { name := "fnExactStartStream", fn := fun _ => fun
  | [d1, d2, d3] => { results := [.lit (.bool true)], args := [d1, d2, d3] }
  | _ => none }
def fnExactStartStreamRow : OpenClaim := { program := "ytmnbmpplndgfmaagreat", sum := "c9409c7a5802cd2ba290550cf86f2f15fa3bc48078e51b34be44d2cf59110415", func := "loop.example/g03210/laws.FnExactStartStream", spec := "fnExactStartStream", unfollowed := true, recurses := true, loops := true, apart := false }
def FnExactStartStreamSaid : Prop := fnExactStartStreamRow.holds Tryz.pinned (OpenSpec.ofChange fnExactStartStreamSpec)

/-- ITS FALSE NEIGHBOUR: 'it returns false'. Refute it at one input. -/
def fnExactStartStreamWrong : ChangeSpec := { name := "fnExactStartStream", fn := fun _ => fun
  | [d1, d2, d3] => { results := [.lit (.bool false)], args := [d1, d2, d3] }
  | _ => none }
def FnExactStartStreamWrongFalsely : Prop := fnExactStartStreamRow.holds Tryz.pinned (OpenSpec.ofChange fnExactStartStreamWrong)

/-- 'laws.FnExactProofFact': WHATEVER THE INPUT: true; the input reads as it did. -/
def fnExactProofFactSpec : ChangeSpec := { name := "fnExactProofFact", fn := fun _ => fun
  | [d1, d2] => { results := [.lit (.bool true)], args := [d1, d2] }
  | _ => none }
def fnExactProofFactRow : OpenClaim := { program := "ytmnbmpplndgfmaagreat", sum := "c9409c7a5802cd2ba290550cf86f2f15fa3bc48078e51b34be44d2cf59110415", func := "loop.example/g03210/laws.FnExactProofFact", spec := "fnExactProofFact", unfollowed := true, recurses := true, loops := true, apart := false }
def FnExactProofFactSaid : Prop := fnExactProofFactRow.holds Tryz.pinned (OpenSpec.ofChange fnExactProofFactSpec)

/-- ITS FALSE NEIGHBOUR: 'it returns false'. Refute it at one input. -/
def fnExactProofFactWrong : ChangeSpec := { name := "fnExactProofFact", fn := fun _ => fun
  | [d1, d2] => { results := [.lit (.bool false)], args := [d1, d2] }
  | _ => none }
def FnExactProofFactWrongFalsely : Prop := fnExactProofFactRow.holds Tryz.pinned (OpenSpec.ofChange fnExactProofFactWrong)

/-- 'laws.FnExactGroundRules': WHATEVER THE INPUT: true; the input reads as it did. -/
def fnExactGroundRulesSpec : ChangeSpec := { name := "fnExactGroundRules", fn := fun _ => fun
  | [d1, d2] => { results := [.lit (.bool true)], args := [d1, d2] }
  | _ => none }
def fnExactGroundRulesRow : OpenClaim := { program := "ytmnbmpplndgfmaagreat", sum := "c9409c7a5802cd2ba290550cf86f2f15fa3bc48078e51b34be44d2cf59110415", func := "loop.example/g03210/laws.FnExactGroundRules", spec := "fnExactGroundRules", unfollowed := true, recurses := true, loops := true, apart := false }
def FnExactGroundRulesSaid : Prop := fnExactGroundRulesRow.holds Tryz.pinned (OpenSpec.ofChange fnExactGroundRulesSpec)

/-- ITS FALSE NEIGHBOUR: 'it returns false'. Refute it at one input. -/
def fnExactGroundRulesWrong : ChangeSpec := { name := "fnExactGroundRules", fn := fun _ => fun
  | [d1, d2] => { results := [.lit (.bool false)], args := [d1, d2] }
  | _ => none }
def FnExactGroundRulesWrongFalsely : Prop := fnExactGroundRulesRow.holds Tryz.pinned (OpenSpec.ofChange fnExactGroundRulesWrong)

/-- 'laws.FnExactProofChoices': WHATEVER THE INPUT: true; the input reads as it did. -/
def fnExactProofChoicesSpec : ChangeSpec := { name := "fnExactProofChoices", fn := fun _ => fun
  | [d1, d2] => { results := [.lit (.bool true)], args := [d1, d2] }
  | _ => none }
def fnExactProofChoicesRow : OpenClaim := { program := "ytmnbmpplndgfmaagreat", sum := "c9409c7a5802cd2ba290550cf86f2f15fa3bc48078e51b34be44d2cf59110415", func := "loop.example/g03210/laws.FnExactProofChoices", spec := "fnExactProofChoices", unfollowed := true, recurses := true, loops := true, apart := false }
def FnExactProofChoicesSaid : Prop := fnExactProofChoicesRow.holds Tryz.pinned (OpenSpec.ofChange fnExactProofChoicesSpec)

/-- ITS FALSE NEIGHBOUR: 'it returns false'. Refute it at one input. -/
def fnExactProofChoicesWrong : ChangeSpec := { name := "fnExactProofChoices", fn := fun _ => fun
  | [d1, d2] => { results := [.lit (.bool false)], args := [d1, d2] }
  | _ => none }
def FnExactProofChoicesWrongFalsely : Prop := fnExactProofChoicesRow.holds Tryz.pinned (OpenSpec.ofChange fnExactProofChoicesWrong)

/-- 'laws.FnExactProofTerms': WHATEVER THE INPUT: true; the input reads as it did. -/
def fnExactProofTermsSpec : ChangeSpec := { name := "fnExactProofTerms", fn := fun _ => fun
  | [d1, d2] => { results := [.lit (.bool true)], args := [d1, d2] }
  | _ => none }
def fnExactProofTermsRow : OpenClaim := { program := "ytmnbmpplndgfmaagreat", sum := "c9409c7a5802cd2ba290550cf86f2f15fa3bc48078e51b34be44d2cf59110415", func := "loop.example/g03210/laws.FnExactProofTerms", spec := "fnExactProofTerms", inPlace := ["internal/reflectlite.ValueOf", "internal/reflectlite.Swapper", "(internal/reflectlite.Value).Len"], unfollowed := true, recurses := true, loops := true, apart := false }
def FnExactProofTermsSaid : Prop := fnExactProofTermsRow.holds Tryz.pinned (OpenSpec.ofChange fnExactProofTermsSpec)

/-- ITS FALSE NEIGHBOUR: 'it returns false'. Refute it at one input. -/
def fnExactProofTermsWrong : ChangeSpec := { name := "fnExactProofTerms", fn := fun _ => fun
  | [d1, d2] => { results := [.lit (.bool false)], args := [d1, d2] }
  | _ => none }
def FnExactProofTermsWrongFalsely : Prop := fnExactProofTermsRow.holds Tryz.pinned (OpenSpec.ofChange fnExactProofTermsWrong)

/- THE SECOND FORM. 'bulk': how many values and letters a reading holds, each counted each time it is reached (what is shared counts as often as it is met; a slice's spare places count too). A statement '..UptoSaid' is the law's where the arguments, and the package variables that the reading takes, are together of bulk at most 1048576: NARROWER than '..Said'. Prove '..Said' where nothing that the law and all that it calls make is longer than what came in: it says more and counts as full. Else prove '..UptoSaid'. A law counts once. -/
mutual
def uptoBulk {H : Type} : DataW H → Nat
  | .lit (.string bytes) => bytes.length + 1
  | .lit _ => 1
  | .nil => 1
  | .ptr d => uptoBulk d + 1
  | .slice elems spare => uptoBulkAll elems + uptoBulkAll spare + 1
  | .agg parts => uptoBulkAll parts + 1
  | .iface _ d => uptoBulk d + 1
  | .map entries => uptoBulkEntries entries + 1
  | .held _ => 1
def uptoBulkAll {H : Type} : List (DataW H) → Nat
  | [] => 0
  | d :: r => uptoBulk d + uptoBulkAll r
def uptoBulkEntries {H : Type} : List (Lit × DataW H) → Nat
  | [] => 0
  | x :: r => uptoBulkEntry x + uptoBulkEntries r
def uptoBulkEntry {H : Type} : Lit × DataW H → Nat
  | (.string bytes, d) => bytes.length + uptoBulk d + 1
  | (_, d) => uptoBulk d + 1
 end
def uptoSmall : (H : Type) → List (DataW H) → Bool := fun _ ds => decide (uptoBulkAll ds ≤ 1048576)
def OpenSpec.upto (s : _root_.Go.ChangeSpec) : _root_.Go.OpenSpec := { _root_.Go.OpenSpec.ofChange s with cond := some uptoSmall }

/-- 'laws.FnExactExpandCall', WHERE WHAT IT READS IS OF BULK AT MOST 1048576: true; the input reads as it did. -/
def fnExactExpandCallUptoRow : OpenClaim := { program := "ytmnbmpplndgfmaagreat", sum := "c9409c7a5802cd2ba290550cf86f2f15fa3bc48078e51b34be44d2cf59110415", func := "loop.example/g03210/laws.FnExactExpandCall", spec := "fnExactExpandCall", unfollowed := true, recurses := true, loops := true, apart := false, narrowed := true }
def FnExactExpandCallUptoSaid : Prop := fnExactExpandCallUptoRow.holds Tryz.pinned (OpenSpec.upto fnExactExpandCallSpec)

/-- 'laws.FnExactSliceProgram', WHERE WHAT IT READS IS OF BULK AT MOST 1048576: true; the input reads as it did. -/
def fnExactSliceProgramUptoRow : OpenClaim := { program := "ytmnbmpplndgfmaagreat", sum := "c9409c7a5802cd2ba290550cf86f2f15fa3bc48078e51b34be44d2cf59110415", func := "loop.example/g03210/laws.FnExactSliceProgram", spec := "fnExactSliceProgram", unfollowed := true, recurses := true, loops := true, apart := false, narrowed := true }
def FnExactSliceProgramUptoSaid : Prop := fnExactSliceProgramUptoRow.holds Tryz.pinned (OpenSpec.upto fnExactSliceProgramSpec)

/-- 'laws.FnExactNormalProgram', WHERE WHAT IT READS IS OF BULK AT MOST 1048576: true; the input reads as it did. -/
def fnExactNormalProgramUptoRow : OpenClaim := { program := "ytmnbmpplndgfmaagreat", sum := "c9409c7a5802cd2ba290550cf86f2f15fa3bc48078e51b34be44d2cf59110415", func := "loop.example/g03210/laws.FnExactNormalProgram", spec := "fnExactNormalProgram", unfollowed := true, recurses := true, loops := true, apart := false, narrowed := true }
def FnExactNormalProgramUptoSaid : Prop := fnExactNormalProgramUptoRow.holds Tryz.pinned (OpenSpec.upto fnExactNormalProgramSpec)

/-- 'laws.FnExactProofOk', WHERE WHAT IT READS IS OF BULK AT MOST 1048576: true; the input reads as it did. -/
def fnExactProofOkUptoRow : OpenClaim := { program := "ytmnbmpplndgfmaagreat", sum := "c9409c7a5802cd2ba290550cf86f2f15fa3bc48078e51b34be44d2cf59110415", func := "loop.example/g03210/laws.FnExactProofOk", spec := "fnExactProofOk", unfollowed := true, recurses := true, loops := true, apart := false, narrowed := true }
def FnExactProofOkUptoSaid : Prop := fnExactProofOkUptoRow.holds Tryz.pinned (OpenSpec.upto fnExactProofOkSpec)

/-- 'laws.FnExactAllFacts', WHERE WHAT IT READS IS OF BULK AT MOST 1048576: true; the input reads as it did. -/
def fnExactAllFactsUptoRow : OpenClaim := { program := "ytmnbmpplndgfmaagreat", sum := "c9409c7a5802cd2ba290550cf86f2f15fa3bc48078e51b34be44d2cf59110415", func := "loop.example/g03210/laws.FnExactAllFacts", spec := "fnExactAllFacts", inPlace := ["internal/reflectlite.ValueOf", "internal/reflectlite.Swapper", "(internal/reflectlite.Value).Len"], unfollowed := true, recurses := true, loops := true, apart := false, narrowed := true }
def FnExactAllFactsUptoSaid : Prop := fnExactAllFactsUptoRow.holds Tryz.pinned (OpenSpec.upto fnExactAllFactsSpec)

/-- 'laws.FnExactStartStream', WHERE WHAT IT READS IS OF BULK AT MOST 1048576: true; the input reads as it did. -/
def fnExactStartStreamUptoRow : OpenClaim := { program := "ytmnbmpplndgfmaagreat", sum := "c9409c7a5802cd2ba290550cf86f2f15fa3bc48078e51b34be44d2cf59110415", func := "loop.example/g03210/laws.FnExactStartStream", spec := "fnExactStartStream", unfollowed := true, recurses := true, loops := true, apart := false, narrowed := true }
def FnExactStartStreamUptoSaid : Prop := fnExactStartStreamUptoRow.holds Tryz.pinned (OpenSpec.upto fnExactStartStreamSpec)

/-- 'laws.FnExactProofFact', WHERE WHAT IT READS IS OF BULK AT MOST 1048576: true; the input reads as it did. -/
def fnExactProofFactUptoRow : OpenClaim := { program := "ytmnbmpplndgfmaagreat", sum := "c9409c7a5802cd2ba290550cf86f2f15fa3bc48078e51b34be44d2cf59110415", func := "loop.example/g03210/laws.FnExactProofFact", spec := "fnExactProofFact", unfollowed := true, recurses := true, loops := true, apart := false, narrowed := true }
def FnExactProofFactUptoSaid : Prop := fnExactProofFactUptoRow.holds Tryz.pinned (OpenSpec.upto fnExactProofFactSpec)

/-- 'laws.FnExactGroundRules', WHERE WHAT IT READS IS OF BULK AT MOST 1048576: true; the input reads as it did. -/
def fnExactGroundRulesUptoRow : OpenClaim := { program := "ytmnbmpplndgfmaagreat", sum := "c9409c7a5802cd2ba290550cf86f2f15fa3bc48078e51b34be44d2cf59110415", func := "loop.example/g03210/laws.FnExactGroundRules", spec := "fnExactGroundRules", unfollowed := true, recurses := true, loops := true, apart := false, narrowed := true }
def FnExactGroundRulesUptoSaid : Prop := fnExactGroundRulesUptoRow.holds Tryz.pinned (OpenSpec.upto fnExactGroundRulesSpec)

/-- 'laws.FnExactProofChoices', WHERE WHAT IT READS IS OF BULK AT MOST 1048576: true; the input reads as it did. -/
def fnExactProofChoicesUptoRow : OpenClaim := { program := "ytmnbmpplndgfmaagreat", sum := "c9409c7a5802cd2ba290550cf86f2f15fa3bc48078e51b34be44d2cf59110415", func := "loop.example/g03210/laws.FnExactProofChoices", spec := "fnExactProofChoices", unfollowed := true, recurses := true, loops := true, apart := false, narrowed := true }
def FnExactProofChoicesUptoSaid : Prop := fnExactProofChoicesUptoRow.holds Tryz.pinned (OpenSpec.upto fnExactProofChoicesSpec)

/-- 'laws.FnExactProofTerms', WHERE WHAT IT READS IS OF BULK AT MOST 1048576: true; the input reads as it did. -/
def fnExactProofTermsUptoRow : OpenClaim := { program := "ytmnbmpplndgfmaagreat", sum := "c9409c7a5802cd2ba290550cf86f2f15fa3bc48078e51b34be44d2cf59110415", func := "loop.example/g03210/laws.FnExactProofTerms", spec := "fnExactProofTerms", inPlace := ["internal/reflectlite.ValueOf", "internal/reflectlite.Swapper", "(internal/reflectlite.Value).Len"], unfollowed := true, recurses := true, loops := true, apart := false, narrowed := true }
def FnExactProofTermsUptoSaid : Prop := fnExactProofTermsUptoRow.holds Tryz.pinned (OpenSpec.upto fnExactProofTermsSpec)

end Rows
end Go.Proofs.YtmnbmpplndgfmaaGreat
