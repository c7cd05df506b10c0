/-
  NARROWER THAN 'FOR EVERY INPUT', by the rows' own cells (each row's printed sentence says how): FnExactProofSize: loops · FnExactProofHeight: loops · FnExactCompareFacts: loops · FnExactCallsOf: loops · FnExactStreamSize: loops.
  DERIVED. THE GIVEN ROWS OF THIS SEAT. 6 by the template 'for every input the law returns true; each argument reads behind the call as it read before'; 0 by the template 'total and deterministic' (their statements: YtiihkdmmanaooaaTotals.lean).
  GIVEN WITH THE SEED: the statements are not yours to turn. If you find one false, say at which input.
  Laid BY PROGRAM, IN A SANDBOX (cutbox-rows.mjs): the forced cells as the released guide's own fill.sh prints them over the translation bead4fc3caf4cd6c… (all of the seat's roots in one cut). By AI agents, Wed Nov 11 2026. No macro, syntax, notation, axiom, sorry.
-/
import Derived.Test.YtiihkdmmanaooaaChecked
import GoSem.Claim
import GoSem.ClaimJoined
import GoSem.ClaimMapViews
import Derived.JoinedTies
import Derived.KernelRfl
namespace Go.Proofs.Ytiihkdmmanaooaa
/- THE CELL 'sum', in the pinned program and in every row, IS THE sha256 OF THE DUMP (.gsa) THAT YtiihkdmmanaooaaProg.lean LOADS. Nothing in Lean hashes anything: it is a label: what it is worth is what the hold of that sum in a sandbox is worth. -/
noncomputable def Try.pinned : Pinned := { name := "ytiihkdmmanaooaa", sum := "bead4fc3caf4cd6c0368afd057678b76e01f26a3ead81b3d8d021f57438c98d6", checked := Try.checked }
namespace Rows
def none {H : Type} : Left H := { results := [], args := [] }

/-- 'laws.FnExactLibraryText': WHATEVER THE INPUT: true; the input reads as it did. -/
def fnExactLibraryTextSpec : ChangeSpec := { name := "fnExactLibraryText", fn := fun _ => fun
  | [d] => { results := [.lit (.bool true)], args := [d] }
  | _ => none }
def fnExactLibraryTextRow : OpenClaim := { program := "ytiihkdmmanaooaa", sum := "bead4fc3caf4cd6c0368afd057678b76e01f26a3ead81b3d8d021f57438c98d6", func := "loop.example/g03210/laws.FnExactLibraryText", spec := "fnExactLibraryText", apart := false }
def FnExactLibraryTextSaid : Prop := fnExactLibraryTextRow.holds Try.pinned (OpenSpec.ofChange fnExactLibraryTextSpec)

/-- ITS FALSE NEIGHBOUR: 'it returns false'. Refute it at one input. -/
def fnExactLibraryTextWrong : ChangeSpec := { name := "fnExactLibraryText", fn := fun _ => fun
  | [d] => { results := [.lit (.bool false)], args := [d] }
  | _ => none }
def FnExactLibraryTextWrongFalsely : Prop := fnExactLibraryTextRow.holds Try.pinned (OpenSpec.ofChange fnExactLibraryTextWrong)

/-- 'laws.FnExactProofSize': WHATEVER THE INPUT: true; the input reads as it did. -/
def fnExactProofSizeSpec : ChangeSpec := { name := "fnExactProofSize", fn := fun _ => fun
  | [d] => { results := [.lit (.bool true)], args := [d] }
  | _ => none }
def fnExactProofSizeRow : OpenClaim := { program := "ytiihkdmmanaooaa", sum := "bead4fc3caf4cd6c0368afd057678b76e01f26a3ead81b3d8d021f57438c98d6", func := "loop.example/g03210/laws.FnExactProofSize", spec := "fnExactProofSize", recurses := true, loops := true, apart := false }
def FnExactProofSizeSaid : Prop := fnExactProofSizeRow.holds Try.pinned (OpenSpec.ofChange fnExactProofSizeSpec)

/-- ITS FALSE NEIGHBOUR: 'it returns false'. Refute it at one input. -/
def fnExactProofSizeWrong : ChangeSpec := { name := "fnExactProofSize", fn := fun _ => fun
  | [d] => { results := [.lit (.bool false)], args := [d] }
  | _ => none }
def FnExactProofSizeWrongFalsely : Prop := fnExactProofSizeRow.holds Try.pinned (OpenSpec.ofChange fnExactProofSizeWrong)

/-- 'laws.FnExactProofHeight': WHATEVER THE INPUT: true; the input reads as it did. -/
def fnExactProofHeightSpec : ChangeSpec := { name := "fnExactProofHeight", fn := fun _ => fun
  | [d] => { results := [.lit (.bool true)], args := [d] }
  | _ => none }
def fnExactProofHeightRow : OpenClaim := { program := "ytiihkdmmanaooaa", sum := "bead4fc3caf4cd6c0368afd057678b76e01f26a3ead81b3d8d021f57438c98d6", func := "loop.example/g03210/laws.FnExactProofHeight", spec := "fnExactProofHeight", recurses := true, loops := true, apart := false }
def FnExactProofHeightSaid : Prop := fnExactProofHeightRow.holds Try.pinned (OpenSpec.ofChange fnExactProofHeightSpec)

/-- ITS FALSE NEIGHBOUR: 'it returns false'. Refute it at one input. -/
def fnExactProofHeightWrong : ChangeSpec := { name := "fnExactProofHeight", fn := fun _ => fun
  | [d] => { results := [.lit (.bool false)], args := [d] }
  | _ => none }
def FnExactProofHeightWrongFalsely : Prop := fnExactProofHeightRow.holds Try.pinned (OpenSpec.ofChange fnExactProofHeightWrong)

/-- 'laws.FnExactCompareFacts': WHATEVER THE INPUT: true; the input reads as it did. -/
def fnExactCompareFactsSpec : ChangeSpec := { name := "fnExactCompareFacts", fn := fun _ => fun
  | [d1, d2] => { results := [.lit (.bool true)], args := [d1, d2] }
  | _ => none }
def fnExactCompareFactsRow : OpenClaim := { program := "ytiihkdmmanaooaa", sum := "bead4fc3caf4cd6c0368afd057678b76e01f26a3ead81b3d8d021f57438c98d6", func := "loop.example/g03210/laws.FnExactCompareFacts", spec := "fnExactCompareFacts", recurses := true, loops := true, apart := false }
def FnExactCompareFactsSaid : Prop := fnExactCompareFactsRow.holds Try.pinned (OpenSpec.ofChange fnExactCompareFactsSpec)

/-- ITS FALSE NEIGHBOUR: 'it returns false'. Refute it at one input. -/
def fnExactCompareFactsWrong : ChangeSpec := { name := "fnExactCompareFacts", fn := fun _ => fun
  | [d1, d2] => { results := [.lit (.bool false)], args := [d1, d2] }
  | _ => none }
def FnExactCompareFactsWrongFalsely : Prop := fnExactCompareFactsRow.holds Try.pinned (OpenSpec.ofChange fnExactCompareFactsWrong)

/-- 'laws.FnExactCallsOf': WHATEVER THE INPUT: true; the input reads as it did. -/
def fnExactCallsOfSpec : ChangeSpec := { name := "fnExactCallsOf", fn := fun _ => fun
  | [d1, d2] => { results := [.lit (.bool true)], args := [d1, d2] }
  | _ => none }
def fnExactCallsOfRow : OpenClaim := { program := "ytiihkdmmanaooaa", sum := "bead4fc3caf4cd6c0368afd057678b76e01f26a3ead81b3d8d021f57438c98d6", func := "loop.example/g03210/laws.FnExactCallsOf", spec := "fnExactCallsOf", recurses := true, loops := true, apart := false }
def FnExactCallsOfSaid : Prop := fnExactCallsOfRow.holds Try.pinned (OpenSpec.ofChange fnExactCallsOfSpec)

/-- ITS FALSE NEIGHBOUR: 'it returns false'. Refute it at one input. -/
def fnExactCallsOfWrong : ChangeSpec := { name := "fnExactCallsOf", fn := fun _ => fun
  | [d1, d2] => { results := [.lit (.bool false)], args := [d1, d2] }
  | _ => none }
def FnExactCallsOfWrongFalsely : Prop := fnExactCallsOfRow.holds Try.pinned (OpenSpec.ofChange fnExactCallsOfWrong)

/-- 'laws.FnExactStreamSize': WHATEVER THE INPUT: true; the input reads as it did. -/
def fnExactStreamSizeSpec : ChangeSpec := { name := "fnExactStreamSize", fn := fun _ => fun
  | [d] => { results := [.lit (.bool true)], args := [d] }
  | _ => none }
def fnExactStreamSizeRow : OpenClaim := { program := "ytiihkdmmanaooaa", sum := "bead4fc3caf4cd6c0368afd057678b76e01f26a3ead81b3d8d021f57438c98d6", func := "loop.example/g03210/laws.FnExactStreamSize", spec := "fnExactStreamSize", recurses := true, loops := true, apart := false }
def FnExactStreamSizeSaid : Prop := fnExactStreamSizeRow.holds Try.pinned (OpenSpec.ofChange fnExactStreamSizeSpec)

/-- ITS FALSE NEIGHBOUR: 'it returns false'. Refute it at one input. -/
def fnExactStreamSizeWrong : ChangeSpec := { name := "fnExactStreamSize", fn := fun _ => fun
  | [d] => { results := [.lit (.bool false)], args := [d] }
  | _ => none }
def FnExactStreamSizeWrongFalsely : Prop := fnExactStreamSizeRow.holds Try.pinned (OpenSpec.ofChange fnExactStreamSizeWrong)

/- THE SECOND FORM. 'bulk': how many values and letters a reading holds, each counted each time it is reached (what is shared counts as often as it is met; a slice's spare places count too). A statement '..UptoSaid' is the law's where the arguments, and the package variables that the reading takes, are together of bulk at most 1048576: NARROWER than '..Said'. Prove '..Said' where nothing that the law and all that it calls make is longer than what came in: it says more and counts as full. Else prove '..UptoSaid'. A law counts once. -/
mutual
def uptoBulk {H : Type} : DataW H → Nat
  | .lit (.string bytes) => bytes.length + 1
  | .lit _ => 1
  | .nil => 1
  | .ptr d => uptoBulk d + 1
  | .slice elems spare => uptoBulkAll elems + uptoBulkAll spare + 1
  | .agg parts => uptoBulkAll parts + 1
  | .iface _ d => uptoBulk d + 1
  | .map entries => uptoBulkEntries entries + 1
  | .held _ => 1
def uptoBulkAll {H : Type} : List (DataW H) → Nat
  | [] => 0
  | d :: r => uptoBulk d + uptoBulkAll r
def uptoBulkEntries {H : Type} : List (Lit × DataW H) → Nat
  | [] => 0
  | x :: r => uptoBulkEntry x + uptoBulkEntries r
def uptoBulkEntry {H : Type} : Lit × DataW H → Nat
  | (.string bytes, d) => bytes.length + uptoBulk d + 1
  | (_, d) => uptoBulk d + 1
 end
def uptoSmall : (H : Type) → List (DataW H) → Bool := fun _ ds => decide (uptoBulkAll ds ≤ 1048576)
def OpenSpec.upto (s : _root_.Go.ChangeSpec) : _root_.Go.OpenSpec := { _root_.Go.OpenSpec.ofChange s with cond := some uptoSmall }

/-- 'laws.FnExactLibraryText', WHERE WHAT IT READS IS OF BULK AT MOST 1048576: true; the input reads as it did. -/
def fnExactLibraryTextUptoRow : OpenClaim := { program := "ytiihkdmmanaooaa", sum := "bead4fc3caf4cd6c0368afd057678b76e01f26a3ead81b3d8d021f57438c98d6", func := "loop.example/g03210/laws.FnExactLibraryText", spec := "fnExactLibraryText", apart := false, narrowed := true }
def FnExactLibraryTextUptoSaid : Prop := fnExactLibraryTextUptoRow.holds Try.pinned (OpenSpec.upto fnExactLibraryTextSpec)

/-- 'laws.FnExactProofSize', WHERE WHAT IT READS IS OF BULK AT MOST 1048576: true; the input reads as it did. -/
def fnExactProofSizeUptoRow : OpenClaim := { program := "ytiihkdmmanaooaa", sum := "bead4fc3caf4cd6c0368afd057678b76e01f26a3ead81b3d8d021f57438c98d6", func := "loop.example/g03210/laws.FnExactProofSize", spec := "fnExactProofSize", recurses := true, loops := true, apart := false, narrowed := true }
def FnExactProofSizeUptoSaid : Prop := fnExactProofSizeUptoRow.holds Try.pinned (OpenSpec.upto fnExactProofSizeSpec)

/-- 'laws.FnExactProofHeight', WHERE WHAT IT READS IS OF BULK AT MOST 1048576: true; the input reads as it did. -/
def fnExactProofHeightUptoRow : OpenClaim := { program := "ytiihkdmmanaooaa", sum := "bead4fc3caf4cd6c0368afd057678b76e01f26a3ead81b3d8d021f57438c98d6", func := "loop.example/g03210/laws.FnExactProofHeight", spec := "fnExactProofHeight", recurses := true, loops := true, apart := false, narrowed := true }
def FnExactProofHeightUptoSaid : Prop := fnExactProofHeightUptoRow.holds Try.pinned (OpenSpec.upto fnExactProofHeightSpec)

/-- 'laws.FnExactCompareFacts', WHERE WHAT IT READS IS OF BULK AT MOST 1048576: true; the input reads as it did. -/
def fnExactCompareFactsUptoRow : OpenClaim := { program := "ytiihkdmmanaooaa", sum := "bead4fc3caf4cd6c0368afd057678b76e01f26a3ead81b3d8d021f57438c98d6", func := "loop.example/g03210/laws.FnExactCompareFacts", spec := "fnExactCompareFacts", recurses := true, loops := true, apart := false, narrowed := true }
def FnExactCompareFactsUptoSaid : Prop := fnExactCompareFactsUptoRow.holds Try.pinned (OpenSpec.upto fnExactCompareFactsSpec)

/-- 'laws.FnExactCallsOf', WHERE WHAT IT READS IS OF BULK AT MOST 1048576: true; the input reads as it did. -/
def fnExactCallsOfUptoRow : OpenClaim := { program := "ytiihkdmmanaooaa", sum := "bead4fc3caf4cd6c0368afd057678b76e01f26a3ead81b3d8d021f57438c98d6", func := "loop.example/g03210/laws.FnExactCallsOf", spec := "fnExactCallsOf", recurses := true, loops := true, apart := false, narrowed := true }
def FnExactCallsOfUptoSaid : Prop := fnExactCallsOfUptoRow.holds Try.pinned (OpenSpec.upto fnExactCallsOfSpec)

/-- 'laws.FnExactStreamSize', WHERE WHAT IT READS IS OF BULK AT MOST 1048576: true; the input reads as it did. -/
def fnExactStreamSizeUptoRow : OpenClaim := { program := "ytiihkdmmanaooaa", sum := "bead4fc3caf4cd6c0368afd057678b76e01f26a3ead81b3d8d021f57438c98d6", func := "loop.example/g03210/laws.FnExactStreamSize", spec := "fnExactStreamSize", recurses := true, loops := true, apart := false, narrowed := true }
def FnExactStreamSizeUptoSaid : Prop := fnExactStreamSizeUptoRow.holds Try.pinned (OpenSpec.upto fnExactStreamSizeSpec)

end Rows
end Go.Proofs.Ytiihkdmmanaooaa
