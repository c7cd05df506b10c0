/-
  NARROWER THAN 'FOR EVERY INPUT', by the rows' own cells (each row's printed sentence says how): FnExactIsModel: loops · FnExactFactHeight: loops · FnExactConsequences: loops · FnExactLeastModel: loops · FnExactStageFacts: loops.
  DERIVED. THE GIVEN ROWS OF THIS SEAT. 5 by the template 'for every input the law returns true; each argument reads behind the call as it read before'; 0 by the template 'total and deterministic' (their statements: YtockpdkdnlkkfaaGreatTotals.lean).
  GIVEN WITH THE SEED: the statements are not yours to turn. If you find one false, say at which input.
  Laid BY PROGRAM, IN A SANDBOX (cutbox-rows.mjs): the forced cells as the released guide's own fill.sh prints them over the translation decb90c611141618… (all of the seat's roots in one cut). By AI agents, Wed Nov 11 2026. No macro, syntax, notation, axiom, sorry.
-/
import Derived.Test.YtockpdkdnlkkfaaGreatChecked
import GoSem.Claim
import GoSem.ClaimJoined
import GoSem.ClaimMapViews
import Derived.JoinedTies
import Derived.KernelRfl
namespace Go.Proofs.YtockpdkdnlkkfaaGreat
/- THE CELL 'sum', in the pinned program and in every row, IS THE sha256 OF THE DUMP (.gsa) THAT YtockpdkdnlkkfaaGreatProg.lean LOADS. Nothing in Lean hashes anything: it is a label: what it is worth is what the hold of that sum in a sandbox is worth. -/
noncomputable def Tryz.pinned : Pinned := { name := "ytockpdkdnlkkfaagreat", sum := "decb90c611141618f111f1d146a0373152442ff0ee542c3d3a20dd9bbc16c540", checked := Tryz.checked }
namespace Rows
def none {H : Type} : Left H := { results := [], args := [] }

/-- 'laws.FnExactIsModel': WHATEVER THE INPUT: true; the input reads as it did. -/
def fnExactIsModelSpec : ChangeSpec := { name := "fnExactIsModel", fn := fun _ => fun
  | [d1, d2, d3] => { results := [.lit (.bool true)], args := [d1, d2, d3] }
  | _ => none }
def fnExactIsModelRow : OpenClaim := { program := "ytockpdkdnlkkfaagreat", sum := "decb90c611141618f111f1d146a0373152442ff0ee542c3d3a20dd9bbc16c540", func := "loop.example/g03210/laws.FnExactIsModel", spec := "fnExactIsModel", inPlace := ["internal/reflectlite.ValueOf", "internal/reflectlite.Swapper", "(internal/reflectlite.Value).Len"], unfollowed := true, recurses := true, loops := true, apart := false }
def FnExactIsModelSaid : Prop := fnExactIsModelRow.holds Tryz.pinned (OpenSpec.ofChange fnExactIsModelSpec)

/-- ITS FALSE NEIGHBOUR: 'it returns false'. Refute it at one input. -/
def fnExactIsModelWrong : ChangeSpec := { name := "fnExactIsModel", fn := fun _ => fun
  | [d1, d2, d3] => { results := [.lit (.bool false)], args := [d1, d2, d3] }
  | _ => none }
def FnExactIsModelWrongFalsely : Prop := fnExactIsModelRow.holds Tryz.pinned (OpenSpec.ofChange fnExactIsModelWrong)

/-- 'laws.FnExactFactHeight': WHATEVER THE INPUT: true; the input reads as it did. -/
def fnExactFactHeightSpec : ChangeSpec := { name := "fnExactFactHeight", fn := fun _ => fun
  | [d1, d2, d3] => { results := [.lit (.bool true)], args := [d1, d2, d3] }
  | _ => none }
def fnExactFactHeightRow : OpenClaim := { program := "ytockpdkdnlkkfaagreat", sum := "decb90c611141618f111f1d146a0373152442ff0ee542c3d3a20dd9bbc16c540", func := "loop.example/g03210/laws.FnExactFactHeight", spec := "fnExactFactHeight", inPlace := ["internal/reflectlite.ValueOf", "internal/reflectlite.Swapper", "(internal/reflectlite.Value).Len"], unfollowed := true, recurses := true, loops := true, apart := false }
def FnExactFactHeightSaid : Prop := fnExactFactHeightRow.holds Tryz.pinned (OpenSpec.ofChange fnExactFactHeightSpec)

/-- ITS FALSE NEIGHBOUR: 'it returns false'. Refute it at one input. -/
def fnExactFactHeightWrong : ChangeSpec := { name := "fnExactFactHeight", fn := fun _ => fun
  | [d1, d2, d3] => { results := [.lit (.bool false)], args := [d1, d2, d3] }
  | _ => none }
def FnExactFactHeightWrongFalsely : Prop := fnExactFactHeightRow.holds Tryz.pinned (OpenSpec.ofChange fnExactFactHeightWrong)

/-- 'laws.FnExactConsequences': WHATEVER THE INPUT: true; the input reads as it did. -/
def fnExactConsequencesSpec : ChangeSpec := { name := "fnExactConsequences", fn := fun _ => fun
  | [d1, d2, d3] => { results := [.lit (.bool true)], args := [d1, d2, d3] }
  | _ => none }
def fnExactConsequencesRow : OpenClaim := { program := "ytockpdkdnlkkfaagreat", sum := "decb90c611141618f111f1d146a0373152442ff0ee542c3d3a20dd9bbc16c540", func := "loop.example/g03210/laws.FnExactConsequences", spec := "fnExactConsequences", inPlace := ["internal/reflectlite.ValueOf", "internal/reflectlite.Swapper", "(internal/reflectlite.Value).Len"], unfollowed := true, recurses := true, loops := true, apart := false }
def FnExactConsequencesSaid : Prop := fnExactConsequencesRow.holds Tryz.pinned (OpenSpec.ofChange fnExactConsequencesSpec)

/-- ITS FALSE NEIGHBOUR: 'it returns false'. Refute it at one input. -/
def fnExactConsequencesWrong : ChangeSpec := { name := "fnExactConsequences", fn := fun _ => fun
  | [d1, d2, d3] => { results := [.lit (.bool false)], args := [d1, d2, d3] }
  | _ => none }
def FnExactConsequencesWrongFalsely : Prop := fnExactConsequencesRow.holds Tryz.pinned (OpenSpec.ofChange fnExactConsequencesWrong)

/-- 'laws.FnExactLeastModel': WHATEVER THE INPUT: true; the input reads as it did. -/
def fnExactLeastModelSpec : ChangeSpec := { name := "fnExactLeastModel", fn := fun _ => fun
  | [d1, d2] => { results := [.lit (.bool true)], args := [d1, d2] }
  | _ => none }
def fnExactLeastModelRow : OpenClaim := { program := "ytockpdkdnlkkfaagreat", sum := "decb90c611141618f111f1d146a0373152442ff0ee542c3d3a20dd9bbc16c540", func := "loop.example/g03210/laws.FnExactLeastModel", spec := "fnExactLeastModel", inPlace := ["internal/reflectlite.ValueOf", "internal/reflectlite.Swapper", "(internal/reflectlite.Value).Len"], unfollowed := true, recurses := true, loops := true, apart := false }
def FnExactLeastModelSaid : Prop := fnExactLeastModelRow.holds Tryz.pinned (OpenSpec.ofChange fnExactLeastModelSpec)

/-- ITS FALSE NEIGHBOUR: 'it returns false'. Refute it at one input. -/
def fnExactLeastModelWrong : ChangeSpec := { name := "fnExactLeastModel", fn := fun _ => fun
  | [d1, d2] => { results := [.lit (.bool false)], args := [d1, d2] }
  | _ => none }
def FnExactLeastModelWrongFalsely : Prop := fnExactLeastModelRow.holds Tryz.pinned (OpenSpec.ofChange fnExactLeastModelWrong)

/-- 'laws.FnExactStageFacts': WHATEVER THE INPUT: true; the input reads as it did. -/
def fnExactStageFactsSpec : ChangeSpec := { name := "fnExactStageFacts", fn := fun _ => fun
  | [d1, d2, d3] => { results := [.lit (.bool true)], args := [d1, d2, d3] }
  | _ => none }
def fnExactStageFactsRow : OpenClaim := { program := "ytockpdkdnlkkfaagreat", sum := "decb90c611141618f111f1d146a0373152442ff0ee542c3d3a20dd9bbc16c540", func := "loop.example/g03210/laws.FnExactStageFacts", spec := "fnExactStageFacts", inPlace := ["internal/reflectlite.ValueOf", "internal/reflectlite.Swapper", "(internal/reflectlite.Value).Len"], unfollowed := true, recurses := true, loops := true, apart := false }
def FnExactStageFactsSaid : Prop := fnExactStageFactsRow.holds Tryz.pinned (OpenSpec.ofChange fnExactStageFactsSpec)

/-- ITS FALSE NEIGHBOUR: 'it returns false'. Refute it at one input. -/
def fnExactStageFactsWrong : ChangeSpec := { name := "fnExactStageFacts", fn := fun _ => fun
  | [d1, d2, d3] => { results := [.lit (.bool false)], args := [d1, d2, d3] }
  | _ => none }
def FnExactStageFactsWrongFalsely : Prop := fnExactStageFactsRow.holds Tryz.pinned (OpenSpec.ofChange fnExactStageFactsWrong)

/- THE SECOND FORM. 'bulk': how many values and letters a reading holds, each counted each time it is reached (what is shared counts as often as it is met; a slice's spare places count too). A statement '..UptoSaid' is the law's where the arguments, and the package variables that the reading takes, are together of bulk at most 1048576: NARROWER than '..Said'. Prove '..Said' where nothing that the law and all that it calls make is longer than what came in: it says more and counts as full. Else prove '..UptoSaid'. A law counts once. -/
mutual
def uptoBulk {H : Type} : DataW H → Nat
  | .lit (.string bytes) => bytes.length + 1
  | .lit _ => 1
  | .nil => 1
  | .ptr d => uptoBulk d + 1
  | .slice elems spare => uptoBulkAll elems + uptoBulkAll spare + 1
  | .agg parts => uptoBulkAll parts + 1
  | .iface _ d => uptoBulk d + 1
  | .map entries => uptoBulkEntries entries + 1
  | .held _ => 1
def uptoBulkAll {H : Type} : List (DataW H) → Nat
  | [] => 0
  | d :: r => uptoBulk d + uptoBulkAll r
def uptoBulkEntries {H : Type} : List (Lit × DataW H) → Nat
  | [] => 0
  | x :: r => uptoBulkEntry x + uptoBulkEntries r
def uptoBulkEntry {H : Type} : Lit × DataW H → Nat
  | (.string bytes, d) => bytes.length + uptoBulk d + 1
  | (_, d) => uptoBulk d + 1
 end
def uptoSmall : (H : Type) → List (DataW H) → Bool := fun _ ds => decide (uptoBulkAll ds ≤ 1048576)
def OpenSpec.upto (s : _root_.Go.ChangeSpec) : _root_.Go.OpenSpec := { _root_.Go.OpenSpec.ofChange s with cond := some uptoSmall }

/-- 'laws.FnExactIsModel', WHERE WHAT IT READS IS OF BULK AT MOST 1048576: true; the input reads as it did. -/
def fnExactIsModelUptoRow : OpenClaim := { program := "ytockpdkdnlkkfaagreat", sum := "decb90c611141618f111f1d146a0373152442ff0ee542c3d3a20dd9bbc16c540", func := "loop.example/g03210/laws.FnExactIsModel", spec := "fnExactIsModel", inPlace := ["internal/reflectlite.ValueOf", "internal/reflectlite.Swapper", "(internal/reflectlite.Value).Len"], unfollowed := true, recurses := true, loops := true, apart := false, narrowed := true }
def FnExactIsModelUptoSaid : Prop := fnExactIsModelUptoRow.holds Tryz.pinned (OpenSpec.upto fnExactIsModelSpec)

/-- 'laws.FnExactFactHeight', WHERE WHAT IT READS IS OF BULK AT MOST 1048576: true; the input reads as it did. -/
def fnExactFactHeightUptoRow : OpenClaim := { program := "ytockpdkdnlkkfaagreat", sum := "decb90c611141618f111f1d146a0373152442ff0ee542c3d3a20dd9bbc16c540", func := "loop.example/g03210/laws.FnExactFactHeight", spec := "fnExactFactHeight", inPlace := ["internal/reflectlite.ValueOf", "internal/reflectlite.Swapper", "(internal/reflectlite.Value).Len"], unfollowed := true, recurses := true, loops := true, apart := false, narrowed := true }
def FnExactFactHeightUptoSaid : Prop := fnExactFactHeightUptoRow.holds Tryz.pinned (OpenSpec.upto fnExactFactHeightSpec)

/-- 'laws.FnExactConsequences', WHERE WHAT IT READS IS OF BULK AT MOST 1048576: true; the input reads as it did. -/
def fnExactConsequencesUptoRow : OpenClaim := { program := "ytockpdkdnlkkfaagreat", sum := "decb90c611141618f111f1d146a0373152442ff0ee542c3d3a20dd9bbc16c540", func := "loop.example/g03210/laws.FnExactConsequences", spec := "fnExactConsequences", inPlace := ["internal/reflectlite.ValueOf", "internal/reflectlite.Swapper", "(internal/reflectlite.Value).Len"], unfollowed := true, recurses := true, loops := true, apart := false, narrowed := true }
def FnExactConsequencesUptoSaid : Prop := fnExactConsequencesUptoRow.holds Tryz.pinned (OpenSpec.upto fnExactConsequencesSpec)

/-- 'laws.FnExactLeastModel', WHERE WHAT IT READS IS OF BULK AT MOST 1048576: true; the input reads as it did. -/
def fnExactLeastModelUptoRow : OpenClaim := { program := "ytockpdkdnlkkfaagreat", sum := "decb90c611141618f111f1d146a0373152442ff0ee542c3d3a20dd9bbc16c540", func := "loop.example/g03210/laws.FnExactLeastModel", spec := "fnExactLeastModel", inPlace := ["internal/reflectlite.ValueOf", "internal/reflectlite.Swapper", "(internal/reflectlite.Value).Len"], unfollowed := true, recurses := true, loops := true, apart := false, narrowed := true }
def FnExactLeastModelUptoSaid : Prop := fnExactLeastModelUptoRow.holds Tryz.pinned (OpenSpec.upto fnExactLeastModelSpec)

/-- 'laws.FnExactStageFacts', WHERE WHAT IT READS IS OF BULK AT MOST 1048576: true; the input reads as it did. -/
def fnExactStageFactsUptoRow : OpenClaim := { program := "ytockpdkdnlkkfaagreat", sum := "decb90c611141618f111f1d146a0373152442ff0ee542c3d3a20dd9bbc16c540", func := "loop.example/g03210/laws.FnExactStageFacts", spec := "fnExactStageFacts", inPlace := ["internal/reflectlite.ValueOf", "internal/reflectlite.Swapper", "(internal/reflectlite.Value).Len"], unfollowed := true, recurses := true, loops := true, apart := false, narrowed := true }
def FnExactStageFactsUptoSaid : Prop := fnExactStageFactsUptoRow.holds Tryz.pinned (OpenSpec.upto fnExactStageFactsSpec)

end Rows
end Go.Proofs.YtockpdkdnlkkfaaGreat
