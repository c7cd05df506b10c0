/-
  NARROWER THAN 'FOR EVERY INPUT', by the rows' own cells (each row's printed sentence says how): FnExactCallsOf: loops · FnExactClauseGoal: loops · FnExactClauseIndex: loops · FnExactClauseChoices: loops · FnExactClausesOf: loops · FnExactGoalVars: loops · FnExactStrata: loops · FnExactCalledBy: loops.
  DERIVED. THE GIVEN ROWS OF THIS SEAT. 8 by the template 'for every input the law returns true; each argument reads behind the call as it read before'; 0 by the template 'total and deterministic' (their statements: YtljdpohdfnileaaTotals.lean).
  GIVEN WITH THE SEED: the statements are not yours to turn. If you find one false, say at which input.
  Laid BY PROGRAM, IN A SANDBOX (cutbox-rows.mjs): the forced cells as the released guide's own fill.sh prints them over the translation 3eea451e0e995932… (all of the seat's roots in one cut). By AI agents, Wed Nov 11 2026. No macro, syntax, notation, axiom, sorry.
-/
import Derived.Test.YtljdpohdfnileaaChecked
import GoSem.Claim
import GoSem.ClaimJoined
import GoSem.ClaimMapViews
import Derived.JoinedTies
import Derived.KernelRfl
namespace Go.Proofs.Ytljdpohdfnileaa
/- THE CELL 'sum', in the pinned program and in every row, IS THE sha256 OF THE DUMP (.gsa) THAT YtljdpohdfnileaaProg.lean LOADS. Nothing in Lean hashes anything: it is a label: what it is worth is what the hold of that sum in a sandbox is worth. -/
noncomputable def Try.pinned : Pinned := { name := "ytljdpohdfnileaa", sum := "3eea451e0e9959320ea6e5b0b45253ee271ddd898b3332ea2dcdff66ea05ca1b", checked := Try.checked }
namespace Rows
def none {H : Type} : Left H := { results := [], args := [] }

/-- 'laws.FnExactCallsOf': WHATEVER THE INPUT: true; the input reads as it did. -/
def fnExactCallsOfSpec : ChangeSpec := { name := "fnExactCallsOf", fn := fun _ => fun
  | [d1, d2] => { results := [.lit (.bool true)], args := [d1, d2] }
  | _ => none }
def fnExactCallsOfRow : OpenClaim := { program := "ytljdpohdfnileaa", sum := "3eea451e0e9959320ea6e5b0b45253ee271ddd898b3332ea2dcdff66ea05ca1b", func := "loop.example/g03210/laws.FnExactCallsOf", spec := "fnExactCallsOf", recurses := true, loops := true, apart := false }
def FnExactCallsOfSaid : Prop := fnExactCallsOfRow.holds Try.pinned (OpenSpec.ofChange fnExactCallsOfSpec)

/-- ITS FALSE NEIGHBOUR: 'it returns false'. Refute it at one input. -/
def fnExactCallsOfWrong : ChangeSpec := { name := "fnExactCallsOf", fn := fun _ => fun
  | [d1, d2] => { results := [.lit (.bool false)], args := [d1, d2] }
  | _ => none }
def FnExactCallsOfWrongFalsely : Prop := fnExactCallsOfRow.holds Try.pinned (OpenSpec.ofChange fnExactCallsOfWrong)

/-- 'laws.FnExactClauseGoal': WHATEVER THE INPUT: true; the input reads as it did. -/
def fnExactClauseGoalSpec : ChangeSpec := { name := "fnExactClauseGoal", fn := fun _ => fun
  | [d] => { results := [.lit (.bool true)], args := [d] }
  | _ => none }
def fnExactClauseGoalRow : OpenClaim := { program := "ytljdpohdfnileaa", sum := "3eea451e0e9959320ea6e5b0b45253ee271ddd898b3332ea2dcdff66ea05ca1b", func := "loop.example/g03210/laws.FnExactClauseGoal", spec := "fnExactClauseGoal", recurses := true, loops := true, apart := false }
def FnExactClauseGoalSaid : Prop := fnExactClauseGoalRow.holds Try.pinned (OpenSpec.ofChange fnExactClauseGoalSpec)

/-- ITS FALSE NEIGHBOUR: 'it returns false'. Refute it at one input. -/
def fnExactClauseGoalWrong : ChangeSpec := { name := "fnExactClauseGoal", fn := fun _ => fun
  | [d] => { results := [.lit (.bool false)], args := [d] }
  | _ => none }
def FnExactClauseGoalWrongFalsely : Prop := fnExactClauseGoalRow.holds Try.pinned (OpenSpec.ofChange fnExactClauseGoalWrong)

/-- 'laws.FnExactClauseIndex': WHATEVER THE INPUT: true; the input reads as it did. -/
def fnExactClauseIndexSpec : ChangeSpec := { name := "fnExactClauseIndex", fn := fun _ => fun
  | [d1, d2] => { results := [.lit (.bool true)], args := [d1, d2] }
  | _ => none }
def fnExactClauseIndexRow : OpenClaim := { program := "ytljdpohdfnileaa", sum := "3eea451e0e9959320ea6e5b0b45253ee271ddd898b3332ea2dcdff66ea05ca1b", func := "loop.example/g03210/laws.FnExactClauseIndex", spec := "fnExactClauseIndex", recurses := true, loops := true, apart := false }
def FnExactClauseIndexSaid : Prop := fnExactClauseIndexRow.holds Try.pinned (OpenSpec.ofChange fnExactClauseIndexSpec)

/-- ITS FALSE NEIGHBOUR: 'it returns false'. Refute it at one input. -/
def fnExactClauseIndexWrong : ChangeSpec := { name := "fnExactClauseIndex", fn := fun _ => fun
  | [d1, d2] => { results := [.lit (.bool false)], args := [d1, d2] }
  | _ => none }
def FnExactClauseIndexWrongFalsely : Prop := fnExactClauseIndexRow.holds Try.pinned (OpenSpec.ofChange fnExactClauseIndexWrong)

/-- 'laws.FnExactClauseChoices': WHATEVER THE INPUT: true; the input reads as it did. -/
def fnExactClauseChoicesSpec : ChangeSpec := { name := "fnExactClauseChoices", fn := fun _ => fun
  | [d1, d2] => { results := [.lit (.bool true)], args := [d1, d2] }
  | _ => none }
def fnExactClauseChoicesRow : OpenClaim := { program := "ytljdpohdfnileaa", sum := "3eea451e0e9959320ea6e5b0b45253ee271ddd898b3332ea2dcdff66ea05ca1b", func := "loop.example/g03210/laws.FnExactClauseChoices", spec := "fnExactClauseChoices", recurses := true, loops := true, apart := false }
def FnExactClauseChoicesSaid : Prop := fnExactClauseChoicesRow.holds Try.pinned (OpenSpec.ofChange fnExactClauseChoicesSpec)

/-- ITS FALSE NEIGHBOUR: 'it returns false'. Refute it at one input. -/
def fnExactClauseChoicesWrong : ChangeSpec := { name := "fnExactClauseChoices", fn := fun _ => fun
  | [d1, d2] => { results := [.lit (.bool false)], args := [d1, d2] }
  | _ => none }
def FnExactClauseChoicesWrongFalsely : Prop := fnExactClauseChoicesRow.holds Try.pinned (OpenSpec.ofChange fnExactClauseChoicesWrong)

/-- 'laws.FnExactClausesOf': WHATEVER THE INPUT: true; the input reads as it did. -/
def fnExactClausesOfSpec : ChangeSpec := { name := "fnExactClausesOf", fn := fun _ => fun
  | [d] => { results := [.lit (.bool true)], args := [d] }
  | _ => none }
def fnExactClausesOfRow : OpenClaim := { program := "ytljdpohdfnileaa", sum := "3eea451e0e9959320ea6e5b0b45253ee271ddd898b3332ea2dcdff66ea05ca1b", func := "loop.example/g03210/laws.FnExactClausesOf", spec := "fnExactClausesOf", recurses := true, loops := true, apart := false }
def FnExactClausesOfSaid : Prop := fnExactClausesOfRow.holds Try.pinned (OpenSpec.ofChange fnExactClausesOfSpec)

/-- ITS FALSE NEIGHBOUR: 'it returns false'. Refute it at one input. -/
def fnExactClausesOfWrong : ChangeSpec := { name := "fnExactClausesOf", fn := fun _ => fun
  | [d] => { results := [.lit (.bool false)], args := [d] }
  | _ => none }
def FnExactClausesOfWrongFalsely : Prop := fnExactClausesOfRow.holds Try.pinned (OpenSpec.ofChange fnExactClausesOfWrong)

/-- 'laws.FnExactGoalVars': WHATEVER THE INPUT: true; the input reads as it did. -/
def fnExactGoalVarsSpec : ChangeSpec := { name := "fnExactGoalVars", fn := fun _ => fun
  | [d] => { results := [.lit (.bool true)], args := [d] }
  | _ => none }
def fnExactGoalVarsRow : OpenClaim := { program := "ytljdpohdfnileaa", sum := "3eea451e0e9959320ea6e5b0b45253ee271ddd898b3332ea2dcdff66ea05ca1b", func := "loop.example/g03210/laws.FnExactGoalVars", spec := "fnExactGoalVars", unfollowed := true, recurses := true, loops := true, apart := false }
def FnExactGoalVarsSaid : Prop := fnExactGoalVarsRow.holds Try.pinned (OpenSpec.ofChange fnExactGoalVarsSpec)

/-- ITS FALSE NEIGHBOUR: 'it returns false'. Refute it at one input. -/
def fnExactGoalVarsWrong : ChangeSpec := { name := "fnExactGoalVars", fn := fun _ => fun
  | [d] => { results := [.lit (.bool false)], args := [d] }
  | _ => none }
def FnExactGoalVarsWrongFalsely : Prop := fnExactGoalVarsRow.holds Try.pinned (OpenSpec.ofChange fnExactGoalVarsWrong)

/-- 'laws.FnExactStrata': WHATEVER THE INPUT: true; the input reads as it did. -/
def fnExactStrataSpec : ChangeSpec := { name := "fnExactStrata", fn := fun _ => fun
  | [d] => { results := [.lit (.bool true)], args := [d] }
  | _ => none }
def fnExactStrataRow : OpenClaim := { program := "ytljdpohdfnileaa", sum := "3eea451e0e9959320ea6e5b0b45253ee271ddd898b3332ea2dcdff66ea05ca1b", func := "loop.example/g03210/laws.FnExactStrata", spec := "fnExactStrata", unfollowed := true, recurses := true, loops := true, apart := false }
def FnExactStrataSaid : Prop := fnExactStrataRow.holds Try.pinned (OpenSpec.ofChange fnExactStrataSpec)

/-- ITS FALSE NEIGHBOUR: 'it returns false'. Refute it at one input. -/
def fnExactStrataWrong : ChangeSpec := { name := "fnExactStrata", fn := fun _ => fun
  | [d] => { results := [.lit (.bool false)], args := [d] }
  | _ => none }
def FnExactStrataWrongFalsely : Prop := fnExactStrataRow.holds Try.pinned (OpenSpec.ofChange fnExactStrataWrong)

/-- 'laws.FnExactCalledBy': WHATEVER THE INPUT: true; the input reads as it did. -/
def fnExactCalledBySpec : ChangeSpec := { name := "fnExactCalledBy", fn := fun _ => fun
  | [d] => { results := [.lit (.bool true)], args := [d] }
  | _ => none }
def fnExactCalledByRow : OpenClaim := { program := "ytljdpohdfnileaa", sum := "3eea451e0e9959320ea6e5b0b45253ee271ddd898b3332ea2dcdff66ea05ca1b", func := "loop.example/g03210/laws.FnExactCalledBy", spec := "fnExactCalledBy", unfollowed := true, recurses := true, loops := true, apart := false }
def FnExactCalledBySaid : Prop := fnExactCalledByRow.holds Try.pinned (OpenSpec.ofChange fnExactCalledBySpec)

/-- ITS FALSE NEIGHBOUR: 'it returns false'. Refute it at one input. -/
def fnExactCalledByWrong : ChangeSpec := { name := "fnExactCalledBy", fn := fun _ => fun
  | [d] => { results := [.lit (.bool false)], args := [d] }
  | _ => none }
def FnExactCalledByWrongFalsely : Prop := fnExactCalledByRow.holds Try.pinned (OpenSpec.ofChange fnExactCalledByWrong)

/- THE SECOND FORM. 'bulk': how many values and letters a reading holds, each counted each time it is reached (what is shared counts as often as it is met; a slice's spare places count too). A statement '..UptoSaid' is the law's where the arguments, and the package variables that the reading takes, are together of bulk at most 1048576: NARROWER than '..Said'. Prove '..Said' where nothing that the law and all that it calls make is longer than what came in: it says more and counts as full. Else prove '..UptoSaid'. A law counts once. -/
mutual
def uptoBulk {H : Type} : DataW H → Nat
  | .lit (.string bytes) => bytes.length + 1
  | .lit _ => 1
  | .nil => 1
  | .ptr d => uptoBulk d + 1
  | .slice elems spare => uptoBulkAll elems + uptoBulkAll spare + 1
  | .agg parts => uptoBulkAll parts + 1
  | .iface _ d => uptoBulk d + 1
  | .map entries => uptoBulkEntries entries + 1
  | .held _ => 1
def uptoBulkAll {H : Type} : List (DataW H) → Nat
  | [] => 0
  | d :: r => uptoBulk d + uptoBulkAll r
def uptoBulkEntries {H : Type} : List (Lit × DataW H) → Nat
  | [] => 0
  | x :: r => uptoBulkEntry x + uptoBulkEntries r
def uptoBulkEntry {H : Type} : Lit × DataW H → Nat
  | (.string bytes, d) => bytes.length + uptoBulk d + 1
  | (_, d) => uptoBulk d + 1
 end
def uptoSmall : (H : Type) → List (DataW H) → Bool := fun _ ds => decide (uptoBulkAll ds ≤ 1048576)
def OpenSpec.upto (s : _root_.Go.ChangeSpec) : _root_.Go.OpenSpec := { _root_.Go.OpenSpec.ofChange s with cond := some uptoSmall }

/-- 'laws.FnExactCallsOf', WHERE WHAT IT READS IS OF BULK AT MOST 1048576: true; the input reads as it did. -/
def fnExactCallsOfUptoRow : OpenClaim := { program := "ytljdpohdfnileaa", sum := "3eea451e0e9959320ea6e5b0b45253ee271ddd898b3332ea2dcdff66ea05ca1b", func := "loop.example/g03210/laws.FnExactCallsOf", spec := "fnExactCallsOf", recurses := true, loops := true, apart := false, narrowed := true }
def FnExactCallsOfUptoSaid : Prop := fnExactCallsOfUptoRow.holds Try.pinned (OpenSpec.upto fnExactCallsOfSpec)

/-- 'laws.FnExactClauseGoal', WHERE WHAT IT READS IS OF BULK AT MOST 1048576: true; the input reads as it did. -/
def fnExactClauseGoalUptoRow : OpenClaim := { program := "ytljdpohdfnileaa", sum := "3eea451e0e9959320ea6e5b0b45253ee271ddd898b3332ea2dcdff66ea05ca1b", func := "loop.example/g03210/laws.FnExactClauseGoal", spec := "fnExactClauseGoal", recurses := true, loops := true, apart := false, narrowed := true }
def FnExactClauseGoalUptoSaid : Prop := fnExactClauseGoalUptoRow.holds Try.pinned (OpenSpec.upto fnExactClauseGoalSpec)

/-- 'laws.FnExactClauseIndex', WHERE WHAT IT READS IS OF BULK AT MOST 1048576: true; the input reads as it did. -/
def fnExactClauseIndexUptoRow : OpenClaim := { program := "ytljdpohdfnileaa", sum := "3eea451e0e9959320ea6e5b0b45253ee271ddd898b3332ea2dcdff66ea05ca1b", func := "loop.example/g03210/laws.FnExactClauseIndex", spec := "fnExactClauseIndex", recurses := true, loops := true, apart := false, narrowed := true }
def FnExactClauseIndexUptoSaid : Prop := fnExactClauseIndexUptoRow.holds Try.pinned (OpenSpec.upto fnExactClauseIndexSpec)

/-- 'laws.FnExactClauseChoices', WHERE WHAT IT READS IS OF BULK AT MOST 1048576: true; the input reads as it did. -/
def fnExactClauseChoicesUptoRow : OpenClaim := { program := "ytljdpohdfnileaa", sum := "3eea451e0e9959320ea6e5b0b45253ee271ddd898b3332ea2dcdff66ea05ca1b", func := "loop.example/g03210/laws.FnExactClauseChoices", spec := "fnExactClauseChoices", recurses := true, loops := true, apart := false, narrowed := true }
def FnExactClauseChoicesUptoSaid : Prop := fnExactClauseChoicesUptoRow.holds Try.pinned (OpenSpec.upto fnExactClauseChoicesSpec)

/-- 'laws.FnExactClausesOf', WHERE WHAT IT READS IS OF BULK AT MOST 1048576: true; the input reads as it did. -/
def fnExactClausesOfUptoRow : OpenClaim := { program := "ytljdpohdfnileaa", sum := "3eea451e0e9959320ea6e5b0b45253ee271ddd898b3332ea2dcdff66ea05ca1b", func := "loop.example/g03210/laws.FnExactClausesOf", spec := "fnExactClausesOf", recurses := true, loops := true, apart := false, narrowed := true }
def FnExactClausesOfUptoSaid : Prop := fnExactClausesOfUptoRow.holds Try.pinned (OpenSpec.upto fnExactClausesOfSpec)

/-- 'laws.FnExactGoalVars', WHERE WHAT IT READS IS OF BULK AT MOST 1048576: true; the input reads as it did. -/
def fnExactGoalVarsUptoRow : OpenClaim := { program := "ytljdpohdfnileaa", sum := "3eea451e0e9959320ea6e5b0b45253ee271ddd898b3332ea2dcdff66ea05ca1b", func := "loop.example/g03210/laws.FnExactGoalVars", spec := "fnExactGoalVars", unfollowed := true, recurses := true, loops := true, apart := false, narrowed := true }
def FnExactGoalVarsUptoSaid : Prop := fnExactGoalVarsUptoRow.holds Try.pinned (OpenSpec.upto fnExactGoalVarsSpec)

/-- 'laws.FnExactStrata', WHERE WHAT IT READS IS OF BULK AT MOST 1048576: true; the input reads as it did. -/
def fnExactStrataUptoRow : OpenClaim := { program := "ytljdpohdfnileaa", sum := "3eea451e0e9959320ea6e5b0b45253ee271ddd898b3332ea2dcdff66ea05ca1b", func := "loop.example/g03210/laws.FnExactStrata", spec := "fnExactStrata", unfollowed := true, recurses := true, loops := true, apart := false, narrowed := true }
def FnExactStrataUptoSaid : Prop := fnExactStrataUptoRow.holds Try.pinned (OpenSpec.upto fnExactStrataSpec)

/-- 'laws.FnExactCalledBy', WHERE WHAT IT READS IS OF BULK AT MOST 1048576: true; the input reads as it did. -/
def fnExactCalledByUptoRow : OpenClaim := { program := "ytljdpohdfnileaa", sum := "3eea451e0e9959320ea6e5b0b45253ee271ddd898b3332ea2dcdff66ea05ca1b", func := "loop.example/g03210/laws.FnExactCalledBy", spec := "fnExactCalledBy", unfollowed := true, recurses := true, loops := true, apart := false, narrowed := true }
def FnExactCalledByUptoSaid : Prop := fnExactCalledByUptoRow.holds Try.pinned (OpenSpec.upto fnExactCalledBySpec)

end Rows
end Go.Proofs.Ytljdpohdfnileaa
