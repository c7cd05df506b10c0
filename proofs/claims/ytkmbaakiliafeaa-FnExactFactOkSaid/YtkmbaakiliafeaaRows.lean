/-
  NARROWER THAN 'FOR EVERY INPUT', by the rows' own cells (each row's printed sentence says how): FnExactTestGoal: loops · FnExactProgramOk: loops · FnExactGoalFits: loops · FnExactFindRel: loops · FnExactIsPositive: loops · FnExactIsPure: loops · FnExactFactOk: loops · FnExactIsRecursive: loops.
  DERIVED. THE GIVEN ROWS OF THIS SEAT. 8 by the template 'for every input the law returns true; each argument reads behind the call as it read before'; 0 by the template 'total and deterministic' (their statements: YtkmbaakiliafeaaTotals.lean).
  GIVEN WITH THE SEED: the statements are not yours to turn. If you find one false, say at which input.
  Laid BY PROGRAM, IN A SANDBOX (cutbox-rows.mjs): the forced cells as the released guide's own fill.sh prints them over the translation 986a5838d80dcb32… (all of the seat's roots in one cut). By AI agents, Wed Nov 11 2026. No macro, syntax, notation, axiom, sorry.
-/
import Derived.Test.YtkmbaakiliafeaaChecked
import GoSem.Claim
import GoSem.ClaimJoined
import GoSem.ClaimMapViews
import Derived.JoinedTies
import Derived.KernelRfl
namespace Go.Proofs.Ytkmbaakiliafeaa
/- THE CELL 'sum', in the pinned program and in every row, IS THE sha256 OF THE DUMP (.gsa) THAT YtkmbaakiliafeaaProg.lean LOADS. Nothing in Lean hashes anything: it is a label: what it is worth is what the hold of that sum in a sandbox is worth. -/
noncomputable def Try.pinned : Pinned := { name := "ytkmbaakiliafeaa", sum := "986a5838d80dcb32711e4027a7c1b058444b16e918fb79f09d5d2c1d397267f3", checked := Try.checked }
namespace Rows
def none {H : Type} : Left H := { results := [], args := [] }

/-- 'laws.FnExactTestGoal': WHATEVER THE INPUT: true; the input reads as it did. -/
def fnExactTestGoalSpec : ChangeSpec := { name := "fnExactTestGoal", fn := fun _ => fun
  | [d] => { results := [.lit (.bool true)], args := [d] }
  | _ => none }
def fnExactTestGoalRow : OpenClaim := { program := "ytkmbaakiliafeaa", sum := "986a5838d80dcb32711e4027a7c1b058444b16e918fb79f09d5d2c1d397267f3", func := "loop.example/g03210/laws.FnExactTestGoal", spec := "fnExactTestGoal", unfollowed := true, recurses := true, loops := true, apart := false }
def FnExactTestGoalSaid : Prop := fnExactTestGoalRow.holds Try.pinned (OpenSpec.ofChange fnExactTestGoalSpec)

/-- ITS FALSE NEIGHBOUR: 'it returns false'. Refute it at one input. -/
def fnExactTestGoalWrong : ChangeSpec := { name := "fnExactTestGoal", fn := fun _ => fun
  | [d] => { results := [.lit (.bool false)], args := [d] }
  | _ => none }
def FnExactTestGoalWrongFalsely : Prop := fnExactTestGoalRow.holds Try.pinned (OpenSpec.ofChange fnExactTestGoalWrong)

/-- 'laws.FnExactProgramOk': WHATEVER THE INPUT: true; the input reads as it did. -/
def fnExactProgramOkSpec : ChangeSpec := { name := "fnExactProgramOk", fn := fun _ => fun
  | [d] => { results := [.lit (.bool true)], args := [d] }
  | _ => none }
def fnExactProgramOkRow : OpenClaim := { program := "ytkmbaakiliafeaa", sum := "986a5838d80dcb32711e4027a7c1b058444b16e918fb79f09d5d2c1d397267f3", func := "loop.example/g03210/laws.FnExactProgramOk", spec := "fnExactProgramOk", unfollowed := true, recurses := true, loops := true, apart := false }
def FnExactProgramOkSaid : Prop := fnExactProgramOkRow.holds Try.pinned (OpenSpec.ofChange fnExactProgramOkSpec)

/-- ITS FALSE NEIGHBOUR: 'it returns false'. Refute it at one input. -/
def fnExactProgramOkWrong : ChangeSpec := { name := "fnExactProgramOk", fn := fun _ => fun
  | [d] => { results := [.lit (.bool false)], args := [d] }
  | _ => none }
def FnExactProgramOkWrongFalsely : Prop := fnExactProgramOkRow.holds Try.pinned (OpenSpec.ofChange fnExactProgramOkWrong)

/-- 'laws.FnExactGoalFits': WHATEVER THE INPUT: true; the input reads as it did. -/
def fnExactGoalFitsSpec : ChangeSpec := { name := "fnExactGoalFits", fn := fun _ => fun
  | [d1, d2, d3] => { results := [.lit (.bool true)], args := [d1, d2, d3] }
  | _ => none }
def fnExactGoalFitsRow : OpenClaim := { program := "ytkmbaakiliafeaa", sum := "986a5838d80dcb32711e4027a7c1b058444b16e918fb79f09d5d2c1d397267f3", func := "loop.example/g03210/laws.FnExactGoalFits", spec := "fnExactGoalFits", unfollowed := true, recurses := true, loops := true, apart := false }
def FnExactGoalFitsSaid : Prop := fnExactGoalFitsRow.holds Try.pinned (OpenSpec.ofChange fnExactGoalFitsSpec)

/-- ITS FALSE NEIGHBOUR: 'it returns false'. Refute it at one input. -/
def fnExactGoalFitsWrong : ChangeSpec := { name := "fnExactGoalFits", fn := fun _ => fun
  | [d1, d2, d3] => { results := [.lit (.bool false)], args := [d1, d2, d3] }
  | _ => none }
def FnExactGoalFitsWrongFalsely : Prop := fnExactGoalFitsRow.holds Try.pinned (OpenSpec.ofChange fnExactGoalFitsWrong)

/-- 'laws.FnExactFindRel': WHATEVER THE INPUT: true; the input reads as it did. -/
def fnExactFindRelSpec : ChangeSpec := { name := "fnExactFindRel", fn := fun _ => fun
  | [d1, d2] => { results := [.lit (.bool true)], args := [d1, d2] }
  | _ => none }
def fnExactFindRelRow : OpenClaim := { program := "ytkmbaakiliafeaa", sum := "986a5838d80dcb32711e4027a7c1b058444b16e918fb79f09d5d2c1d397267f3", func := "loop.example/g03210/laws.FnExactFindRel", spec := "fnExactFindRel", unfollowed := true, recurses := true, loops := true, apart := false }
def FnExactFindRelSaid : Prop := fnExactFindRelRow.holds Try.pinned (OpenSpec.ofChange fnExactFindRelSpec)

/-- ITS FALSE NEIGHBOUR: 'it returns false'. Refute it at one input. -/
def fnExactFindRelWrong : ChangeSpec := { name := "fnExactFindRel", fn := fun _ => fun
  | [d1, d2] => { results := [.lit (.bool false)], args := [d1, d2] }
  | _ => none }
def FnExactFindRelWrongFalsely : Prop := fnExactFindRelRow.holds Try.pinned (OpenSpec.ofChange fnExactFindRelWrong)

/-- 'laws.FnExactIsPositive': WHATEVER THE INPUT: true; the input reads as it did. -/
def fnExactIsPositiveSpec : ChangeSpec := { name := "fnExactIsPositive", fn := fun _ => fun
  | [d] => { results := [.lit (.bool true)], args := [d] }
  | _ => none }
def fnExactIsPositiveRow : OpenClaim := { program := "ytkmbaakiliafeaa", sum := "986a5838d80dcb32711e4027a7c1b058444b16e918fb79f09d5d2c1d397267f3", func := "loop.example/g03210/laws.FnExactIsPositive", spec := "fnExactIsPositive", unfollowed := true, recurses := true, loops := true, apart := false }
def FnExactIsPositiveSaid : Prop := fnExactIsPositiveRow.holds Try.pinned (OpenSpec.ofChange fnExactIsPositiveSpec)

/-- ITS FALSE NEIGHBOUR: 'it returns false'. Refute it at one input. -/
def fnExactIsPositiveWrong : ChangeSpec := { name := "fnExactIsPositive", fn := fun _ => fun
  | [d] => { results := [.lit (.bool false)], args := [d] }
  | _ => none }
def FnExactIsPositiveWrongFalsely : Prop := fnExactIsPositiveRow.holds Try.pinned (OpenSpec.ofChange fnExactIsPositiveWrong)

/-- 'laws.FnExactIsPure': WHATEVER THE INPUT: true; the input reads as it did. -/
def fnExactIsPureSpec : ChangeSpec := { name := "fnExactIsPure", fn := fun _ => fun
  | [d] => { results := [.lit (.bool true)], args := [d] }
  | _ => none }
def fnExactIsPureRow : OpenClaim := { program := "ytkmbaakiliafeaa", sum := "986a5838d80dcb32711e4027a7c1b058444b16e918fb79f09d5d2c1d397267f3", func := "loop.example/g03210/laws.FnExactIsPure", spec := "fnExactIsPure", unfollowed := true, recurses := true, loops := true, apart := false }
def FnExactIsPureSaid : Prop := fnExactIsPureRow.holds Try.pinned (OpenSpec.ofChange fnExactIsPureSpec)

/-- ITS FALSE NEIGHBOUR: 'it returns false'. Refute it at one input. -/
def fnExactIsPureWrong : ChangeSpec := { name := "fnExactIsPure", fn := fun _ => fun
  | [d] => { results := [.lit (.bool false)], args := [d] }
  | _ => none }
def FnExactIsPureWrongFalsely : Prop := fnExactIsPureRow.holds Try.pinned (OpenSpec.ofChange fnExactIsPureWrong)

/-- 'laws.FnExactFactOk': WHATEVER THE INPUT: true; the input reads as it did. -/
def fnExactFactOkSpec : ChangeSpec := { name := "fnExactFactOk", fn := fun _ => fun
  | [d1, d2] => { results := [.lit (.bool true)], args := [d1, d2] }
  | _ => none }
def fnExactFactOkRow : OpenClaim := { program := "ytkmbaakiliafeaa", sum := "986a5838d80dcb32711e4027a7c1b058444b16e918fb79f09d5d2c1d397267f3", func := "loop.example/g03210/laws.FnExactFactOk", spec := "fnExactFactOk", unfollowed := true, recurses := true, loops := true, apart := false }
def FnExactFactOkSaid : Prop := fnExactFactOkRow.holds Try.pinned (OpenSpec.ofChange fnExactFactOkSpec)

/-- ITS FALSE NEIGHBOUR: 'it returns false'. Refute it at one input. -/
def fnExactFactOkWrong : ChangeSpec := { name := "fnExactFactOk", fn := fun _ => fun
  | [d1, d2] => { results := [.lit (.bool false)], args := [d1, d2] }
  | _ => none }
def FnExactFactOkWrongFalsely : Prop := fnExactFactOkRow.holds Try.pinned (OpenSpec.ofChange fnExactFactOkWrong)

/-- 'laws.FnExactIsRecursive': WHATEVER THE INPUT: true; the input reads as it did. -/
def fnExactIsRecursiveSpec : ChangeSpec := { name := "fnExactIsRecursive", fn := fun _ => fun
  | [d1, d2] => { results := [.lit (.bool true)], args := [d1, d2] }
  | _ => none }
def fnExactIsRecursiveRow : OpenClaim := { program := "ytkmbaakiliafeaa", sum := "986a5838d80dcb32711e4027a7c1b058444b16e918fb79f09d5d2c1d397267f3", func := "loop.example/g03210/laws.FnExactIsRecursive", spec := "fnExactIsRecursive", unfollowed := true, recurses := true, loops := true, apart := false }
def FnExactIsRecursiveSaid : Prop := fnExactIsRecursiveRow.holds Try.pinned (OpenSpec.ofChange fnExactIsRecursiveSpec)

/-- ITS FALSE NEIGHBOUR: 'it returns false'. Refute it at one input. -/
def fnExactIsRecursiveWrong : ChangeSpec := { name := "fnExactIsRecursive", fn := fun _ => fun
  | [d1, d2] => { results := [.lit (.bool false)], args := [d1, d2] }
  | _ => none }
def FnExactIsRecursiveWrongFalsely : Prop := fnExactIsRecursiveRow.holds Try.pinned (OpenSpec.ofChange fnExactIsRecursiveWrong)

/- THE SECOND FORM. 'bulk': how many values and letters a reading holds, each counted each time it is reached (what is shared counts as often as it is met; a slice's spare places count too). A statement '..UptoSaid' is the law's where the arguments, and the package variables that the reading takes, are together of bulk at most 1048576: NARROWER than '..Said'. Prove '..Said' where nothing that the law and all that it calls make is longer than what came in: it says more and counts as full. Else prove '..UptoSaid'. A law counts once. -/
mutual
def uptoBulk {H : Type} : DataW H → Nat
  | .lit (.string bytes) => bytes.length + 1
  | .lit _ => 1
  | .nil => 1
  | .ptr d => uptoBulk d + 1
  | .slice elems spare => uptoBulkAll elems + uptoBulkAll spare + 1
  | .agg parts => uptoBulkAll parts + 1
  | .iface _ d => uptoBulk d + 1
  | .map entries => uptoBulkEntries entries + 1
  | .held _ => 1
def uptoBulkAll {H : Type} : List (DataW H) → Nat
  | [] => 0
  | d :: r => uptoBulk d + uptoBulkAll r
def uptoBulkEntries {H : Type} : List (Lit × DataW H) → Nat
  | [] => 0
  | x :: r => uptoBulkEntry x + uptoBulkEntries r
def uptoBulkEntry {H : Type} : Lit × DataW H → Nat
  | (.string bytes, d) => bytes.length + uptoBulk d + 1
  | (_, d) => uptoBulk d + 1
 end
def uptoSmall : (H : Type) → List (DataW H) → Bool := fun _ ds => decide (uptoBulkAll ds ≤ 1048576)
def OpenSpec.upto (s : _root_.Go.ChangeSpec) : _root_.Go.OpenSpec := { _root_.Go.OpenSpec.ofChange s with cond := some uptoSmall }

/-- 'laws.FnExactTestGoal', WHERE WHAT IT READS IS OF BULK AT MOST 1048576: true; the input reads as it did. -/
def fnExactTestGoalUptoRow : OpenClaim := { program := "ytkmbaakiliafeaa", sum := "986a5838d80dcb32711e4027a7c1b058444b16e918fb79f09d5d2c1d397267f3", func := "loop.example/g03210/laws.FnExactTestGoal", spec := "fnExactTestGoal", unfollowed := true, recurses := true, loops := true, apart := false, narrowed := true }
def FnExactTestGoalUptoSaid : Prop := fnExactTestGoalUptoRow.holds Try.pinned (OpenSpec.upto fnExactTestGoalSpec)

/-- 'laws.FnExactProgramOk', WHERE WHAT IT READS IS OF BULK AT MOST 1048576: true; the input reads as it did. -/
def fnExactProgramOkUptoRow : OpenClaim := { program := "ytkmbaakiliafeaa", sum := "986a5838d80dcb32711e4027a7c1b058444b16e918fb79f09d5d2c1d397267f3", func := "loop.example/g03210/laws.FnExactProgramOk", spec := "fnExactProgramOk", unfollowed := true, recurses := true, loops := true, apart := false, narrowed := true }
def FnExactProgramOkUptoSaid : Prop := fnExactProgramOkUptoRow.holds Try.pinned (OpenSpec.upto fnExactProgramOkSpec)

/-- 'laws.FnExactGoalFits', WHERE WHAT IT READS IS OF BULK AT MOST 1048576: true; the input reads as it did. -/
def fnExactGoalFitsUptoRow : OpenClaim := { program := "ytkmbaakiliafeaa", sum := "986a5838d80dcb32711e4027a7c1b058444b16e918fb79f09d5d2c1d397267f3", func := "loop.example/g03210/laws.FnExactGoalFits", spec := "fnExactGoalFits", unfollowed := true, recurses := true, loops := true, apart := false, narrowed := true }
def FnExactGoalFitsUptoSaid : Prop := fnExactGoalFitsUptoRow.holds Try.pinned (OpenSpec.upto fnExactGoalFitsSpec)

/-- 'laws.FnExactFindRel', WHERE WHAT IT READS IS OF BULK AT MOST 1048576: true; the input reads as it did. -/
def fnExactFindRelUptoRow : OpenClaim := { program := "ytkmbaakiliafeaa", sum := "986a5838d80dcb32711e4027a7c1b058444b16e918fb79f09d5d2c1d397267f3", func := "loop.example/g03210/laws.FnExactFindRel", spec := "fnExactFindRel", unfollowed := true, recurses := true, loops := true, apart := false, narrowed := true }
def FnExactFindRelUptoSaid : Prop := fnExactFindRelUptoRow.holds Try.pinned (OpenSpec.upto fnExactFindRelSpec)

/-- 'laws.FnExactIsPositive', WHERE WHAT IT READS IS OF BULK AT MOST 1048576: true; the input reads as it did. -/
def fnExactIsPositiveUptoRow : OpenClaim := { program := "ytkmbaakiliafeaa", sum := "986a5838d80dcb32711e4027a7c1b058444b16e918fb79f09d5d2c1d397267f3", func := "loop.example/g03210/laws.FnExactIsPositive", spec := "fnExactIsPositive", unfollowed := true, recurses := true, loops := true, apart := false, narrowed := true }
def FnExactIsPositiveUptoSaid : Prop := fnExactIsPositiveUptoRow.holds Try.pinned (OpenSpec.upto fnExactIsPositiveSpec)

/-- 'laws.FnExactIsPure', WHERE WHAT IT READS IS OF BULK AT MOST 1048576: true; the input reads as it did. -/
def fnExactIsPureUptoRow : OpenClaim := { program := "ytkmbaakiliafeaa", sum := "986a5838d80dcb32711e4027a7c1b058444b16e918fb79f09d5d2c1d397267f3", func := "loop.example/g03210/laws.FnExactIsPure", spec := "fnExactIsPure", unfollowed := true, recurses := true, loops := true, apart := false, narrowed := true }
def FnExactIsPureUptoSaid : Prop := fnExactIsPureUptoRow.holds Try.pinned (OpenSpec.upto fnExactIsPureSpec)

/-- 'laws.FnExactFactOk', WHERE WHAT IT READS IS OF BULK AT MOST 1048576: true; the input reads as it did. -/
def fnExactFactOkUptoRow : OpenClaim := { program := "ytkmbaakiliafeaa", sum := "986a5838d80dcb32711e4027a7c1b058444b16e918fb79f09d5d2c1d397267f3", func := "loop.example/g03210/laws.FnExactFactOk", spec := "fnExactFactOk", unfollowed := true, recurses := true, loops := true, apart := false, narrowed := true }
def FnExactFactOkUptoSaid : Prop := fnExactFactOkUptoRow.holds Try.pinned (OpenSpec.upto fnExactFactOkSpec)

/-- 'laws.FnExactIsRecursive', WHERE WHAT IT READS IS OF BULK AT MOST 1048576: true; the input reads as it did. -/
def fnExactIsRecursiveUptoRow : OpenClaim := { program := "ytkmbaakiliafeaa", sum := "986a5838d80dcb32711e4027a7c1b058444b16e918fb79f09d5d2c1d397267f3", func := "loop.example/g03210/laws.FnExactIsRecursive", spec := "fnExactIsRecursive", unfollowed := true, recurses := true, loops := true, apart := false, narrowed := true }
def FnExactIsRecursiveUptoSaid : Prop := fnExactIsRecursiveUptoRow.holds Try.pinned (OpenSpec.upto fnExactIsRecursiveSpec)

end Rows
end Go.Proofs.Ytkmbaakiliafeaa
