/-
  No cell of these rows narrows 'for every input' (looked for: loops, veiled, ifaces, maps, wideKeys, modest, calm, conditions, laid).
  DERIVED. THE GIVEN ROWS OF THIS SEAT. 4 by the template 'for every input the law returns true; each argument reads behind the call as it read before'; 0 by the template 'total and deterministic' (their statements: YtlajhmoomlgopaaGreatTotals.lean).
  GIVEN WITH THE SEED: the statements are not yours to turn. If you find one false, say at which input.
  Laid BY PROGRAM, IN A SANDBOX (cutbox-rows.mjs): the forced cells as the released guide's own fill.sh prints them over the translation d992fee1689cc2e9… (all of the seat's roots in one cut). By AI agents, Wed Nov 11 2026. No macro, syntax, notation, axiom, sorry.
-/
import Derived.Test.YtlajhmoomlgopaaGreatChecked
import GoSem.Claim
import GoSem.ClaimJoined
import GoSem.ClaimMapViews
import Derived.JoinedTies
import Derived.KernelRfl
namespace Go.Proofs.YtlajhmoomlgopaaGreat
/- THE CELL 'sum', in the pinned program and in every row, IS THE sha256 OF THE DUMP (.gsa) THAT YtlajhmoomlgopaaGreatProg.lean LOADS. Nothing in Lean hashes anything: it is a label: what it is worth is what the hold of that sum in a sandbox is worth. -/
noncomputable def Tryz.pinned : Pinned := { name := "ytlajhmoomlgopaagreat", sum := "d992fee1689cc2e9b8cb12c8688bf9787cc924711553c10c191998a81f7ef933", checked := Tryz.checked }
namespace Rows
def none {H : Type} : Left H := { results := [], args := [] }

/-- 'laws.FnStages': WHATEVER THE INPUT: true; the input reads as it did. -/
def fnStagesSpec : ChangeSpec := { name := "fnStages", fn := fun _ => fun
  | [d] => { results := [.lit (.bool true)], args := [d] }
  | _ => none }
def fnStagesRow : OpenClaim := { program := "ytlajhmoomlgopaagreat", sum := "d992fee1689cc2e9b8cb12c8688bf9787cc924711553c10c191998a81f7ef933", func := "loop.example/g03210/laws.FnStages", spec := "fnStages", inPlace := ["internal/reflectlite.ValueOf", "internal/reflectlite.Swapper", "(internal/reflectlite.Value).Len"], unfollowed := true, recurses := true, apart := false }
def FnStagesSaid : Prop := fnStagesRow.holds Tryz.pinned (OpenSpec.ofChange fnStagesSpec)

/-- ITS FALSE NEIGHBOUR: 'it returns false'. Refute it at one input. -/
def fnStagesWrong : ChangeSpec := { name := "fnStages", fn := fun _ => fun
  | [d] => { results := [.lit (.bool false)], args := [d] }
  | _ => none }
def FnStagesWrongFalsely : Prop := fnStagesRow.holds Tryz.pinned (OpenSpec.ofChange fnStagesWrong)

/-- 'laws.FnClauses': WHATEVER THE INPUT: true; the input reads as it did. -/
def fnClausesSpec : ChangeSpec := { name := "fnClauses", fn := fun _ => fun
  | [d] => { results := [.lit (.bool true)], args := [d] }
  | _ => none }
def fnClausesRow : OpenClaim := { program := "ytlajhmoomlgopaagreat", sum := "d992fee1689cc2e9b8cb12c8688bf9787cc924711553c10c191998a81f7ef933", func := "loop.example/g03210/laws.FnClauses", spec := "fnClauses", inPlace := ["internal/reflectlite.ValueOf", "internal/reflectlite.Swapper", "(internal/reflectlite.Value).Len"], unfollowed := true, recurses := true, apart := false }
def FnClausesSaid : Prop := fnClausesRow.holds Tryz.pinned (OpenSpec.ofChange fnClausesSpec)

/-- ITS FALSE NEIGHBOUR: 'it returns false'. Refute it at one input. -/
def fnClausesWrong : ChangeSpec := { name := "fnClauses", fn := fun _ => fun
  | [d] => { results := [.lit (.bool false)], args := [d] }
  | _ => none }
def FnClausesWrongFalsely : Prop := fnClausesRow.holds Tryz.pinned (OpenSpec.ofChange fnClausesWrong)

/-- 'laws.FnSlice': WHATEVER THE INPUT: true; the input reads as it did. -/
def fnSliceSpec : ChangeSpec := { name := "fnSlice", fn := fun _ => fun
  | [d] => { results := [.lit (.bool true)], args := [d] }
  | _ => none }
def fnSliceRow : OpenClaim := { program := "ytlajhmoomlgopaagreat", sum := "d992fee1689cc2e9b8cb12c8688bf9787cc924711553c10c191998a81f7ef933", func := "loop.example/g03210/laws.FnSlice", spec := "fnSlice", inPlace := ["internal/reflectlite.ValueOf", "internal/reflectlite.Swapper", "(internal/reflectlite.Value).Len"], unfollowed := true, recurses := true, apart := false }
def FnSliceSaid : Prop := fnSliceRow.holds Tryz.pinned (OpenSpec.ofChange fnSliceSpec)

/-- ITS FALSE NEIGHBOUR: 'it returns false'. Refute it at one input. -/
def fnSliceWrong : ChangeSpec := { name := "fnSlice", fn := fun _ => fun
  | [d] => { results := [.lit (.bool false)], args := [d] }
  | _ => none }
def FnSliceWrongFalsely : Prop := fnSliceRow.holds Tryz.pinned (OpenSpec.ofChange fnSliceWrong)

/-- 'laws.FnGrounding': WHATEVER THE INPUT: true; the input reads as it did. -/
def fnGroundingSpec : ChangeSpec := { name := "fnGrounding", fn := fun _ => fun
  | [d] => { results := [.lit (.bool true)], args := [d] }
  | _ => none }
def fnGroundingRow : OpenClaim := { program := "ytlajhmoomlgopaagreat", sum := "d992fee1689cc2e9b8cb12c8688bf9787cc924711553c10c191998a81f7ef933", func := "loop.example/g03210/laws.FnGrounding", spec := "fnGrounding", inPlace := ["internal/reflectlite.ValueOf", "internal/reflectlite.Swapper", "(internal/reflectlite.Value).Len"], unfollowed := true, recurses := true, apart := false }
def FnGroundingSaid : Prop := fnGroundingRow.holds Tryz.pinned (OpenSpec.ofChange fnGroundingSpec)

/-- ITS FALSE NEIGHBOUR: 'it returns false'. Refute it at one input. -/
def fnGroundingWrong : ChangeSpec := { name := "fnGrounding", fn := fun _ => fun
  | [d] => { results := [.lit (.bool false)], args := [d] }
  | _ => none }
def FnGroundingWrongFalsely : Prop := fnGroundingRow.holds Tryz.pinned (OpenSpec.ofChange fnGroundingWrong)

/- THE SECOND FORM. 'bulk': how many values and letters a reading holds, each counted each time it is reached (what is shared counts as often as it is met; a slice's spare places count too). A statement '..UptoSaid' is the law's where the arguments, and the package variables that the reading takes, are together of bulk at most 1048576: NARROWER than '..Said'. Prove '..Said' where nothing that the law and all that it calls make is longer than what came in: it says more and counts as full. Else prove '..UptoSaid'. A law counts once. -/
mutual
def uptoBulk {H : Type} : DataW H → Nat
  | .lit (.string bytes) => bytes.length + 1
  | .lit _ => 1
  | .nil => 1
  | .ptr d => uptoBulk d + 1
  | .slice elems spare => uptoBulkAll elems + uptoBulkAll spare + 1
  | .agg parts => uptoBulkAll parts + 1
  | .iface _ d => uptoBulk d + 1
  | .map entries => uptoBulkEntries entries + 1
  | .held _ => 1
def uptoBulkAll {H : Type} : List (DataW H) → Nat
  | [] => 0
  | d :: r => uptoBulk d + uptoBulkAll r
def uptoBulkEntries {H : Type} : List (Lit × DataW H) → Nat
  | [] => 0
  | x :: r => uptoBulkEntry x + uptoBulkEntries r
def uptoBulkEntry {H : Type} : Lit × DataW H → Nat
  | (.string bytes, d) => bytes.length + uptoBulk d + 1
  | (_, d) => uptoBulk d + 1
 end
def uptoSmall : (H : Type) → List (DataW H) → Bool := fun _ ds => decide (uptoBulkAll ds ≤ 1048576)
def OpenSpec.upto (s : _root_.Go.ChangeSpec) : _root_.Go.OpenSpec := { _root_.Go.OpenSpec.ofChange s with cond := some uptoSmall }

/-- 'laws.FnStages', WHERE WHAT IT READS IS OF BULK AT MOST 1048576: true; the input reads as it did. -/
def fnStagesUptoRow : OpenClaim := { program := "ytlajhmoomlgopaagreat", sum := "d992fee1689cc2e9b8cb12c8688bf9787cc924711553c10c191998a81f7ef933", func := "loop.example/g03210/laws.FnStages", spec := "fnStages", inPlace := ["internal/reflectlite.ValueOf", "internal/reflectlite.Swapper", "(internal/reflectlite.Value).Len"], unfollowed := true, recurses := true, apart := false, narrowed := true }
def FnStagesUptoSaid : Prop := fnStagesUptoRow.holds Tryz.pinned (OpenSpec.upto fnStagesSpec)

/-- 'laws.FnClauses', WHERE WHAT IT READS IS OF BULK AT MOST 1048576: true; the input reads as it did. -/
def fnClausesUptoRow : OpenClaim := { program := "ytlajhmoomlgopaagreat", sum := "d992fee1689cc2e9b8cb12c8688bf9787cc924711553c10c191998a81f7ef933", func := "loop.example/g03210/laws.FnClauses", spec := "fnClauses", inPlace := ["internal/reflectlite.ValueOf", "internal/reflectlite.Swapper", "(internal/reflectlite.Value).Len"], unfollowed := true, recurses := true, apart := false, narrowed := true }
def FnClausesUptoSaid : Prop := fnClausesUptoRow.holds Tryz.pinned (OpenSpec.upto fnClausesSpec)

/-- 'laws.FnSlice', WHERE WHAT IT READS IS OF BULK AT MOST 1048576: true; the input reads as it did. -/
def fnSliceUptoRow : OpenClaim := { program := "ytlajhmoomlgopaagreat", sum := "d992fee1689cc2e9b8cb12c8688bf9787cc924711553c10c191998a81f7ef933", func := "loop.example/g03210/laws.FnSlice", spec := "fnSlice", inPlace := ["internal/reflectlite.ValueOf", "internal/reflectlite.Swapper", "(internal/reflectlite.Value).Len"], unfollowed := true, recurses := true, apart := false, narrowed := true }
def FnSliceUptoSaid : Prop := fnSliceUptoRow.holds Tryz.pinned (OpenSpec.upto fnSliceSpec)

/-- 'laws.FnGrounding', WHERE WHAT IT READS IS OF BULK AT MOST 1048576: true; the input reads as it did. -/
def fnGroundingUptoRow : OpenClaim := { program := "ytlajhmoomlgopaagreat", sum := "d992fee1689cc2e9b8cb12c8688bf9787cc924711553c10c191998a81f7ef933", func := "loop.example/g03210/laws.FnGrounding", spec := "fnGrounding", inPlace := ["internal/reflectlite.ValueOf", "internal/reflectlite.Swapper", "(internal/reflectlite.Value).Len"], unfollowed := true, recurses := true, apart := false, narrowed := true }
def FnGroundingUptoSaid : Prop := fnGroundingUptoRow.holds Tryz.pinned (OpenSpec.upto fnGroundingSpec)

end Rows
end Go.Proofs.YtlajhmoomlgopaaGreat
