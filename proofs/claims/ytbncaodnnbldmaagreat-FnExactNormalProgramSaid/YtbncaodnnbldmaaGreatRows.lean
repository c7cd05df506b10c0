/-
  NARROWER THAN 'FOR EVERY INPUT', by the rows' own cells (each row's printed sentence says how): FnExactNormalProgram: loops · FnExactStartStream: loops · FnExactProofChoices: loops.
  DERIVED. THE GIVEN ROWS OF THIS SEAT. 3 by the template 'for every input the law returns true; each argument reads behind the call as it read before'; 0 by the template 'total and deterministic' (their statements: YtbncaodnnbldmaaGreatTotals.lean).
  GIVEN WITH THE SEED: the statements are not yours to turn. If you find one false, say at which input.
  Laid BY PROGRAM, IN A SANDBOX (cutbox-rows.mjs): the forced cells as the released guide's own fill.sh prints them over the translation dabfaece0068602f… (all of the seat's roots in one cut). By AI agents, Wed Nov 11 2026. No macro, syntax, notation, axiom, sorry.
-/
import Derived.Test.YtbncaodnnbldmaaGreatChecked
import GoSem.Claim
import GoSem.ClaimJoined
import GoSem.ClaimMapViews
import Derived.JoinedTies
import Derived.KernelRfl
namespace Go.Proofs.YtbncaodnnbldmaaGreat
/- THE CELL 'sum', in the pinned program and in every row, IS THE sha256 OF THE DUMP (.gsa) THAT YtbncaodnnbldmaaGreatProg.lean LOADS. Nothing in Lean hashes anything: it is a label: what it is worth is what the hold of that sum in a sandbox is worth. -/
noncomputable def Tryz.pinned : Pinned := { name := "ytbncaodnnbldmaagreat", sum := "dabfaece0068602fe2f24ce265ea7ac526aa9f14dbc4b1d88478ac3c389606da", checked := Tryz.checked }
namespace Rows
def none {H : Type} : Left H := { results := [], args := [] }

/-- 'laws.FnExactNormalProgram': WHATEVER THE INPUT: true; the input reads as it did. -/
def fnExactNormalProgramSpec : ChangeSpec := { name := "fnExactNormalProgram", fn := fun _ => fun
  | [d] => { results := [.lit (.bool true)], args := [d] }
  | _ => none }
def fnExactNormalProgramRow : OpenClaim := { program := "ytbncaodnnbldmaagreat", sum := "dabfaece0068602fe2f24ce265ea7ac526aa9f14dbc4b1d88478ac3c389606da", func := "loop.example/g03210/laws.FnExactNormalProgram", spec := "fnExactNormalProgram", unfollowed := true, recurses := true, loops := true, apart := false }
def FnExactNormalProgramSaid : Prop := fnExactNormalProgramRow.holds Tryz.pinned (OpenSpec.ofChange fnExactNormalProgramSpec)

/-- ITS FALSE NEIGHBOUR: 'it returns false'. Refute it at one input. -/
def fnExactNormalProgramWrong : ChangeSpec := { name := "fnExactNormalProgram", fn := fun _ => fun
  | [d] => { results := [.lit (.bool false)], args := [d] }
  | _ => none }
def FnExactNormalProgramWrongFalsely : Prop := fnExactNormalProgramRow.holds Tryz.pinned (OpenSpec.ofChange fnExactNormalProgramWrong)

/-- 'laws.FnExactStartStream': WHATEVER THE INPUT: true; the input reads as it did. -/
def fnExactStartStreamSpec : ChangeSpec := { name := "fnExactStartStream", fn := fun _ => fun
  | [d1, d2, d3] => { results := [.lit (.bool true)], args := [d1, d2, d3] }
  | _ => none }
def fnExactStartStreamRow : OpenClaim := { program := "ytbncaodnnbldmaagreat", sum := "dabfaece0068602fe2f24ce265ea7ac526aa9f14dbc4b1d88478ac3c389606da", func := "loop.example/g03210/laws.FnExactStartStream", spec := "fnExactStartStream", unfollowed := true, recurses := true, loops := true, apart := false }
def FnExactStartStreamSaid : Prop := fnExactStartStreamRow.holds Tryz.pinned (OpenSpec.ofChange fnExactStartStreamSpec)

/-- ITS FALSE NEIGHBOUR: 'it returns false'. Refute it at one input. -/
def fnExactStartStreamWrong : ChangeSpec := { name := "fnExactStartStream", fn := fun _ => fun
  | [d1, d2, d3] => { results := [.lit (.bool false)], args := [d1, d2, d3] }
  | _ => none }
def FnExactStartStreamWrongFalsely : Prop := fnExactStartStreamRow.holds Tryz.pinned (OpenSpec.ofChange fnExactStartStreamWrong)

/-- 'laws.FnExactProofChoices': WHATEVER THE INPUT: true; the input reads as it did. -/
def fnExactProofChoicesSpec : ChangeSpec := { name := "fnExactProofChoices", fn := fun _ => fun
  | [d1, d2] => { results := [.lit (.bool true)], args := [d1, d2] }
  | _ => none }
def fnExactProofChoicesRow : OpenClaim := { program := "ytbncaodnnbldmaagreat", sum := "dabfaece0068602fe2f24ce265ea7ac526aa9f14dbc4b1d88478ac3c389606da", func := "loop.example/g03210/laws.FnExactProofChoices", spec := "fnExactProofChoices", unfollowed := true, recurses := true, loops := true, apart := false }
def FnExactProofChoicesSaid : Prop := fnExactProofChoicesRow.holds Tryz.pinned (OpenSpec.ofChange fnExactProofChoicesSpec)

/-- ITS FALSE NEIGHBOUR: 'it returns false'. Refute it at one input. -/
def fnExactProofChoicesWrong : ChangeSpec := { name := "fnExactProofChoices", fn := fun _ => fun
  | [d1, d2] => { results := [.lit (.bool false)], args := [d1, d2] }
  | _ => none }
def FnExactProofChoicesWrongFalsely : Prop := fnExactProofChoicesRow.holds Tryz.pinned (OpenSpec.ofChange fnExactProofChoicesWrong)

/- THE SECOND FORM. 'bulk': how many values and letters a reading holds, each counted each time it is reached (what is shared counts as often as it is met; a slice's spare places count too). A statement '..UptoSaid' is the law's where the arguments, and the package variables that the reading takes, are together of bulk at most 1048576: NARROWER than '..Said'. Prove '..Said' where nothing that the law and all that it calls make is longer than what came in: it says more and counts as full. Else prove '..UptoSaid'. A law counts once. -/
mutual
def uptoBulk {H : Type} : DataW H → Nat
  | .lit (.string bytes) => bytes.length + 1
  | .lit _ => 1
  | .nil => 1
  | .ptr d => uptoBulk d + 1
  | .slice elems spare => uptoBulkAll elems + uptoBulkAll spare + 1
  | .agg parts => uptoBulkAll parts + 1
  | .iface _ d => uptoBulk d + 1
  | .map entries => uptoBulkEntries entries + 1
  | .held _ => 1
def uptoBulkAll {H : Type} : List (DataW H) → Nat
  | [] => 0
  | d :: r => uptoBulk d + uptoBulkAll r
def uptoBulkEntries {H : Type} : List (Lit × DataW H) → Nat
  | [] => 0
  | x :: r => uptoBulkEntry x + uptoBulkEntries r
def uptoBulkEntry {H : Type} : Lit × DataW H → Nat
  | (.string bytes, d) => bytes.length + uptoBulk d + 1
  | (_, d) => uptoBulk d + 1
 end
def uptoSmall : (H : Type) → List (DataW H) → Bool := fun _ ds => decide (uptoBulkAll ds ≤ 1048576)
def OpenSpec.upto (s : _root_.Go.ChangeSpec) : _root_.Go.OpenSpec := { _root_.Go.OpenSpec.ofChange s with cond := some uptoSmall }

/-- 'laws.FnExactNormalProgram', WHERE WHAT IT READS IS OF BULK AT MOST 1048576: true; the input reads as it did. -/
def fnExactNormalProgramUptoRow : OpenClaim := { program := "ytbncaodnnbldmaagreat", sum := "dabfaece0068602fe2f24ce265ea7ac526aa9f14dbc4b1d88478ac3c389606da", func := "loop.example/g03210/laws.FnExactNormalProgram", spec := "fnExactNormalProgram", unfollowed := true, recurses := true, loops := true, apart := false, narrowed := true }
def FnExactNormalProgramUptoSaid : Prop := fnExactNormalProgramUptoRow.holds Tryz.pinned (OpenSpec.upto fnExactNormalProgramSpec)

/-- 'laws.FnExactStartStream', WHERE WHAT IT READS IS OF BULK AT MOST 1048576: true; the input reads as it did. -/
def fnExactStartStreamUptoRow : OpenClaim := { program := "ytbncaodnnbldmaagreat", sum := "dabfaece0068602fe2f24ce265ea7ac526aa9f14dbc4b1d88478ac3c389606da", func := "loop.example/g03210/laws.FnExactStartStream", spec := "fnExactStartStream", unfollowed := true, recurses := true, loops := true, apart := false, narrowed := true }
def FnExactStartStreamUptoSaid : Prop := fnExactStartStreamUptoRow.holds Tryz.pinned (OpenSpec.upto fnExactStartStreamSpec)

/-- 'laws.FnExactProofChoices', WHERE WHAT IT READS IS OF BULK AT MOST 1048576: true; the input reads as it did. -/
def fnExactProofChoicesUptoRow : OpenClaim := { program := "ytbncaodnnbldmaagreat", sum := "dabfaece0068602fe2f24ce265ea7ac526aa9f14dbc4b1d88478ac3c389606da", func := "loop.example/g03210/laws.FnExactProofChoices", spec := "fnExactProofChoices", unfollowed := true, recurses := true, loops := true, apart := false, narrowed := true }
def FnExactProofChoicesUptoSaid : Prop := fnExactProofChoicesUptoRow.holds Tryz.pinned (OpenSpec.upto fnExactProofChoicesSpec)

end Rows
end Go.Proofs.YtbncaodnnbldmaaGreat
