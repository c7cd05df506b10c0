/-
  NARROWER THAN 'FOR EVERY INPUT', by the rows' own cells (each row's printed sentence says how): FnExactIsRecursive: loops · FnExactComponents: loops.
  DERIVED. THE GIVEN ROWS OF THIS SEAT. 2 by the template 'for every input the law returns true; each argument reads behind the call as it read before'; 0 by the template 'total and deterministic' (their statements: YtfniakcjekooiaaTotals.lean).
  GIVEN WITH THE SEED: the statements are not yours to turn. If you find one false, say at which input.
  Laid BY PROGRAM, IN A SANDBOX (cutbox-rows.mjs): the forced cells as the released guide's own fill.sh prints them over the translation facb87de6ee401c6… (all of the seat's roots in one cut). By AI agents, Wed Nov 11 2026. No macro, syntax, notation, axiom, sorry.
-/
import Derived.Test.YtfniakcjekooiaaChecked
import GoSem.Claim
import GoSem.ClaimJoined
import GoSem.ClaimMapViews
import Derived.JoinedTies
import Derived.KernelRfl
namespace Go.Proofs.Ytfniakcjekooiaa
/- THE CELL 'sum', in the pinned program and in every row, IS THE sha256 OF THE DUMP (.gsa) THAT YtfniakcjekooiaaProg.lean LOADS. Nothing in Lean hashes anything: it is a label: what it is worth is what the hold of that sum in a sandbox is worth. -/
noncomputable def Try.pinned : Pinned := { name := "ytfniakcjekooiaa", sum := "facb87de6ee401c6312a1b88423c92a497a62c3b12c55e896b96bb0c8c0f2380", checked := Try.checked }
namespace Rows
def none {H : Type} : Left H := { results := [], args := [] }

/-- 'laws.FnExactIsRecursive': WHATEVER THE INPUT: true; the input reads as it did. -/
def fnExactIsRecursiveSpec : ChangeSpec := { name := "fnExactIsRecursive", fn := fun _ => fun
  | [d1, d2] => { results := [.lit (.bool true)], args := [d1, d2] }
  | _ => none }
def fnExactIsRecursiveRow : OpenClaim := { program := "ytfniakcjekooiaa", sum := "facb87de6ee401c6312a1b88423c92a497a62c3b12c55e896b96bb0c8c0f2380", func := "loop.example/g03210/laws.FnExactIsRecursive", spec := "fnExactIsRecursive", unfollowed := true, recurses := true, loops := true, apart := false }
def FnExactIsRecursiveSaid : Prop := fnExactIsRecursiveRow.holds Try.pinned (OpenSpec.ofChange fnExactIsRecursiveSpec)

/-- ITS FALSE NEIGHBOUR: 'it returns false'. Refute it at one input. -/
def fnExactIsRecursiveWrong : ChangeSpec := { name := "fnExactIsRecursive", fn := fun _ => fun
  | [d1, d2] => { results := [.lit (.bool false)], args := [d1, d2] }
  | _ => none }
def FnExactIsRecursiveWrongFalsely : Prop := fnExactIsRecursiveRow.holds Try.pinned (OpenSpec.ofChange fnExactIsRecursiveWrong)

/-- 'laws.FnExactComponents': WHATEVER THE INPUT: true; the input reads as it did. -/
def fnExactComponentsSpec : ChangeSpec := { name := "fnExactComponents", fn := fun _ => fun
  | [d] => { results := [.lit (.bool true)], args := [d] }
  | _ => none }
def fnExactComponentsRow : OpenClaim := { program := "ytfniakcjekooiaa", sum := "facb87de6ee401c6312a1b88423c92a497a62c3b12c55e896b96bb0c8c0f2380", func := "loop.example/g03210/laws.FnExactComponents", spec := "fnExactComponents", unfollowed := true, recurses := true, loops := true, apart := false }
def FnExactComponentsSaid : Prop := fnExactComponentsRow.holds Try.pinned (OpenSpec.ofChange fnExactComponentsSpec)

/-- ITS FALSE NEIGHBOUR: 'it returns false'. Refute it at one input. -/
def fnExactComponentsWrong : ChangeSpec := { name := "fnExactComponents", fn := fun _ => fun
  | [d] => { results := [.lit (.bool false)], args := [d] }
  | _ => none }
def FnExactComponentsWrongFalsely : Prop := fnExactComponentsRow.holds Try.pinned (OpenSpec.ofChange fnExactComponentsWrong)

/- THE SECOND FORM. 'bulk': how many values and letters a reading holds, each counted each time it is reached (what is shared counts as often as it is met; a slice's spare places count too). A statement '..UptoSaid' is the law's where the arguments, and the package variables that the reading takes, are together of bulk at most 1048576: NARROWER than '..Said'. Prove '..Said' where nothing that the law and all that it calls make is longer than what came in: it says more and counts as full. Else prove '..UptoSaid'. A law counts once. -/
mutual
def uptoBulk {H : Type} : DataW H → Nat
  | .lit (.string bytes) => bytes.length + 1
  | .lit _ => 1
  | .nil => 1
  | .ptr d => uptoBulk d + 1
  | .slice elems spare => uptoBulkAll elems + uptoBulkAll spare + 1
  | .agg parts => uptoBulkAll parts + 1
  | .iface _ d => uptoBulk d + 1
  | .map entries => uptoBulkEntries entries + 1
  | .held _ => 1
def uptoBulkAll {H : Type} : List (DataW H) → Nat
  | [] => 0
  | d :: r => uptoBulk d + uptoBulkAll r
def uptoBulkEntries {H : Type} : List (Lit × DataW H) → Nat
  | [] => 0
  | x :: r => uptoBulkEntry x + uptoBulkEntries r
def uptoBulkEntry {H : Type} : Lit × DataW H → Nat
  | (.string bytes, d) => bytes.length + uptoBulk d + 1
  | (_, d) => uptoBulk d + 1
 end
def uptoSmall : (H : Type) → List (DataW H) → Bool := fun _ ds => decide (uptoBulkAll ds ≤ 1048576)
def OpenSpec.upto (s : _root_.Go.ChangeSpec) : _root_.Go.OpenSpec := { _root_.Go.OpenSpec.ofChange s with cond := some uptoSmall }

/-- 'laws.FnExactIsRecursive', WHERE WHAT IT READS IS OF BULK AT MOST 1048576: true; the input reads as it did. -/
def fnExactIsRecursiveUptoRow : OpenClaim := { program := "ytfniakcjekooiaa", sum := "facb87de6ee401c6312a1b88423c92a497a62c3b12c55e896b96bb0c8c0f2380", func := "loop.example/g03210/laws.FnExactIsRecursive", spec := "fnExactIsRecursive", unfollowed := true, recurses := true, loops := true, apart := false, narrowed := true }
def FnExactIsRecursiveUptoSaid : Prop := fnExactIsRecursiveUptoRow.holds Try.pinned (OpenSpec.upto fnExactIsRecursiveSpec)

/-- 'laws.FnExactComponents', WHERE WHAT IT READS IS OF BULK AT MOST 1048576: true; the input reads as it did. -/
def fnExactComponentsUptoRow : OpenClaim := { program := "ytfniakcjekooiaa", sum := "facb87de6ee401c6312a1b88423c92a497a62c3b12c55e896b96bb0c8c0f2380", func := "loop.example/g03210/laws.FnExactComponents", spec := "fnExactComponents", unfollowed := true, recurses := true, loops := true, apart := false, narrowed := true }
def FnExactComponentsUptoSaid : Prop := fnExactComponentsUptoRow.holds Try.pinned (OpenSpec.upto fnExactComponentsSpec)

end Rows
end Go.Proofs.Ytfniakcjekooiaa
