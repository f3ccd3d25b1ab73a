/-
  No cell of these rows narrows 'for every input' (looked for: loops, veiled, ifaces, maps, wideKeys, modest, calm, conditions, laid).
  DERIVED. THE GIVEN ROWS OF THIS SEAT. 9 by the template 'for every input the law returns true; each argument reads behind the call as it read before'; 0 by the template 'total and deterministic' (their statements: YtkolhpmhbgbphaaTotals.lean).
  GIVEN WITH THE SEED: the statements are not yours to turn. If you find one false, say at which input.
  Laid BY PROGRAM, IN A SANDBOX (cutbox-rows.mjs): the forced cells as the released guide's own fill.sh prints them over the translation 50377647550465ea… (all of the seat's roots in one cut). By AI agents, Wed Nov 11 2026. No macro, syntax, notation, axiom, sorry.
-/
import Derived.Test.YtkolhpmhbgbphaaChecked
import GoSem.Claim
import GoSem.ClaimJoined
import GoSem.ClaimMapViews
import Derived.JoinedTies
import Derived.KernelRfl
namespace Go.Proofs.Ytkolhpmhbgbphaa
/- THE CELL 'sum', in the pinned program and in every row, IS THE sha256 OF THE DUMP (.gsa) THAT YtkolhpmhbgbphaaProg.lean LOADS. Nothing in Lean hashes anything: it is a label: what it is worth is what the hold of that sum in a sandbox is worth. -/
noncomputable def Try.pinned : Pinned := { name := "ytkolhpmhbgbphaa", sum := "50377647550465ead4690b65fa99b3b88b7f9294fc2dc7aeaf9b2996ce0d476d", checked := Try.checked }
namespace Rows
def none {H : Type} : Left H := { results := [], args := [] }

/-- 'laws.FnExactIntersect': WHATEVER THE INPUT: true; the input reads as it did. -/
def fnExactIntersectSpec : ChangeSpec := { name := "fnExactIntersect", fn := fun _ => fun
  | [d] => { results := [.lit (.bool true)], args := [d] }
  | _ => none }
def fnExactIntersectRow : OpenClaim := { program := "ytkolhpmhbgbphaa", sum := "50377647550465ead4690b65fa99b3b88b7f9294fc2dc7aeaf9b2996ce0d476d", func := "loop.example/s01205/laws.FnExactIntersect", spec := "fnExactIntersect", unfollowed := true, recurses := true, plainKeys := false, apart := false }
def FnExactIntersectSaid : Prop := fnExactIntersectRow.holds Try.pinned (OpenSpec.ofChange fnExactIntersectSpec)

/-- ITS FALSE NEIGHBOUR: 'it returns false'. Refute it at one input. -/
def fnExactIntersectWrong : ChangeSpec := { name := "fnExactIntersect", fn := fun _ => fun
  | [d] => { results := [.lit (.bool false)], args := [d] }
  | _ => none }
def FnExactIntersectWrongFalsely : Prop := fnExactIntersectRow.holds Try.pinned (OpenSpec.ofChange fnExactIntersectWrong)

/-- 'laws.FnExactVariables': WHATEVER THE INPUT: true; the input reads as it did. -/
def fnExactVariablesSpec : ChangeSpec := { name := "fnExactVariables", fn := fun _ => fun
  | [d] => { results := [.lit (.bool true)], args := [d] }
  | _ => none }
def fnExactVariablesRow : OpenClaim := { program := "ytkolhpmhbgbphaa", sum := "50377647550465ead4690b65fa99b3b88b7f9294fc2dc7aeaf9b2996ce0d476d", func := "loop.example/s01205/laws.FnExactVariables", spec := "fnExactVariables", unfollowed := true, recurses := true, plainKeys := false, apart := false }
def FnExactVariablesSaid : Prop := fnExactVariablesRow.holds Try.pinned (OpenSpec.ofChange fnExactVariablesSpec)

/-- ITS FALSE NEIGHBOUR: 'it returns false'. Refute it at one input. -/
def fnExactVariablesWrong : ChangeSpec := { name := "fnExactVariables", fn := fun _ => fun
  | [d] => { results := [.lit (.bool false)], args := [d] }
  | _ => none }
def FnExactVariablesWrongFalsely : Prop := fnExactVariablesRow.holds Try.pinned (OpenSpec.ofChange fnExactVariablesWrong)

/-- 'laws.FnExactCoverOf': WHATEVER THE INPUT: true; the input reads as it did. -/
def fnExactCoverOfSpec : ChangeSpec := { name := "fnExactCoverOf", fn := fun _ => fun
  | [d1, d2] => { results := [.lit (.bool true)], args := [d1, d2] }
  | _ => none }
def fnExactCoverOfRow : OpenClaim := { program := "ytkolhpmhbgbphaa", sum := "50377647550465ead4690b65fa99b3b88b7f9294fc2dc7aeaf9b2996ce0d476d", func := "loop.example/s01205/laws.FnExactCoverOf", spec := "fnExactCoverOf", unfollowed := true, recurses := true, plainKeys := false, apart := false }
def FnExactCoverOfSaid : Prop := fnExactCoverOfRow.holds Try.pinned (OpenSpec.ofChange fnExactCoverOfSpec)

/-- ITS FALSE NEIGHBOUR: 'it returns false'. Refute it at one input. -/
def fnExactCoverOfWrong : ChangeSpec := { name := "fnExactCoverOf", fn := fun _ => fun
  | [d1, d2] => { results := [.lit (.bool false)], args := [d1, d2] }
  | _ => none }
def FnExactCoverOfWrongFalsely : Prop := fnExactCoverOfRow.holds Try.pinned (OpenSpec.ofChange fnExactCoverOfWrong)

/-- 'laws.FnCover': WHATEVER THE INPUT: true; the input reads as it did. -/
def fnCoverSpec : ChangeSpec := { name := "fnCover", fn := fun _ => fun
  | [d] => { results := [.lit (.bool true)], args := [d] }
  | _ => none }
def fnCoverRow : OpenClaim := { program := "ytkolhpmhbgbphaa", sum := "50377647550465ead4690b65fa99b3b88b7f9294fc2dc7aeaf9b2996ce0d476d", func := "loop.example/s01205/laws.FnCover", spec := "fnCover", unfollowed := true, recurses := true, plainKeys := false, apart := false }
def FnCoverSaid : Prop := fnCoverRow.holds Try.pinned (OpenSpec.ofChange fnCoverSpec)

/-- ITS FALSE NEIGHBOUR: 'it returns false'. Refute it at one input. -/
def fnCoverWrong : ChangeSpec := { name := "fnCover", fn := fun _ => fun
  | [d] => { results := [.lit (.bool false)], args := [d] }
  | _ => none }
def FnCoverWrongFalsely : Prop := fnCoverRow.holds Try.pinned (OpenSpec.ofChange fnCoverWrong)

/-- 'laws.FnExactCheckQuery': WHATEVER THE INPUT: true; the input reads as it did. -/
def fnExactCheckQuerySpec : ChangeSpec := { name := "fnExactCheckQuery", fn := fun _ => fun
  | [d1, d2] => { results := [.lit (.bool true)], args := [d1, d2] }
  | _ => none }
def fnExactCheckQueryRow : OpenClaim := { program := "ytkolhpmhbgbphaa", sum := "50377647550465ead4690b65fa99b3b88b7f9294fc2dc7aeaf9b2996ce0d476d", func := "loop.example/s01205/laws.FnExactCheckQuery", spec := "fnExactCheckQuery", unfollowed := true, recurses := true, plainKeys := false, apart := false }
def FnExactCheckQuerySaid : Prop := fnExactCheckQueryRow.holds Try.pinned (OpenSpec.ofChange fnExactCheckQuerySpec)

/-- ITS FALSE NEIGHBOUR: 'it returns false'. Refute it at one input. -/
def fnExactCheckQueryWrong : ChangeSpec := { name := "fnExactCheckQuery", fn := fun _ => fun
  | [d1, d2] => { results := [.lit (.bool false)], args := [d1, d2] }
  | _ => none }
def FnExactCheckQueryWrongFalsely : Prop := fnExactCheckQueryRow.holds Try.pinned (OpenSpec.ofChange fnExactCheckQueryWrong)

/-- 'laws.FnExactPlanOK': WHATEVER THE INPUT: true; the input reads as it did. -/
def fnExactPlanOKSpec : ChangeSpec := { name := "fnExactPlanOK", fn := fun _ => fun
  | [d1, d2, d3] => { results := [.lit (.bool true)], args := [d1, d2, d3] }
  | _ => none }
def fnExactPlanOKRow : OpenClaim := { program := "ytkolhpmhbgbphaa", sum := "50377647550465ead4690b65fa99b3b88b7f9294fc2dc7aeaf9b2996ce0d476d", func := "loop.example/s01205/laws.FnExactPlanOK", spec := "fnExactPlanOK", unfollowed := true, recurses := true, plainKeys := false, apart := false }
def FnExactPlanOKSaid : Prop := fnExactPlanOKRow.holds Try.pinned (OpenSpec.ofChange fnExactPlanOKSpec)

/-- ITS FALSE NEIGHBOUR: 'it returns false'. Refute it at one input. -/
def fnExactPlanOKWrong : ChangeSpec := { name := "fnExactPlanOK", fn := fun _ => fun
  | [d1, d2, d3] => { results := [.lit (.bool false)], args := [d1, d2, d3] }
  | _ => none }
def FnExactPlanOKWrongFalsely : Prop := fnExactPlanOKRow.holds Try.pinned (OpenSpec.ofChange fnExactPlanOKWrong)

/-- 'laws.FnExactProject': WHATEVER THE INPUT: true; the input reads as it did. -/
def fnExactProjectSpec : ChangeSpec := { name := "fnExactProject", fn := fun _ => fun
  | [d1, d2] => { results := [.lit (.bool true)], args := [d1, d2] }
  | _ => none }
def fnExactProjectRow : OpenClaim := { program := "ytkolhpmhbgbphaa", sum := "50377647550465ead4690b65fa99b3b88b7f9294fc2dc7aeaf9b2996ce0d476d", func := "loop.example/s01205/laws.FnExactProject", spec := "fnExactProject", unfollowed := true, recurses := true, plainKeys := false, apart := false }
def FnExactProjectSaid : Prop := fnExactProjectRow.holds Try.pinned (OpenSpec.ofChange fnExactProjectSpec)

/-- ITS FALSE NEIGHBOUR: 'it returns false'. Refute it at one input. -/
def fnExactProjectWrong : ChangeSpec := { name := "fnExactProject", fn := fun _ => fun
  | [d1, d2] => { results := [.lit (.bool false)], args := [d1, d2] }
  | _ => none }
def FnExactProjectWrongFalsely : Prop := fnExactProjectRow.holds Try.pinned (OpenSpec.ofChange fnExactProjectWrong)

/-- 'laws.FnExactEliminate': WHATEVER THE INPUT: true; the input reads as it did. -/
def fnExactEliminateSpec : ChangeSpec := { name := "fnExactEliminate", fn := fun _ => fun
  | [d1, d2, d3] => { results := [.lit (.bool true)], args := [d1, d2, d3] }
  | _ => none }
def fnExactEliminateRow : OpenClaim := { program := "ytkolhpmhbgbphaa", sum := "50377647550465ead4690b65fa99b3b88b7f9294fc2dc7aeaf9b2996ce0d476d", func := "loop.example/s01205/laws.FnExactEliminate", spec := "fnExactEliminate", unfollowed := true, recurses := true, plainKeys := false, apart := false }
def FnExactEliminateSaid : Prop := fnExactEliminateRow.holds Try.pinned (OpenSpec.ofChange fnExactEliminateSpec)

/-- ITS FALSE NEIGHBOUR: 'it returns false'. Refute it at one input. -/
def fnExactEliminateWrong : ChangeSpec := { name := "fnExactEliminate", fn := fun _ => fun
  | [d1, d2, d3] => { results := [.lit (.bool false)], args := [d1, d2, d3] }
  | _ => none }
def FnExactEliminateWrongFalsely : Prop := fnExactEliminateRow.holds Try.pinned (OpenSpec.ofChange fnExactEliminateWrong)

/-- 'laws.FnExactSemijoin': WHATEVER THE INPUT: true; the input reads as it did. -/
def fnExactSemijoinSpec : ChangeSpec := { name := "fnExactSemijoin", fn := fun _ => fun
  | [d1, d2] => { results := [.lit (.bool true)], args := [d1, d2] }
  | _ => none }
def fnExactSemijoinRow : OpenClaim := { program := "ytkolhpmhbgbphaa", sum := "50377647550465ead4690b65fa99b3b88b7f9294fc2dc7aeaf9b2996ce0d476d", func := "loop.example/s01205/laws.FnExactSemijoin", spec := "fnExactSemijoin", unfollowed := true, recurses := true, plainKeys := false, apart := false }
def FnExactSemijoinSaid : Prop := fnExactSemijoinRow.holds Try.pinned (OpenSpec.ofChange fnExactSemijoinSpec)

/-- ITS FALSE NEIGHBOUR: 'it returns false'. Refute it at one input. -/
def fnExactSemijoinWrong : ChangeSpec := { name := "fnExactSemijoin", fn := fun _ => fun
  | [d1, d2] => { results := [.lit (.bool false)], args := [d1, d2] }
  | _ => none }
def FnExactSemijoinWrongFalsely : Prop := fnExactSemijoinRow.holds Try.pinned (OpenSpec.ofChange fnExactSemijoinWrong)

/- THE SECOND FORM. 'bulk': how many values and letters a reading holds, each counted each time it is reached (what is shared counts as often as it is met; a slice's spare places count too). A statement '..UptoSaid' is the law's where the arguments, and the package variables that the reading takes, are together of bulk at most 1048576: NARROWER than '..Said'. Prove '..Said' where nothing that the law and all that it calls make is longer than what came in: it says more and counts as full. Else prove '..UptoSaid'. A law counts once. -/
mutual
def uptoBulk {H : Type} : DataW H → Nat
  | .lit (.string bytes) => bytes.length + 1
  | .lit _ => 1
  | .nil => 1
  | .ptr d => uptoBulk d + 1
  | .slice elems spare => uptoBulkAll elems + uptoBulkAll spare + 1
  | .agg parts => uptoBulkAll parts + 1
  | .iface _ d => uptoBulk d + 1
  | .map entries => uptoBulkEntries entries + 1
  | .held _ => 1
def uptoBulkAll {H : Type} : List (DataW H) → Nat
  | [] => 0
  | d :: r => uptoBulk d + uptoBulkAll r
def uptoBulkEntries {H : Type} : List (Lit × DataW H) → Nat
  | [] => 0
  | x :: r => uptoBulkEntry x + uptoBulkEntries r
def uptoBulkEntry {H : Type} : Lit × DataW H → Nat
  | (.string bytes, d) => bytes.length + uptoBulk d + 1
  | (_, d) => uptoBulk d + 1
 end
def uptoSmall : (H : Type) → List (DataW H) → Bool := fun _ ds => decide (uptoBulkAll ds ≤ 1048576)
def OpenSpec.upto (s : _root_.Go.ChangeSpec) : _root_.Go.OpenSpec := { _root_.Go.OpenSpec.ofChange s with cond := some uptoSmall }

/-- 'laws.FnExactIntersect', WHERE WHAT IT READS IS OF BULK AT MOST 1048576: true; the input reads as it did. -/
def fnExactIntersectUptoRow : OpenClaim := { program := "ytkolhpmhbgbphaa", sum := "50377647550465ead4690b65fa99b3b88b7f9294fc2dc7aeaf9b2996ce0d476d", func := "loop.example/s01205/laws.FnExactIntersect", spec := "fnExactIntersect", unfollowed := true, recurses := true, plainKeys := false, apart := false, narrowed := true }
def FnExactIntersectUptoSaid : Prop := fnExactIntersectUptoRow.holds Try.pinned (OpenSpec.upto fnExactIntersectSpec)

/-- 'laws.FnExactVariables', WHERE WHAT IT READS IS OF BULK AT MOST 1048576: true; the input reads as it did. -/
def fnExactVariablesUptoRow : OpenClaim := { program := "ytkolhpmhbgbphaa", sum := "50377647550465ead4690b65fa99b3b88b7f9294fc2dc7aeaf9b2996ce0d476d", func := "loop.example/s01205/laws.FnExactVariables", spec := "fnExactVariables", unfollowed := true, recurses := true, plainKeys := false, apart := false, narrowed := true }
def FnExactVariablesUptoSaid : Prop := fnExactVariablesUptoRow.holds Try.pinned (OpenSpec.upto fnExactVariablesSpec)

/-- 'laws.FnExactCoverOf', WHERE WHAT IT READS IS OF BULK AT MOST 1048576: true; the input reads as it did. -/
def fnExactCoverOfUptoRow : OpenClaim := { program := "ytkolhpmhbgbphaa", sum := "50377647550465ead4690b65fa99b3b88b7f9294fc2dc7aeaf9b2996ce0d476d", func := "loop.example/s01205/laws.FnExactCoverOf", spec := "fnExactCoverOf", unfollowed := true, recurses := true, plainKeys := false, apart := false, narrowed := true }
def FnExactCoverOfUptoSaid : Prop := fnExactCoverOfUptoRow.holds Try.pinned (OpenSpec.upto fnExactCoverOfSpec)

/-- 'laws.FnCover', WHERE WHAT IT READS IS OF BULK AT MOST 1048576: true; the input reads as it did. -/
def fnCoverUptoRow : OpenClaim := { program := "ytkolhpmhbgbphaa", sum := "50377647550465ead4690b65fa99b3b88b7f9294fc2dc7aeaf9b2996ce0d476d", func := "loop.example/s01205/laws.FnCover", spec := "fnCover", unfollowed := true, recurses := true, plainKeys := false, apart := false, narrowed := true }
def FnCoverUptoSaid : Prop := fnCoverUptoRow.holds Try.pinned (OpenSpec.upto fnCoverSpec)

/-- 'laws.FnExactCheckQuery', WHERE WHAT IT READS IS OF BULK AT MOST 1048576: true; the input reads as it did. -/
def fnExactCheckQueryUptoRow : OpenClaim := { program := "ytkolhpmhbgbphaa", sum := "50377647550465ead4690b65fa99b3b88b7f9294fc2dc7aeaf9b2996ce0d476d", func := "loop.example/s01205/laws.FnExactCheckQuery", spec := "fnExactCheckQuery", unfollowed := true, recurses := true, plainKeys := false, apart := false, narrowed := true }
def FnExactCheckQueryUptoSaid : Prop := fnExactCheckQueryUptoRow.holds Try.pinned (OpenSpec.upto fnExactCheckQuerySpec)

/-- 'laws.FnExactPlanOK', WHERE WHAT IT READS IS OF BULK AT MOST 1048576: true; the input reads as it did. -/
def fnExactPlanOKUptoRow : OpenClaim := { program := "ytkolhpmhbgbphaa", sum := "50377647550465ead4690b65fa99b3b88b7f9294fc2dc7aeaf9b2996ce0d476d", func := "loop.example/s01205/laws.FnExactPlanOK", spec := "fnExactPlanOK", unfollowed := true, recurses := true, plainKeys := false, apart := false, narrowed := true }
def FnExactPlanOKUptoSaid : Prop := fnExactPlanOKUptoRow.holds Try.pinned (OpenSpec.upto fnExactPlanOKSpec)

/-- 'laws.FnExactProject', WHERE WHAT IT READS IS OF BULK AT MOST 1048576: true; the input reads as it did. -/
def fnExactProjectUptoRow : OpenClaim := { program := "ytkolhpmhbgbphaa", sum := "50377647550465ead4690b65fa99b3b88b7f9294fc2dc7aeaf9b2996ce0d476d", func := "loop.example/s01205/laws.FnExactProject", spec := "fnExactProject", unfollowed := true, recurses := true, plainKeys := false, apart := false, narrowed := true }
def FnExactProjectUptoSaid : Prop := fnExactProjectUptoRow.holds Try.pinned (OpenSpec.upto fnExactProjectSpec)

/-- 'laws.FnExactEliminate', WHERE WHAT IT READS IS OF BULK AT MOST 1048576: true; the input reads as it did. -/
def fnExactEliminateUptoRow : OpenClaim := { program := "ytkolhpmhbgbphaa", sum := "50377647550465ead4690b65fa99b3b88b7f9294fc2dc7aeaf9b2996ce0d476d", func := "loop.example/s01205/laws.FnExactEliminate", spec := "fnExactEliminate", unfollowed := true, recurses := true, plainKeys := false, apart := false, narrowed := true }
def FnExactEliminateUptoSaid : Prop := fnExactEliminateUptoRow.holds Try.pinned (OpenSpec.upto fnExactEliminateSpec)

/-- 'laws.FnExactSemijoin', WHERE WHAT IT READS IS OF BULK AT MOST 1048576: true; the input reads as it did. -/
def fnExactSemijoinUptoRow : OpenClaim := { program := "ytkolhpmhbgbphaa", sum := "50377647550465ead4690b65fa99b3b88b7f9294fc2dc7aeaf9b2996ce0d476d", func := "loop.example/s01205/laws.FnExactSemijoin", spec := "fnExactSemijoin", unfollowed := true, recurses := true, plainKeys := false, apart := false, narrowed := true }
def FnExactSemijoinUptoSaid : Prop := fnExactSemijoinUptoRow.holds Try.pinned (OpenSpec.upto fnExactSemijoinSpec)

end Rows
end Go.Proofs.Ytkolhpmhbgbphaa
