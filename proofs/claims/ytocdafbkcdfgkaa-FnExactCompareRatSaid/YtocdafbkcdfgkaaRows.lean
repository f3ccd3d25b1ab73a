/-
  No cell of these rows narrows 'for every input' (looked for: loops, veiled, ifaces, maps, wideKeys, modest, calm, conditions, laid).
  DERIVED. THE GIVEN ROWS OF THIS SEAT. 4 by the template 'for every input the law returns true; each argument reads behind the call as it read before'; 0 by the template 'total and deterministic' (their statements: YtocdafbkcdfgkaaTotals.lean).
  GIVEN WITH THE SEED: the statements are not yours to turn. If you find one false, say at which input.
  Laid BY PROGRAM, IN A SANDBOX (cutbox-rows.mjs): the forced cells as the released guide's own fill.sh prints them over the translation 8626061b8db34f9d… (all of the seat's roots in one cut). By AI agents, Wed Nov 11 2026. No macro, syntax, notation, axiom, sorry.
-/
import Derived.Test.YtocdafbkcdfgkaaChecked
import GoSem.Claim
import GoSem.ClaimJoined
import GoSem.ClaimMapViews
import Derived.JoinedTies
import Derived.KernelRfl
namespace Go.Proofs.Ytocdafbkcdfgkaa
/- THE CELL 'sum', in the pinned program and in every row, IS THE sha256 OF THE DUMP (.gsa) THAT YtocdafbkcdfgkaaProg.lean LOADS. Nothing in Lean hashes anything: it is a label: what it is worth is what the hold of that sum in a sandbox is worth. -/
noncomputable def Try.pinned : Pinned := { name := "ytocdafbkcdfgkaa", sum := "8626061b8db34f9d3047ec3be272f48bbd5990be6b24425be7173b6f6e93c20a", checked := Try.checked }
namespace Rows
def none {H : Type} : Left H := { results := [], args := [] }

/-- 'laws.FnExactConstants': WHATEVER THE INPUT: true; the input reads as it did. -/
def fnExactConstantsSpec : ChangeSpec := { name := "fnExactConstants", fn := fun _ => fun
  | [] => { results := [.lit (.bool true)], args := [] }
  | _ => none }
def fnExactConstantsRow : OpenClaim := { program := "ytocdafbkcdfgkaa", sum := "8626061b8db34f9d3047ec3be272f48bbd5990be6b24425be7173b6f6e93c20a", func := "loop.example/s01205/laws.FnExactConstants", spec := "fnExactConstants", apart := false }
def FnExactConstantsSaid : Prop := fnExactConstantsRow.holds Try.pinned (OpenSpec.ofChange fnExactConstantsSpec)

/-- ITS FALSE NEIGHBOUR: 'it returns false'. Refute it at one input. -/
def fnExactConstantsWrong : ChangeSpec := { name := "fnExactConstants", fn := fun _ => fun
  | [] => { results := [.lit (.bool false)], args := [] }
  | _ => none }
def FnExactConstantsWrongFalsely : Prop := fnExactConstantsRow.holds Try.pinned (OpenSpec.ofChange fnExactConstantsWrong)

/-- 'laws.FnExactCompareRat': WHATEVER THE INPUT: true; the input reads as it did. -/
def fnExactCompareRatSpec : ChangeSpec := { name := "fnExactCompareRat", fn := fun _ => fun
  | [d1, d2] => { results := [.lit (.bool true)], args := [d1, d2] }
  | _ => none }
def fnExactCompareRatRow : OpenClaim := { program := "ytocdafbkcdfgkaa", sum := "8626061b8db34f9d3047ec3be272f48bbd5990be6b24425be7173b6f6e93c20a", func := "loop.example/s01205/laws.FnExactCompareRat", spec := "fnExactCompareRat", recurses := true, apart := false }
def FnExactCompareRatSaid : Prop := fnExactCompareRatRow.holds Try.pinned (OpenSpec.ofChange fnExactCompareRatSpec)

/-- ITS FALSE NEIGHBOUR: 'it returns false'. Refute it at one input. -/
def fnExactCompareRatWrong : ChangeSpec := { name := "fnExactCompareRat", fn := fun _ => fun
  | [d1, d2] => { results := [.lit (.bool false)], args := [d1, d2] }
  | _ => none }
def FnExactCompareRatWrongFalsely : Prop := fnExactCompareRatRow.holds Try.pinned (OpenSpec.ofChange fnExactCompareRatWrong)

/-- 'laws.FnExactMakeRat': WHATEVER THE INPUT: true; the input reads as it did. -/
def fnExactMakeRatSpec : ChangeSpec := { name := "fnExactMakeRat", fn := fun _ => fun
  | [d1, d2] => { results := [.lit (.bool true)], args := [d1, d2] }
  | _ => none }
def fnExactMakeRatRow : OpenClaim := { program := "ytocdafbkcdfgkaa", sum := "8626061b8db34f9d3047ec3be272f48bbd5990be6b24425be7173b6f6e93c20a", func := "loop.example/s01205/laws.FnExactMakeRat", spec := "fnExactMakeRat", recurses := true, apart := false }
def FnExactMakeRatSaid : Prop := fnExactMakeRatRow.holds Try.pinned (OpenSpec.ofChange fnExactMakeRatSpec)

/-- ITS FALSE NEIGHBOUR: 'it returns false'. Refute it at one input. -/
def fnExactMakeRatWrong : ChangeSpec := { name := "fnExactMakeRat", fn := fun _ => fun
  | [d1, d2] => { results := [.lit (.bool false)], args := [d1, d2] }
  | _ => none }
def FnExactMakeRatWrongFalsely : Prop := fnExactMakeRatRow.holds Try.pinned (OpenSpec.ofChange fnExactMakeRatWrong)

/-- 'laws.FnExactAddRat': WHATEVER THE INPUT: true; the input reads as it did. -/
def fnExactAddRatSpec : ChangeSpec := { name := "fnExactAddRat", fn := fun _ => fun
  | [d1, d2] => { results := [.lit (.bool true)], args := [d1, d2] }
  | _ => none }
def fnExactAddRatRow : OpenClaim := { program := "ytocdafbkcdfgkaa", sum := "8626061b8db34f9d3047ec3be272f48bbd5990be6b24425be7173b6f6e93c20a", func := "loop.example/s01205/laws.FnExactAddRat", spec := "fnExactAddRat", recurses := true, apart := false }
def FnExactAddRatSaid : Prop := fnExactAddRatRow.holds Try.pinned (OpenSpec.ofChange fnExactAddRatSpec)

/-- ITS FALSE NEIGHBOUR: 'it returns false'. Refute it at one input. -/
def fnExactAddRatWrong : ChangeSpec := { name := "fnExactAddRat", fn := fun _ => fun
  | [d1, d2] => { results := [.lit (.bool false)], args := [d1, d2] }
  | _ => none }
def FnExactAddRatWrongFalsely : Prop := fnExactAddRatRow.holds Try.pinned (OpenSpec.ofChange fnExactAddRatWrong)

/- THE SECOND FORM. 'bulk': how many values and letters a reading holds, each counted each time it is reached (what is shared counts as often as it is met; a slice's spare places count too). A statement '..UptoSaid' is the law's where the arguments, and the package variables that the reading takes, are together of bulk at most 1048576: NARROWER than '..Said'. Prove '..Said' where nothing that the law and all that it calls make is longer than what came in: it says more and counts as full. Else prove '..UptoSaid'. A law counts once. -/
mutual
def uptoBulk {H : Type} : DataW H → Nat
  | .lit (.string bytes) => bytes.length + 1
  | .lit _ => 1
  | .nil => 1
  | .ptr d => uptoBulk d + 1
  | .slice elems spare => uptoBulkAll elems + uptoBulkAll spare + 1
  | .agg parts => uptoBulkAll parts + 1
  | .iface _ d => uptoBulk d + 1
  | .map entries => uptoBulkEntries entries + 1
  | .held _ => 1
def uptoBulkAll {H : Type} : List (DataW H) → Nat
  | [] => 0
  | d :: r => uptoBulk d + uptoBulkAll r
def uptoBulkEntries {H : Type} : List (Lit × DataW H) → Nat
  | [] => 0
  | x :: r => uptoBulkEntry x + uptoBulkEntries r
def uptoBulkEntry {H : Type} : Lit × DataW H → Nat
  | (.string bytes, d) => bytes.length + uptoBulk d + 1
  | (_, d) => uptoBulk d + 1
 end
def uptoSmall : (H : Type) → List (DataW H) → Bool := fun _ ds => decide (uptoBulkAll ds ≤ 1048576)
def OpenSpec.upto (s : _root_.Go.ChangeSpec) : _root_.Go.OpenSpec := { _root_.Go.OpenSpec.ofChange s with cond := some uptoSmall }

/-- 'laws.FnExactConstants', WHERE WHAT IT READS IS OF BULK AT MOST 1048576: true; the input reads as it did. -/
def fnExactConstantsUptoRow : OpenClaim := { program := "ytocdafbkcdfgkaa", sum := "8626061b8db34f9d3047ec3be272f48bbd5990be6b24425be7173b6f6e93c20a", func := "loop.example/s01205/laws.FnExactConstants", spec := "fnExactConstants", apart := false, narrowed := true }
def FnExactConstantsUptoSaid : Prop := fnExactConstantsUptoRow.holds Try.pinned (OpenSpec.upto fnExactConstantsSpec)

/-- 'laws.FnExactCompareRat', WHERE WHAT IT READS IS OF BULK AT MOST 1048576: true; the input reads as it did. -/
def fnExactCompareRatUptoRow : OpenClaim := { program := "ytocdafbkcdfgkaa", sum := "8626061b8db34f9d3047ec3be272f48bbd5990be6b24425be7173b6f6e93c20a", func := "loop.example/s01205/laws.FnExactCompareRat", spec := "fnExactCompareRat", recurses := true, apart := false, narrowed := true }
def FnExactCompareRatUptoSaid : Prop := fnExactCompareRatUptoRow.holds Try.pinned (OpenSpec.upto fnExactCompareRatSpec)

/-- 'laws.FnExactMakeRat', WHERE WHAT IT READS IS OF BULK AT MOST 1048576: true; the input reads as it did. -/
def fnExactMakeRatUptoRow : OpenClaim := { program := "ytocdafbkcdfgkaa", sum := "8626061b8db34f9d3047ec3be272f48bbd5990be6b24425be7173b6f6e93c20a", func := "loop.example/s01205/laws.FnExactMakeRat", spec := "fnExactMakeRat", recurses := true, apart := false, narrowed := true }
def FnExactMakeRatUptoSaid : Prop := fnExactMakeRatUptoRow.holds Try.pinned (OpenSpec.upto fnExactMakeRatSpec)

/-- 'laws.FnExactAddRat', WHERE WHAT IT READS IS OF BULK AT MOST 1048576: true; the input reads as it did. -/
def fnExactAddRatUptoRow : OpenClaim := { program := "ytocdafbkcdfgkaa", sum := "8626061b8db34f9d3047ec3be272f48bbd5990be6b24425be7173b6f6e93c20a", func := "loop.example/s01205/laws.FnExactAddRat", spec := "fnExactAddRat", recurses := true, apart := false, narrowed := true }
def FnExactAddRatUptoSaid : Prop := fnExactAddRatUptoRow.holds Try.pinned (OpenSpec.upto fnExactAddRatSpec)

end Rows
end Go.Proofs.Ytocdafbkcdfgkaa
