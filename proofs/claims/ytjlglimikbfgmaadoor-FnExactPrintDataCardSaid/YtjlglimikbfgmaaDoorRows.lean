/-
  NARROWER THAN 'FOR EVERY INPUT', by the rows' own cells (each row's printed sentence says how): FnExactPrintData: laid · FnExactPrintQuery: laid · FnExactParseQuery: ifaces, laid.
  DERIVED. THE GIVEN ROWS OF THIS SEAT. 3 by the template 'for every input the law returns true; each argument reads behind the call as it read before'; 0 by the template 'total and deterministic' (their statements: YtjlglimikbfgmaaDoorTotals.lean).
  GIVEN WITH THE SEED: the statements are not yours to turn. If you find one false, say at which input.
  Laid BY PROGRAM, IN A SANDBOX (cutbox-rows.mjs): the forced cells as the released guide's own fill.sh prints them over the translation 2ee903ffd5885a01… (all of the seat's roots in one cut). By AI agents, Wed Nov 11 2026. No macro, syntax, notation, axiom, sorry.
-/
import Derived.Test.YtjlglimikbfgmaaDoorChecked
import GoSem.Claim
import GoSem.ClaimJoined
import GoSem.ClaimMapViews
import Derived.JoinedTies
import Derived.KernelRfl
namespace Go.Proofs.YtjlglimikbfgmaaDoor
/- THE CELL 'sum', in the pinned program and in every row, IS THE sha256 OF THE DUMP (.gsa) THAT YtjlglimikbfgmaaDoorProg.lean LOADS. Nothing in Lean hashes anything: it is a label: what it is worth is what the hold of that sum in a sandbox is worth. -/
noncomputable def Tryd.pinned : Pinned := { name := "ytjlglimikbfgmaadoor", sum := "2ee903ffd5885a01cd51b9f743fc74b1a74a0ef0969464b317d93324060ceec6", checked := Tryd.checked }
namespace Rows
def none {H : Type} : Left H := { results := [], args := [] }

/- WHAT THE LISTED PACKAGE-LEVEL VARIABLES READ AS WHEN THE CALL BEGINS. Each datum BY PROGRAM (the guide's laid-datum.mjs) off the statement by which the dump's own 'gosem.cut.vars' lays the variable. In a bare row this is a premise. The card (YtjlglimikbfgmaaDoorCards.lean) ties it to the program's text. -/
def laid_math_bits_deBruijn32tab {H : Type} : DataW H := .agg [.lit (.int .u8 0), .lit (.int .u8 1), .lit (.int .u8 28), .lit (.int .u8 2), .lit (.int .u8 29), .lit (.int .u8 14), .lit (.int .u8 24), .lit (.int .u8 3), .lit (.int .u8 30), .lit (.int .u8 22), .lit (.int .u8 20), .lit (.int .u8 15), .lit (.int .u8 25), .lit (.int .u8 17), .lit (.int .u8 4), .lit (.int .u8 8), .lit (.int .u8 31), .lit (.int .u8 27), .lit (.int .u8 13), .lit (.int .u8 23), .lit (.int .u8 21), .lit (.int .u8 19), .lit (.int .u8 16), .lit (.int .u8 7), .lit (.int .u8 26), .lit (.int .u8 12), .lit (.int .u8 18), .lit (.int .u8 6), .lit (.int .u8 11), .lit (.int .u8 5), .lit (.int .u8 10), .lit (.int .u8 9)]
def laid_math_bits_deBruijn64tab {H : Type} : DataW H := .agg [.lit (.int .u8 0), .lit (.int .u8 1), .lit (.int .u8 56), .lit (.int .u8 2), .lit (.int .u8 57), .lit (.int .u8 49), .lit (.int .u8 28), .lit (.int .u8 3), .lit (.int .u8 61), .lit (.int .u8 58), .lit (.int .u8 42), .lit (.int .u8 50), .lit (.int .u8 38), .lit (.int .u8 29), .lit (.int .u8 17), .lit (.int .u8 4), .lit (.int .u8 62), .lit (.int .u8 47), .lit (.int .u8 59), .lit (.int .u8 36), .lit (.int .u8 45), .lit (.int .u8 43), .lit (.int .u8 51), .lit (.int .u8 22), .lit (.int .u8 53), .lit (.int .u8 39), .lit (.int .u8 33), .lit (.int .u8 30), .lit (.int .u8 24), .lit (.int .u8 18), .lit (.int .u8 12), .lit (.int .u8 5), .lit (.int .u8 63), .lit (.int .u8 55), .lit (.int .u8 48), .lit (.int .u8 27), .lit (.int .u8 60), .lit (.int .u8 41), .lit (.int .u8 37), .lit (.int .u8 16), .lit (.int .u8 46), .lit (.int .u8 35), .lit (.int .u8 44), .lit (.int .u8 21), .lit (.int .u8 52), .lit (.int .u8 32), .lit (.int .u8 23), .lit (.int .u8 11), .lit (.int .u8 54), .lit (.int .u8 26), .lit (.int .u8 40), .lit (.int .u8 15), .lit (.int .u8 34), .lit (.int .u8 20), .lit (.int .u8 31), .lit (.int .u8 10), .lit (.int .u8 25), .lit (.int .u8 14), .lit (.int .u8 19), .lit (.int .u8 9), .lit (.int .u8 13), .lit (.int .u8 8), .lit (.int .u8 7), .lit (.int .u8 6)]
def laid_internal_strconv_uint64pow10 {H : Type} : DataW H := .agg [.lit (.int .u64 1), .lit (.int .u64 10), .lit (.int .u64 100), .lit (.int .u64 1000), .lit (.int .u64 10000), .lit (.int .u64 100000), .lit (.int .u64 1000000), .lit (.int .u64 10000000), .lit (.int .u64 100000000), .lit (.int .u64 1000000000), .lit (.int .u64 10000000000), .lit (.int .u64 100000000000), .lit (.int .u64 1000000000000), .lit (.int .u64 10000000000000), .lit (.int .u64 100000000000000), .lit (.int .u64 1000000000000000), .lit (.int .u64 10000000000000000), .lit (.int .u64 100000000000000000), .lit (.int .u64 1000000000000000000), .lit (.int .u64 10000000000000000000)]
def laid_loop_example_s01205_impl_ringWords {H : Type} : DataW H := .agg [.lit (.string []), .lit (.string [99, 111, 117, 110, 116]), .lit (.string [115, 117, 109]), .lit (.string [109, 105, 110])]
def laid_errors_errorType {H : Type} : DataW H := .iface "internal/reflectlite.rtype" (.agg [.ptr (.lit (.string [101, 114, 114, 111, 114]))])
def laid_loop_example_s01205_impl_errLong {H : Type} : DataW H := .iface "*errors.errorString" (.ptr (.agg [.lit (.string [116, 104, 101, 32, 113, 117, 101, 114, 121, 32, 105, 115, 32, 116, 111, 111, 32, 108, 111, 110, 103])]))
def laid_loop_example_s01205_impl_errLex {H : Type} : DataW H := .iface "*errors.errorString" (.ptr (.agg [.lit (.string [110, 111, 32, 116, 111, 107, 101, 110, 32, 98, 101, 103, 105, 110, 115, 32, 104, 101, 114, 101])]))
def laid_loop_example_s01205_impl_errSyntax {H : Type} : DataW H := .iface "*errors.errorString" (.ptr (.agg [.lit (.string [110, 111, 32, 113, 117, 101, 114, 121, 32, 103, 111, 101, 115, 32, 111, 110, 32, 108, 105, 107, 101, 32, 116, 104, 105, 115])]))

/-- 'laws.FnExactPrintData': WHATEVER THE INPUT: true; the input reads as it did. -/
def fnExactPrintDataSpec : ChangeSpec := { name := "fnExactPrintData", fn := fun _ => fun
  | [d] => { results := [.lit (.bool true)], args := [d] }
  | _ => none }
def fnExactPrintDataRow : OpenClaim := { program := "ytjlglimikbfgmaadoor", sum := "2ee903ffd5885a01cd51b9f743fc74b1a74a0ef0969464b317d93324060ceec6", func := "loop.example/s01205/laws.FnExactPrintData", spec := "fnExactPrintData", inPlace := ["internal/abi.NoEscape"], recurses := true, named := ["internal/strconv.uint64pow10", "math/bits.deBruijn32tab", "math/bits.deBruijn64tab"], apart := false, laid := [("math/bits.deBruijn32tab", laid_math_bits_deBruijn32tab), ("math/bits.deBruijn64tab", laid_math_bits_deBruijn64tab), ("internal/strconv.uint64pow10", laid_internal_strconv_uint64pow10)] }
def FnExactPrintDataSaid : Prop := fnExactPrintDataRow.holds Tryd.pinned (OpenSpec.ofChange fnExactPrintDataSpec)

/-- ITS FALSE NEIGHBOUR: 'it returns false'. Refute it at one input. -/
def fnExactPrintDataWrong : ChangeSpec := { name := "fnExactPrintData", fn := fun _ => fun
  | [d] => { results := [.lit (.bool false)], args := [d] }
  | _ => none }
def FnExactPrintDataWrongFalsely : Prop := fnExactPrintDataRow.holds Tryd.pinned (OpenSpec.ofChange fnExactPrintDataWrong)

/-- 'laws.FnExactPrintQuery': WHATEVER THE INPUT: true; the input reads as it did. -/
def fnExactPrintQuerySpec : ChangeSpec := { name := "fnExactPrintQuery", vars := ["loop.example/s01205/impl.ringWords"], fn := fun _ => fun
  | [d, g1] => { results := [.lit (.bool true)], args := [d], vars := [g1] }
  | _ => none }
def fnExactPrintQueryRow : OpenClaim := { program := "ytjlglimikbfgmaadoor", sum := "2ee903ffd5885a01cd51b9f743fc74b1a74a0ef0969464b317d93324060ceec6", func := "loop.example/s01205/laws.FnExactPrintQuery", spec := "fnExactPrintQuery", inPlace := ["internal/abi.NoEscape", "internal/bytealg.MakeNoZero"], unfollowed := true, recurses := true, named := ["loop.example/s01205/impl.ringWords", "internal/strconv.uint64pow10", "math/bits.deBruijn32tab", "math/bits.deBruijn64tab"], apart := false, laid := [("math/bits.deBruijn32tab", laid_math_bits_deBruijn32tab), ("math/bits.deBruijn64tab", laid_math_bits_deBruijn64tab), ("internal/strconv.uint64pow10", laid_internal_strconv_uint64pow10), ("loop.example/s01205/impl.ringWords", laid_loop_example_s01205_impl_ringWords)] }
def FnExactPrintQuerySaid : Prop := fnExactPrintQueryRow.holds Tryd.pinned (OpenSpec.ofChange fnExactPrintQuerySpec)

/-- ITS FALSE NEIGHBOUR: 'it returns false'. Refute it at one input. -/
def fnExactPrintQueryWrong : ChangeSpec := { name := "fnExactPrintQuery", vars := ["loop.example/s01205/impl.ringWords"], fn := fun _ => fun
  | [d, g1] => { results := [.lit (.bool false)], args := [d], vars := [g1] }
  | _ => none }
def FnExactPrintQueryWrongFalsely : Prop := fnExactPrintQueryRow.holds Tryd.pinned (OpenSpec.ofChange fnExactPrintQueryWrong)

/-- 'laws.FnExactParseQuery': WHATEVER THE INPUT: true; the input reads as it did. -/
def fnExactParseQuerySpec : ChangeSpec := { name := "fnExactParseQuery", vars := ["loop.example/s01205/impl.errLong", "loop.example/s01205/impl.errLex", "loop.example/s01205/impl.ringWords", "loop.example/s01205/impl.errSyntax"], fn := fun _ => fun
  | [d, g1, g2, g3, g4] => { results := [.lit (.bool true)], args := [d], vars := [g1, g2, g3, g4] }
  | _ => none }
def fnExactParseQueryRow : OpenClaim := { program := "ytjlglimikbfgmaadoor", sum := "2ee903ffd5885a01cd51b9f743fc74b1a74a0ef0969464b317d93324060ceec6", func := "loop.example/s01205/laws.FnExactParseQuery", spec := "fnExactParseQuery", inPlace := ["internal/bytealg.IndexByteString", "internal/reflectlite.TypeOf", "internal/reflectlite.ValueOf", "(internal/reflectlite.Value).Type", "(internal/reflectlite.Value).IsNil", "(internal/reflectlite.Value).Elem", "(internal/reflectlite.Value).Set"], unfollowed := true, recurses := true, named := ["loop.example/s01205/impl.errLong", "loop.example/s01205/impl.errLex", "loop.example/s01205/impl.ringWords", "loop.example/s01205/impl.errSyntax", "errors.errorType"], ifaces := true, apart := false, laid := [("errors.errorType", laid_errors_errorType), ("loop.example/s01205/impl.errLong", laid_loop_example_s01205_impl_errLong), ("loop.example/s01205/impl.errLex", laid_loop_example_s01205_impl_errLex), ("loop.example/s01205/impl.errSyntax", laid_loop_example_s01205_impl_errSyntax), ("loop.example/s01205/impl.ringWords", laid_loop_example_s01205_impl_ringWords)] }
def FnExactParseQuerySaid : Prop := fnExactParseQueryRow.holds Tryd.pinned (OpenSpec.ofChange fnExactParseQuerySpec)

/-- ITS FALSE NEIGHBOUR: 'it returns false'. Refute it at one input. -/
def fnExactParseQueryWrong : ChangeSpec := { name := "fnExactParseQuery", vars := ["loop.example/s01205/impl.errLong", "loop.example/s01205/impl.errLex", "loop.example/s01205/impl.ringWords", "loop.example/s01205/impl.errSyntax"], fn := fun _ => fun
  | [d, g1, g2, g3, g4] => { results := [.lit (.bool false)], args := [d], vars := [g1, g2, g3, g4] }
  | _ => none }
def FnExactParseQueryWrongFalsely : Prop := fnExactParseQueryRow.holds Tryd.pinned (OpenSpec.ofChange fnExactParseQueryWrong)

/- THE SECOND FORM. 'bulk': how many values and letters a reading holds, each counted each time it is reached (what is shared counts as often as it is met; a slice's spare places count too). A statement '..UptoSaid' is the law's where the arguments, and the package variables that the reading takes, are together of bulk at most 1048576: NARROWER than '..Said'. Prove '..Said' where nothing that the law and all that it calls make is longer than what came in: it says more and counts as full. Else prove '..UptoSaid'. A law counts once. -/
mutual
def uptoBulk {H : Type} : DataW H → Nat
  | .lit (.string bytes) => bytes.length + 1
  | .lit _ => 1
  | .nil => 1
  | .ptr d => uptoBulk d + 1
  | .slice elems spare => uptoBulkAll elems + uptoBulkAll spare + 1
  | .agg parts => uptoBulkAll parts + 1
  | .iface _ d => uptoBulk d + 1
  | .map entries => uptoBulkEntries entries + 1
  | .held _ => 1
def uptoBulkAll {H : Type} : List (DataW H) → Nat
  | [] => 0
  | d :: r => uptoBulk d + uptoBulkAll r
def uptoBulkEntries {H : Type} : List (Lit × DataW H) → Nat
  | [] => 0
  | x :: r => uptoBulkEntry x + uptoBulkEntries r
def uptoBulkEntry {H : Type} : Lit × DataW H → Nat
  | (.string bytes, d) => bytes.length + uptoBulk d + 1
  | (_, d) => uptoBulk d + 1
 end
def uptoSmall : (H : Type) → List (DataW H) → Bool := fun _ ds => decide (uptoBulkAll ds ≤ 1048576)
def OpenSpec.upto (s : _root_.Go.ChangeSpec) : _root_.Go.OpenSpec := { _root_.Go.OpenSpec.ofChange s with cond := some uptoSmall }

/-- 'laws.FnExactPrintData', WHERE WHAT IT READS IS OF BULK AT MOST 1048576: true; the input reads as it did. -/
def fnExactPrintDataUptoRow : OpenClaim := { program := "ytjlglimikbfgmaadoor", sum := "2ee903ffd5885a01cd51b9f743fc74b1a74a0ef0969464b317d93324060ceec6", func := "loop.example/s01205/laws.FnExactPrintData", spec := "fnExactPrintData", inPlace := ["internal/abi.NoEscape"], recurses := true, named := ["internal/strconv.uint64pow10", "math/bits.deBruijn32tab", "math/bits.deBruijn64tab"], apart := false, laid := [("math/bits.deBruijn32tab", laid_math_bits_deBruijn32tab), ("math/bits.deBruijn64tab", laid_math_bits_deBruijn64tab), ("internal/strconv.uint64pow10", laid_internal_strconv_uint64pow10)], narrowed := true }
def FnExactPrintDataUptoSaid : Prop := fnExactPrintDataUptoRow.holds Tryd.pinned (OpenSpec.upto fnExactPrintDataSpec)

/-- 'laws.FnExactPrintQuery', WHERE WHAT IT READS IS OF BULK AT MOST 1048576: true; the input reads as it did. -/
def fnExactPrintQueryUptoRow : OpenClaim := { program := "ytjlglimikbfgmaadoor", sum := "2ee903ffd5885a01cd51b9f743fc74b1a74a0ef0969464b317d93324060ceec6", func := "loop.example/s01205/laws.FnExactPrintQuery", spec := "fnExactPrintQuery", inPlace := ["internal/abi.NoEscape", "internal/bytealg.MakeNoZero"], unfollowed := true, recurses := true, named := ["loop.example/s01205/impl.ringWords", "internal/strconv.uint64pow10", "math/bits.deBruijn32tab", "math/bits.deBruijn64tab"], apart := false, laid := [("math/bits.deBruijn32tab", laid_math_bits_deBruijn32tab), ("math/bits.deBruijn64tab", laid_math_bits_deBruijn64tab), ("internal/strconv.uint64pow10", laid_internal_strconv_uint64pow10), ("loop.example/s01205/impl.ringWords", laid_loop_example_s01205_impl_ringWords)], narrowed := true }
def FnExactPrintQueryUptoSaid : Prop := fnExactPrintQueryUptoRow.holds Tryd.pinned (OpenSpec.upto fnExactPrintQuerySpec)

/-- 'laws.FnExactParseQuery', WHERE WHAT IT READS IS OF BULK AT MOST 1048576: true; the input reads as it did. -/
def fnExactParseQueryUptoRow : OpenClaim := { program := "ytjlglimikbfgmaadoor", sum := "2ee903ffd5885a01cd51b9f743fc74b1a74a0ef0969464b317d93324060ceec6", func := "loop.example/s01205/laws.FnExactParseQuery", spec := "fnExactParseQuery", inPlace := ["internal/bytealg.IndexByteString", "internal/reflectlite.TypeOf", "internal/reflectlite.ValueOf", "(internal/reflectlite.Value).Type", "(internal/reflectlite.Value).IsNil", "(internal/reflectlite.Value).Elem", "(internal/reflectlite.Value).Set"], unfollowed := true, recurses := true, named := ["loop.example/s01205/impl.errLong", "loop.example/s01205/impl.errLex", "loop.example/s01205/impl.ringWords", "loop.example/s01205/impl.errSyntax", "errors.errorType"], ifaces := true, apart := false, laid := [("errors.errorType", laid_errors_errorType), ("loop.example/s01205/impl.errLong", laid_loop_example_s01205_impl_errLong), ("loop.example/s01205/impl.errLex", laid_loop_example_s01205_impl_errLex), ("loop.example/s01205/impl.errSyntax", laid_loop_example_s01205_impl_errSyntax), ("loop.example/s01205/impl.ringWords", laid_loop_example_s01205_impl_ringWords)], narrowed := true }
def FnExactParseQueryUptoSaid : Prop := fnExactParseQueryUptoRow.holds Tryd.pinned (OpenSpec.upto fnExactParseQuerySpec)

end Rows
end Go.Proofs.YtjlglimikbfgmaaDoor
