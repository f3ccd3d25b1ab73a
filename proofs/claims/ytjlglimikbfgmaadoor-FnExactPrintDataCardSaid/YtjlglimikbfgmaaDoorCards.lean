/-
  DERIVED. GIVEN WITH THE SEED: THE CARDS: each row of YtjlglimikbfgmaaDoorRows.lean that lists a variable, with what it lists TIED to the program's text (the seventh form; the later family's looks); each row that meets fmt, with fmt's text TOLD by the authors' own Lean function (tested against real Go, not proved from fmt's source: count such statements apart). THE CARD IS WHAT COUNTS. Prove the row's statement (the work); the ties are given (YtjlglimikbfgmaaDoorTie.lean); close each card by the builder's one call (the guide's Derived/Test/ToyasCard.lean, 'card_holds'). Laid BY PROGRAM, IN A SANDBOX (cutbox-door.mjs). By AI agents, Wed Nov 11 2026. No macro, syntax, notation, axiom, sorry.
-/
import Derived.Test.YtjlglimikbfgmaaDoorRows
import GoSem.ClaimSeven
namespace Go.Proofs.YtjlglimikbfgmaaDoor
namespace Rows

/-- THE TIED CARD OF 'laws.FnExactPrintData'. -/
def fnExactPrintDataCard : Claim7 := { stood := { row := fnExactPrintDataRow, standIns := [], harness := (true, "9f410d6141dfeaa45840800688d8d14ca80d9a63b2460f0ef54f6cb0b6284601"), looks := true }, kinds := [], alts := [], laidByText := true, laidKinds := [.data, .data, .data], laidTests := true, laidLooks := .later }
def FnExactPrintDataCardSaid : Prop := Claim7.holds Tryd.pinned (.plain (OpenSpec.ofChange fnExactPrintDataSpec)) fnExactPrintDataCard

/-- THE TIED CARD OF 'laws.FnExactPrintQuery'. -/
def fnExactPrintQueryCard : Claim7 := { stood := { row := fnExactPrintQueryRow, standIns := [], harness := (true, "9f410d6141dfeaa45840800688d8d14ca80d9a63b2460f0ef54f6cb0b6284601"), looks := true }, kinds := [], alts := [], laidByText := true, laidKinds := [.data, .data, .data, .widerDeep], laidTests := true, laidLooks := .later }
def FnExactPrintQueryCardSaid : Prop := Claim7.holds Tryd.pinned (.plain (OpenSpec.ofChange fnExactPrintQuerySpec)) fnExactPrintQueryCard

/-- THE TIED CARD OF 'laws.FnExactParseQuery'. -/
def fnExactParseQueryCard : Claim7 := { stood := { row := fnExactParseQueryRow, standIns := [], harness := (true, "9f410d6141dfeaa45840800688d8d14ca80d9a63b2460f0ef54f6cb0b6284601"), looks := true }, kinds := [], alts := [], laidByText := true, laidKinds := [.handle, .sentinel, .sentinel, .sentinel, .widerDeep], laidTests := true, laidLooks := .later }
def FnExactParseQueryCardSaid : Prop := Claim7.holds Tryd.pinned (.plain (OpenSpec.ofChange fnExactParseQuerySpec)) fnExactParseQueryCard

/-- THE SECOND FORM's CARD OF 'laws.FnExactPrintData'. -/
def fnExactPrintDataUptoCard : Claim7 := { stood := { row := fnExactPrintDataUptoRow, standIns := [], harness := (true, "9f410d6141dfeaa45840800688d8d14ca80d9a63b2460f0ef54f6cb0b6284601"), looks := true }, kinds := [], alts := [], laidByText := true, laidKinds := [.data, .data, .data], laidTests := true, laidLooks := .later }
def FnExactPrintDataUptoCardSaid : Prop := Claim7.holds Tryd.pinned (.plain (OpenSpec.upto fnExactPrintDataSpec)) fnExactPrintDataUptoCard

/-- THE SECOND FORM's CARD OF 'laws.FnExactPrintQuery'. -/
def fnExactPrintQueryUptoCard : Claim7 := { stood := { row := fnExactPrintQueryUptoRow, standIns := [], harness := (true, "9f410d6141dfeaa45840800688d8d14ca80d9a63b2460f0ef54f6cb0b6284601"), looks := true }, kinds := [], alts := [], laidByText := true, laidKinds := [.data, .data, .data, .widerDeep], laidTests := true, laidLooks := .later }
def FnExactPrintQueryUptoCardSaid : Prop := Claim7.holds Tryd.pinned (.plain (OpenSpec.upto fnExactPrintQuerySpec)) fnExactPrintQueryUptoCard

/-- THE SECOND FORM's CARD OF 'laws.FnExactParseQuery'. -/
def fnExactParseQueryUptoCard : Claim7 := { stood := { row := fnExactParseQueryUptoRow, standIns := [], harness := (true, "9f410d6141dfeaa45840800688d8d14ca80d9a63b2460f0ef54f6cb0b6284601"), looks := true }, kinds := [], alts := [], laidByText := true, laidKinds := [.handle, .sentinel, .sentinel, .sentinel, .widerDeep], laidTests := true, laidLooks := .later }
def FnExactParseQueryUptoCardSaid : Prop := Claim7.holds Tryd.pinned (.plain (OpenSpec.upto fnExactParseQuerySpec)) fnExactParseQueryUptoCard
end Rows
end Go.Proofs.YtjlglimikbfgmaaDoor
