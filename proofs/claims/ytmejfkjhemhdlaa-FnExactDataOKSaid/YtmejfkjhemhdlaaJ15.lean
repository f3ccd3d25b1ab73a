import Derived.Test.YtmejfkjhemhdlaaJ1
import Derived.Test.YtmejfkjhemhdlaaExtDataOK
-- Ytmejfkjhemhdlaa: a text by a program of this session (wip/pall.py) out of the translation
namespace Go.Proofs.Ytmejfkjhemhdlaa.P
open Go.RowKit Go.Proofs.YtmejfkjhemhdlaaW.PrintWords Go.Proofs.YtmejfkjhemhdlaaW.PrintLast Go.Proofs.YtmejfkjhemhdlaaW.PrintMore
attribute [local go_sem] max2_int min2_int max_two min_two max_three min_three max_four min_four   -- for this text's walks alone
set_option linter.unusedVariables false
set_option linter.unusedSimpArgs false

/-! ### impl_DataOK: function 7 -/
def impl_DataOK.f (k : Nat) (l0_0 : List (S37)) : Option (Bool) :=
  dataOKf k l0_0
theorem impl_DataOK.mono : ∀ a0 k, LeO (impl_DataOK.f k a0) (impl_DataOK.f (k + 1) a0) := by
  intro a0 k
  exact dataOKf_mono k a0
theorem impl_DataOK.calls (k : Nat) (A0_0 : Option Addr) (c0_0 : Nat) (l0_0 : List (S37)) (r : Bool) (w : World) (hr0_0 : Kd.C k37 w A0_0 l0_0.length l0_0) (hc0_0 : l0_0.length ≤ c0_0) (h : impl_DataOK.f k l0_0 = some r) :
    Calls Try.prog 7 #[.agg #[.slice A0_0 l0_0.length c0_0]] w fun e w' => e = .returned (.bool r) ∧ Below w.heap.size w w' := by
  exact dataOK_walk k A0_0 c0_0 l0_0 r w hr0_0 hc0_0 h
end Go.Proofs.Ytmejfkjhemhdlaa.P
