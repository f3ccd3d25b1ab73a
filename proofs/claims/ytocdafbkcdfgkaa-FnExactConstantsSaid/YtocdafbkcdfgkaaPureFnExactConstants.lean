/-
  The law of the constants answers true; it takes no argument and there is no condition.
-/
import Derived.Test.YtocdafbkcdfgkaaPFnExactConstantsx1
namespace Go.Proofs.Ytocdafbkcdfgkaa.Pure
open Go.RowKit Go.Proofs.Ytocdafbkcdfgkaa.PFnExactConstants Go.Proofs.YtocdafbkcdfgkaaW.PrintWords Go.Proofs.YtocdafbkcdfgkaaW.PrintLast

theorem FnExactConstants : laws_FnExactConstants.Pure := rfl

end Go.Proofs.Ytocdafbkcdfgkaa.Pure
