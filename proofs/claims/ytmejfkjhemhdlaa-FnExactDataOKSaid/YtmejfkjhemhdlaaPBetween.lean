/-
  Between two bounds; no condition.
-/
import Derived.Test.YtmejfkjhemhdlaaEv
import Derived.Test.YtmejfkjhemhdlaaJ4
namespace Go.Proofs.Ytmejfkjhemhdlaa.PT
set_option linter.unusedSimpArgs false
open Go.RowKit Go.Proofs.Ytmejfkjhemhdlaa.P Go.Proofs.YtmejfkjhemhdlaaW.PrintWords Go.Proofs.YtmejfkjhemhdlaaW.PrintLast Go.Proofs.Ytmejfkjhemhdlaa.EvKit

theorem between_v (a b c : Int) : spec_l1Between.f a b c = some (decide (b ≤ a ∧ a ≤ c)) := by
  unfold spec_l1Between.f
  by_cases h : b ≤ a
  · rw [if_pos h]; simp [h]
  · rw [if_neg h]; simp [h]
end Go.Proofs.Ytmejfkjhemhdlaa.PT
