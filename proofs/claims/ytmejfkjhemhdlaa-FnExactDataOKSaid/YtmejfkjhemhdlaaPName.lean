/-
  What both ask of a name; no condition.
-/
import Derived.Test.YtmejfkjhemhdlaaEv
import Derived.Test.YtmejfkjhemhdlaaJ1
import Derived.Test.YtmejfkjhemhdlaaJ2
namespace Go.Proofs.Ytmejfkjhemhdlaa.PT
set_option linter.unusedSimpArgs false
open Go.RowKit Go.Proofs.Ytmejfkjhemhdlaa.P Go.Proofs.YtmejfkjhemhdlaaW.PrintWords Go.Proofs.YtmejfkjhemhdlaaW.PrintLast Go.Proofs.Ytmejfkjhemhdlaa.EvKit

def letter (a : Int) : Bool := decide ((65 ≤ a ∧ a ≤ 90) ∨ (97 ≤ a ∧ a ≤ 122))
def inNm (a : Int) : Bool := letter a || decide (48 ≤ a ∧ a ≤ 57) || decide (a = 95)
theorem isLetter_v (a : Int) : impl_isLetter.f a = some (letter a) := by
  unfold impl_isLetter.f letter
  repeat' split
  all_goals (refine congrArg some ?_; rw [Bool.eq_iff_iff]; simp only [decide_eq_true_eq, Bool.false_eq_true, true_iff, false_iff]; omega)
theorem l2Letter_v (a : Int) : spec_l2Letter.f a = some (letter a) := by
  unfold spec_l2Letter.f letter
  repeat' split
  all_goals (refine congrArg some ?_; rw [Bool.eq_iff_iff]; simp only [decide_eq_true_eq, Bool.false_eq_true, true_iff, false_iff]; omega)
theorem isDigit_v (a : Int) : impl_isDigit.f a = some (decide (48 ≤ a ∧ a ≤ 57)) := by
  unfold impl_isDigit.f
  repeat' split
  all_goals (refine congrArg some ?_; rw [Bool.eq_iff_iff]; simp only [decide_eq_true_eq, Bool.false_eq_true, true_iff, false_iff]; omega)
theorem l2Digit_v (a : Int) : spec_l2Digit.f a = some (decide (48 ≤ a ∧ a ≤ 57)) := by
  unfold spec_l2Digit.f
  repeat' split
  all_goals (refine congrArg some ?_; rw [Bool.eq_iff_iff]; simp only [decide_eq_true_eq, Bool.false_eq_true, true_iff, false_iff]; omega)
theorem inName_v (a : Int) : impl_inName.f a = some (inNm a) := by
  unfold impl_inName.f inNm
  rw [isLetter_v, Option.bind_some]
  cases h : letter a with
  | true => simp
  | false =>
    simp only [Bool.false_eq_true, if_false, isDigit_v, Option.bind_some, Bool.false_or]
    by_cases h2 : 48 ≤ a ∧ a ≤ 57
    · simp [h2]
    · simp only [h2, decide_false, Bool.false_eq_true, if_false, Bool.false_or]
      rfl

/-- A name: 1 to 30 bytes, a letter first, then letters, digits and underscores. -/
def nameb (s : ByteArray) : Bool := decide (1 ≤ s.size) && decide (s.size ≤ 30) && letter (bt s 0) && (List.range s.size).all (fun i => inNm (bt s (i : Int)))
theorem isName_ev (s : ByteArray) : Ev (fun k => impl_isName.f k s) (nameb s) := by
  unfold impl_isName.f nameb
  have hj : Ev (fun k => impl_isName.j0 k s true) false := Ev.succ (by simp only [impl_isName.j0, if_true]; exact Ev.now _)
  by_cases h0 : s.size = 0
  · refine Ev.to (Ev.pos ((toList_nil s).2 h0) hj) ?_
    simp [h0]
  refine Ev.neg (fun e => h0 ((toList_nil s).1 e)) ?_
  by_cases h1 : s.size ≤ 30
  · refine Ev.neg (by omega) (Ev.pos (by omega) (Ev.val (isLetter_v _) ?_))
    simp only [show 1 ≤ s.size by omega, h1, decide_true, Bool.true_and]
    cases hl : letter (bt s 0) with
    | false => exact hj
    | true =>
      refine Ev.succ ?_
      simp only [impl_isName.j0, Bool.not_true, Bool.false_eq_true, if_false, Bool.true_and]
      refine Ev.to (Ev.all (List.range s.size) (fun i => inNm (bt s (i : Int))) (g := fun k i => impl_isName.l0 k s (s.size : Int) (i : Int)) (R := true) (fun _ => ?_) ?_ ?_) (by simp)
      · refine Ev.succ ?_
        simp only [impl_isName.l0, List.length_range]
        exact Ev.neg (by omega) (Ev.now _)
      · intro i h hp R' ih
        simp only [List.length_range] at h
        simp only [List.getElem_range] at hp
        refine Ev.succ ?_
        simp only [impl_isName.l0, w64n (show i ≤ 9223372036854775806 by omega)]
        exact Ev.pos (by omega) (Ev.pos (by omega) (Ev.pos (by omega) (Ev.val (inName_v _) (Ev.pos hp ih))))
      · intro i h hp
        simp only [List.length_range] at h
        simp only [List.getElem_range] at hp
        refine Ev.succ ?_
        simp only [impl_isName.l0]
        exact Ev.pos (by omega) (Ev.pos (by omega) (Ev.pos (by omega) (Ev.val (inName_v _) (Ev.neg (by simp [hp]) (Ev.now _)))))
  · refine Ev.to (Ev.pos (by omega) hj) ?_
    simp [h1]
theorem l2Name_ev (s : ByteArray) : Ev (fun k => spec_l2Name.f k s) (nameb s) := by
  unfold spec_l2Name.f nameb
  have hj : Ev (fun k => spec_l2Name.j0 k s true) false := Ev.succ (by simp only [spec_l2Name.j0, if_true]; exact Ev.now _)
  by_cases h0 : s.size = 0
  · refine Ev.to (Ev.pos (by omega) hj) ?_
    simp [h0]
  refine Ev.neg (by omega) ?_
  by_cases h1 : s.size ≤ 30
  · refine Ev.neg (by omega) (Ev.pos (by omega) (Ev.val (l2Letter_v _) ?_))
    simp only [show 1 ≤ s.size by omega, h1, decide_true, Bool.true_and]
    cases hl : letter (bt s 0) with
    | false => exact hj
    | true =>
      refine Ev.succ ?_
      simp only [spec_l2Name.j0, Bool.not_true, Bool.false_eq_true, if_false, Bool.true_and]
      refine Ev.to (Ev.all (List.range s.size) (fun i => inNm (bt s (i : Int))) (g := fun k i => spec_l2Name.l0 k s (i : Int)) (R := true) (fun _ => ?_) ?_ ?_) (by simp)
      · refine Ev.succ ?_
        simp only [spec_l2Name.l0, List.length_range]
        exact Ev.neg (by omega) (Ev.now _)
      · intro i h hp R' ih
        simp only [List.length_range] at h
        simp only [List.getElem_range] at hp
        refine Ev.succ ?_
        simp only [spec_l2Name.l0, w64n (show i ≤ 9223372036854775806 by omega)]
        refine Ev.pos (by omega) (Ev.pos (by omega) (Ev.val (l2Letter_v _) ?_))
        unfold inNm at hp
        cases hL : letter (bt s (i : Int)) with
        | true => exact Ev.pos rfl ih
        | false =>
          refine Ev.neg (by simp) (Ev.val (l2Digit_v _) ?_)
          rw [hL, Bool.false_or, Bool.or_eq_true, decide_eq_true_eq] at hp
          by_cases hd : 48 ≤ bt s (i : Int) ∧ bt s (i : Int) ≤ 57
          · exact Ev.pos (by simp [hd]) ih
          · exact Ev.neg (by simp only [decide_eq_true_eq]; exact hd) (Ev.pos (by rcases hp with hp | hp; exact absurd hp hd; exact of_decide_eq_true hp) ih)
      · intro i h hp
        simp only [List.length_range] at h
        simp only [List.getElem_range] at hp
        unfold inNm at hp
        rw [Bool.or_eq_false_iff, Bool.or_eq_false_iff] at hp
        refine Ev.succ ?_
        simp only [spec_l2Name.l0]
        exact Ev.pos (by omega) (Ev.pos (by omega) (Ev.val (l2Letter_v _) (Ev.neg (by simp [hp.1.1]) (Ev.val (l2Digit_v _) (Ev.neg (by rw [hp.1.2]; simp) (Ev.neg (of_decide_eq_false hp.2) (Ev.now _)))))))
  · refine Ev.to (Ev.pos (by omega) hj) ?_
    simp [h1]
end Go.Proofs.Ytmejfkjhemhdlaa.PT
