/-
  What both ask of rows; no condition.
-/
import Derived.Test.YtmejfkjhemhdlaaEv
import Derived.Test.YtmejfkjhemhdlaaJ3
import Derived.Test.YtmejfkjhemhdlaaJ4
namespace Go.Proofs.Ytmejfkjhemhdlaa.PT
set_option linter.unusedSimpArgs false
open Go.RowKit Go.Proofs.Ytmejfkjhemhdlaa.P Go.Proofs.YtmejfkjhemhdlaaW.PrintWords Go.Proofs.YtmejfkjhemhdlaaW.PrintLast Go.Proofs.Ytmejfkjhemhdlaa.EvKit

/-- -1, 0, 1: which comes first. -/
def cmpL : List Int → List Int → Int
  | [], [] => 0
  | [], _ :: _ => -1
  | _ :: _, [] => 1
  | a :: s, b :: t => if a < b then -1 else if b < a then 1 else cmpL s t
theorem cmpInt_v (a b : Int) : cmp_Compare_int.f a b = some (if a < b then -1 else if b < a then 1 else 0) := by
  unfold cmp_Compare_int.f cmp_isNaN_int.f
  simp only [bne_self_eq_false, Option.bind_some, Bool.false_eq_true, if_false]
  by_cases h1 : a < b
  · rw [if_pos h1, if_pos h1]
  · rw [if_neg h1, if_neg h1]
    by_cases h2 : b < a
    · rw [if_pos h2, if_pos h2]
    · rw [if_neg h2, if_neg h2]
theorem slicesCompare_l0 (a b : List Int) (ha : a.length ≤ 9223372036854775806) : ∀ i, i ≤ a.length → i ≤ b.length → Ev (fun k => slices_Compare_int_int.l0 k a b a (a.length : Int) (i : Int)) (cmpL (a.drop i) (b.drop i)) := by
  have key : ∀ d i, i + d = a.length → i ≤ b.length → Ev (fun k => slices_Compare_int_int.l0 k a b a (a.length : Int) (i : Int)) (cmpL (a.drop i) (b.drop i)) := by
    intro d
    induction d with
    | zero =>
      intro i hi hb
      refine Ev.succ ?_
      simp only [slices_Compare_int_int.l0, if_neg (show ¬ ((i : Int) < (a.length : Int)) by omega)]
      rw [List.drop_of_length_le (l := a) (by omega)]
      by_cases h : a.length < b.length
      · simp only [if_pos (show (a.length : Int) < (b.length : Int) by omega)]
        rw [drop_at (show i < b.length by omega)]; exact Ev.now _
      · simp only [if_neg (show ¬ (a.length : Int) < (b.length : Int) by omega)]
        rw [List.drop_of_length_le (l := b) (by omega)]; exact Ev.now _
    | succ d ih =>
      intro i hi hb
      have hlt : i < a.length := by omega
      refine Ev.succ ?_
      simp only [slices_Compare_int_int.l0, if_pos (show ((i : Int) < (a.length : Int)) by omega), if_pos (show (0 : Int) ≤ (i : Int) by omega), rd_at hlt, w64n (show i ≤ 9223372036854775806 by omega)]
      rw [drop_at hlt]
      by_cases h : i < b.length
      · simp only [if_neg (show ¬ ((i : Int) ≥ (b.length : Int)) by omega), if_pos (show ((i : Int) < (b.length : Int)) by omega), rd_at h, cmpInt_v, Option.bind_some]
        rw [drop_at h]
        simp only [cmpL]
        by_cases h1 : a[i] < b[i]
        · simp only [if_pos h1, show ¬ ((-1 : Int) = 0) by omega, if_false]; exact Ev.now _
        · by_cases h2 : b[i] < a[i]
          · simp only [if_neg h1, if_pos h2, show ¬ ((1 : Int) = 0) by omega, if_false]; exact Ev.now _
          · simp only [if_neg h1, if_neg h2, if_true]; exact ih (i + 1) (by omega) (by omega)
      · simp only [if_pos (show ((i : Int) ≥ (b.length : Int)) by omega)]
        rw [List.drop_of_length_le (l := b) (by omega)]; exact Ev.now _
  intro i hi hb
  exact key (a.length - i) i (by omega) hb
theorem slicesCompare_ev (a b : List Int) (ha : a.length ≤ 9223372036854775806) : Ev (fun k => slices_Compare_int_int.f k a b) (cmpL a b) := by
  unfold slices_Compare_int_int.f
  have := slicesCompare_l0 a b ha 0 (by omega) (by omega)
  simpa using this
theorem l2Compare_l0 (a b : List Int) (ha : a.length ≤ 9223372036854775806) : ∀ d i, i + d = a.length → i ≤ b.length → Ev (fun k => spec_l2Compare.l0 k a b (i : Int)) (cmpL (a.drop i) (b.drop i)) := by
  intro d
  induction d with
  | zero =>
    intro i hi hb
    refine Ev.succ (Ev.congr (f := fun k => spec_l2Compare.j1 k a b (i : Int) false) (fun k => by simp only [spec_l2Compare.l0, if_neg (show ¬ ((i : Int) < (a.length : Int)) by omega)]) (Ev.succ ?_))
    simp only [spec_l2Compare.j1, Bool.false_eq_true, if_false]
    rw [List.drop_of_length_le (l := a) (by omega)]
    by_cases h : a.length < b.length
    · simp only [if_neg (show ¬ (a.length : Int) = (b.length : Int) by omega), if_pos (show (a.length : Int) < (b.length : Int) by omega)]
      rw [drop_at (show i < b.length by omega)]; exact Ev.now _
    · simp only [if_pos (show (a.length : Int) = (b.length : Int) by omega)]
      rw [List.drop_of_length_le (l := b) (by omega)]; exact Ev.now _
  | succ d ih =>
    intro i hi hb
    have hlt : i < a.length := by omega
    refine Ev.succ (Ev.congr (f := fun k => spec_l2Compare.j1 k a b (i : Int) (decide ((i : Int) < (b.length : Int)))) (fun k => by simp only [spec_l2Compare.l0, if_pos (show ((i : Int) < (a.length : Int)) by omega)]) (Ev.succ ?_))
    rw [drop_at hlt]
    by_cases h : i < b.length
    · simp only [spec_l2Compare.j1, show ((i : Int) < (b.length : Int)) by omega, decide_true, if_true, show (0 : Int) ≤ (i : Int) by omega, show ((i : Int) < (a.length : Int)) by omega, rd_at hlt, rd_at h, w64n (show i ≤ 9223372036854775806 by omega)]
      rw [drop_at h]
      simp only [cmpL]
      by_cases h1 : a[i] < b[i]
      · simp only [if_pos h1]; exact Ev.now _
      · by_cases h2 : b[i] < a[i]
        · simp only [if_neg h1, if_pos (show a[i] > b[i] by omega), if_pos h2]; exact Ev.now _
        · simp only [if_neg h1, if_neg (show ¬ a[i] > b[i] by omega), if_neg h2]; exact ih (i + 1) (by omega) (by omega)
    · simp only [spec_l2Compare.j1, show ¬ ((i : Int) < (b.length : Int)) by omega, decide_false, Bool.false_eq_true, if_false]
      rw [List.drop_of_length_le (l := b) (by omega)]
      simp only [if_neg (show ¬ (a.length : Int) = (b.length : Int) by omega), if_neg (show ¬ (a.length : Int) < (b.length : Int) by omega)]; exact Ev.now _
theorem l2Compare_ev (a b : List Int) (ha : a.length ≤ 9223372036854775806) : Ev (fun k => spec_l2Compare.f k a b) (cmpL a b) := by
  unfold spec_l2Compare.f
  have := l2Compare_l0 a b ha a.length 0 (by omega) (by omega)
  simpa using this

/-- Rows from place i on: each of the width, each behind the one before. -/
noncomputable def rowsR (l : List (List Int)) (w : Int) (i : Nat) : Bool := @decide (∀ j, i ≤ j → ∀ h : j < l.length, (l[j].length : Int) = w ∧ (0 < j → cmpL (l.getD (j - 1) []) l[j] < 0)) (Classical.propDecidable _)
theorem rowsR_end (l : List (List Int)) (w : Int) {i : Nat} (h : l.length ≤ i) : rowsR l w i = true := by unfold rowsR; exact @decide_eq_true _ (Classical.propDecidable _) (fun j hj hl => by omega)
theorem rowsR_no1 (l : List (List Int)) (w : Int) {i : Nat} (h : i < l.length) (h1 : ¬ (l[i].length : Int) = w) : rowsR l w i = false := by unfold rowsR; exact @decide_eq_false _ (Classical.propDecidable _) (fun H => h1 (H i (Nat.le_refl _) h).1)
theorem rowsR_no2 (l : List (List Int)) (w : Int) {i : Nat} (h : i < l.length) (h0 : 0 < i) (h1 : ¬ cmpL (l.getD (i - 1) []) l[i] < 0) : rowsR l w i = false := by unfold rowsR; exact @decide_eq_false _ (Classical.propDecidable _) (fun H => h1 ((H i (Nat.le_refl _) h).2 h0))
theorem rowsR_on (l : List (List Int)) (w : Int) {i : Nat} (h : i < l.length) (h1 : (l[i].length : Int) = w) (h2 : 0 < i → cmpL (l.getD (i - 1) []) l[i] < 0) : rowsR l w i = rowsR l w (i + 1) := by
  unfold rowsR
  rw [decide_eq_decide]
  constructor
  · intro H j hj hl; exact H j (by omega) hl
  · intro H j hj hl
    by_cases e : j = i
    · subst e; exact ⟨h1, h2⟩
    · exact H j (by omega) hl
theorem rowsOK_ev (l : List (List Int)) (w : Int) (hl : l.length ≤ 9223372036854775806) (hll : ∀ x, x ∈ l → x.length ≤ 9223372036854775806) : Ev (fun k => impl_rowsOK.f k l w) (rowsR l w 0) := by
  unfold impl_rowsOK.f
  refine Ev.loop (g := fun k i => impl_rowsOK.l0 k l w l (l.length : Int) (i : Int)) (n := l.length) (R := rowsR l w) ?_ ?_ 0 (Nat.zero_le _)
  · refine Ev.succ ?_
    simp only [impl_rowsOK.l0, if_neg (show ¬ ((l.length : Int) < (l.length : Int)) by omega), rowsR_end l w (Nat.le_refl _)]
    exact Ev.now _
  · intro i hi ih
    refine Ev.succ ?_
    have hr : rd_L1 l (i : Int) = l[i] := getD_at _ hi
    simp only [impl_rowsOK.l0, if_pos (show ((i : Int) < (l.length : Int)) by omega), if_pos (show (0 : Int) ≤ (i : Int) by omega), hr, w64n (show i ≤ 9223372036854775806 by omega)]
    by_cases h1 : (l[i].length : Int) = w
    · simp only [if_pos h1]
      by_cases h0 : i = 0
      · subst h0
        simp only [show ¬ (((0 : Nat) : Int) > 0) by omega, if_false]
        rw [rowsR_on l w hi h1 (fun h => by omega)]; exact ih
      · have hw : wrap64 ((i : Int) - 1) = ((i - 1 : Nat) : Int) := by unfold wrap64; omega
        have hp : rd_L1 l ((i - 1 : Nat) : Int) = l.getD (i - 1) [] := by unfold rd_L1; rw [Int.toNat_natCast]
        have hpl : (l.getD (i - 1) []).length ≤ 9223372036854775806 := by
          have e : l.getD (i - 1) [] = l[i - 1] := by simp [List.getD_eq_getElem?_getD, show i - 1 < l.length by omega]
          rw [e]; exact hll _ (List.getElem_mem _)
        simp only [show ((i : Int) > 0) by omega, if_true, hw, show (0 : Int) ≤ ((i - 1 : Nat) : Int) by omega, show (((i - 1 : Nat) : Int) < (l.length : Int)) by omega, hp]
        refine Ev.bind (slicesCompare_ev _ _ hpl) ?_
        by_cases h2 : cmpL (l.getD (i - 1) []) l[i] < 0
        · simp only [if_neg (show ¬ (cmpL (l.getD (i - 1) []) l[i] ≥ 0) by omega)]
          rw [rowsR_on l w hi h1 (fun _ => h2)]; exact ih
        · simp only [if_pos (show (cmpL (l.getD (i - 1) []) l[i] ≥ 0) by omega)]
          rw [rowsR_no2 l w hi (by omega) h2]; exact Ev.now _
    · simp only [if_neg h1]
      rw [rowsR_no1 l w hi h1]; exact Ev.now _
theorem l2SortedRows_ev (l : List (List Int)) (w : Int) (hl : l.length ≤ 9223372036854775806) (hll : ∀ x, x ∈ l → x.length ≤ 9223372036854775806) : Ev (fun k => spec_l2SortedRows.f k l w) (rowsR l w 0) := by
  unfold spec_l2SortedRows.f
  refine Ev.loop (g := fun k i => spec_l2SortedRows.l0 k l w l (l.length : Int) (i : Int)) (n := l.length) (R := rowsR l w) ?_ ?_ 0 (Nat.zero_le _)
  · refine Ev.succ ?_
    simp only [spec_l2SortedRows.l0, if_neg (show ¬ ((l.length : Int) < (l.length : Int)) by omega), rowsR_end l w (Nat.le_refl _)]
    exact Ev.now _
  · intro i hi ih
    refine Ev.succ ?_
    have hr : rd_L1 l (i : Int) = l[i] := getD_at _ hi
    simp only [spec_l2SortedRows.l0, if_pos (show ((i : Int) < (l.length : Int)) by omega), if_pos (show (0 : Int) ≤ (i : Int) by omega), hr, w64n (show i ≤ 9223372036854775806 by omega)]
    by_cases h1 : (l[i].length : Int) = w
    · simp only [if_pos h1]
      by_cases h0 : i = 0
      · subst h0
        simp only [show ¬ (((0 : Nat) : Int) > 0) by omega, if_false]
        rw [rowsR_on l w hi h1 (fun h => by omega)]; exact ih
      · have hw : wrap64 ((i : Int) - 1) = ((i - 1 : Nat) : Int) := by unfold wrap64; omega
        have hp : rd_L1 l ((i - 1 : Nat) : Int) = l.getD (i - 1) [] := by unfold rd_L1; rw [Int.toNat_natCast]
        have hpl : (l.getD (i - 1) []).length ≤ 9223372036854775806 := by
          have e : l.getD (i - 1) [] = l[i - 1] := by simp [List.getD_eq_getElem?_getD, show i - 1 < l.length by omega]
          rw [e]; exact hll _ (List.getElem_mem _)
        simp only [show ((i : Int) > 0) by omega, if_true, hw, show (0 : Int) ≤ ((i - 1 : Nat) : Int) by omega, show (((i - 1 : Nat) : Int) < (l.length : Int)) by omega, hp]
        refine Ev.bind (l2Compare_ev _ _ hpl) ?_
        by_cases h2 : cmpL (l.getD (i - 1) []) l[i] < 0
        · simp only [if_neg (show ¬ (cmpL (l.getD (i - 1) []) l[i] ≥ 0) by omega)]
          rw [rowsR_on l w hi h1 (fun _ => h2)]; exact ih
        · simp only [if_pos (show (cmpL (l.getD (i - 1) []) l[i] ≥ 0) by omega)]
          rw [rowsR_no2 l w hi (by omega) h2]; exact Ev.now _
    · simp only [if_neg h1]
      rw [rowsR_no1 l w hi h1]; exact Ev.now _

end Go.Proofs.Ytmejfkjhemhdlaa.PT
