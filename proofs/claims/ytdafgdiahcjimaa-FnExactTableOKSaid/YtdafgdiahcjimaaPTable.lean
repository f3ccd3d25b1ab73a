/-
  The plain law of TableOK: the program's test and the reference's tell the same of every table; no condition.
-/
import Derived.Test.YtdafgdiahcjimaaEv
import Derived.Test.YtdafgdiahcjimaaFlawsFnExactTableOK
namespace Go.Proofs.Ytdafgdiahcjimaa.PT
set_option linter.unusedSimpArgs false
open Go.RowKit Go.Proofs.Ytdafgdiahcjimaa.P Go.Proofs.YtdafgdiahcjimaaW.PrintWords Go.Proofs.YtdafgdiahcjimaaW.PrintLast Go.Proofs.Ytdafgdiahcjimaa.EvKit

/-! ### the laws' own helpers -/
theorem szIntS_ev (l : List Int) (a : Int) (hl : l.length ≤ 9223372036854775807) (h1 : -1 ≤ a) (h2 : a ≤ 1048576) : laws_szIntS.f l a = some (if a - l.length < 0 then -1 else a - l.length) := by
  unfold laws_szIntS.f
  rw [w64 (by omega) (by omega)]
  split <;> rfl

/-- What is left of 'a' behind a list of lists; -1 once it is used up. -/
def szSS (a : Int) : List (List Int) → Int
  | [] => a
  | l :: r => if a - l.length < 0 then -1 else szSS (a - l.length) r
def szIntSSv (l : List (List Int)) (a : Int) : Int := if a - l.length < 0 then -1 else szSS (a - l.length) l

theorem szIntSS_l0 (l : List (List Int)) (hl : l.length ≤ 9223372036854775806) (hll : ∀ x, x ∈ l → x.length ≤ 9223372036854775807) : ∀ d i, i + d = l.length → ∀ a : Int, 0 ≤ a → a ≤ 1048576 → Ev (fun k => laws_szIntSS.l0 k l a (i : Int)) (szSS a (l.drop i)) := by
  intro d
  induction d with
  | zero =>
    intro i hi a h0 h1
    refine Ev.succ ?_
    simp only [laws_szIntSS.l0, if_neg (show ¬ ((i : Int) < (l.length : Int)) by omega)]
    rw [List.drop_of_length_le (by omega)]
    exact Ev.now _
  | succ d ih =>
    intro i hi a h0 h1
    have hlt : i < l.length := by omega
    refine Ev.succ ?_
    have hr : rd_L1 l (i : Int) = l[i] := getD_at _ hlt
    simp only [laws_szIntSS.l0, if_pos (show ((i : Int) < (l.length : Int)) by omega), if_pos (show (0 : Int) ≤ (i : Int) by omega), hr, w64n (show i ≤ 9223372036854775806 by omega)]
    rw [drop_at hlt]
    simp only [szSS, szIntS_ev l[i] a (hll _ (List.getElem_mem hlt)) (by omega) h1, Option.bind_some]
    by_cases h : a - l[i].length < 0
    · simp only [if_pos h, show ((-1 : Int) < 0) from by omega, if_true]
      exact Ev.now _
    · simp only [if_neg h]
      exact ih (i + 1) (by omega) _ (by omega) (by omega)
theorem szIntSS_ev (l : List (List Int)) (a : Int) (hl : l.length ≤ 9223372036854775807) (hll : ∀ x, x ∈ l → x.length ≤ 9223372036854775807) (h1 : -1 ≤ a) (h2 : a ≤ 1048576) : Ev (fun k => laws_szIntSS.f k l a) (szIntSSv l a) := by
  unfold laws_szIntSS.f szIntSSv
  simp only [w64 (n := a - (l.length : Int)) (by omega) (by omega)]
  by_cases h : a - (l.length : Int) < 0
  · simp only [if_pos h]; exact Ev.now _
  · simp only [if_neg h]
    exact szIntSS_l0 l (by omega) hll l.length 0 (by omega) _ (by omega) (by omega)

/-- Copied as far as i. -/
theorem toIntS_l0 (l : List Int) (hl : l.length ≤ 35184372088832) : ∀ d i, i + d = l.length → Ev (fun k => laws_toIntS.l0 k l (l.take i ++ List.replicate d 0) (i : Int)) l := by
  intro d
  induction d with
  | zero =>
    intro i hi
    refine Ev.succ ?_
    simp only [laws_toIntS.l0, if_neg (show ¬ ((i : Int) < (l.length : Int)) by omega)]
    have : l.take i ++ List.replicate 0 0 = l := by rw [List.take_of_length_le (by omega)]; simp
    rw [this]; exact Ev.now _
  | succ d ih =>
    intro i hi
    have hlt : i < l.length := by omega
    refine Ev.succ ?_
    have hlen : (l.take i ++ List.replicate (d + 1) (0 : Int)).length = l.length := by simp; omega
    simp only [laws_toIntS.l0, if_pos (show ((i : Int) < (l.length : Int)) by omega), if_pos (show (0 : Int) ≤ (i : Int) by omega), hlen, rd_at hlt, w64n (show i ≤ 9223372036854775806 by omega)]
    have hs : (l.take i ++ List.replicate (d + 1) (0 : Int)).set (i : Int).toNat l[i] = l.take (i + 1) ++ List.replicate d 0 := by
      rw [Int.toNat_natCast, List.set_append_right _ _ (by simp; omega), List.take_succ_eq_append_getElem hlt]
      have : i - (l.take i).length = 0 := by simp; omega
      rw [this, List.replicate_succ]
      simp only [List.set_cons_zero, List.append_assoc, List.singleton_append]
    rw [hs]
    exact ih (i + 1) (by omega)
theorem toIntS_ev (l : List Int) (hl : l.length ≤ 35184372088832) : Ev (fun k => laws_toIntS.f k l) l := by
  unfold laws_toIntS.f
  simp only [if_pos (show (0 : Int) ≤ (l.length : Int) by omega), Int.toNat_natCast, if_pos hl]
  have := toIntS_l0 l hl l.length 0 (by omega)
  simpa using this
theorem toIntSS_l0 (l : List (List Int)) (hl : l.length ≤ 11728124029610) (hll : ∀ x, x ∈ l → x.length ≤ 35184372088832) : ∀ d i, i + d = l.length → Ev (fun k => laws_toIntSS.l0 k l (l.take i ++ List.replicate d []) (i : Int)) l := by
  intro d
  induction d with
  | zero =>
    intro i hi
    refine Ev.succ ?_
    simp only [laws_toIntSS.l0, if_neg (show ¬ ((i : Int) < (l.length : Int)) by omega)]
    have : l.take i ++ List.replicate 0 [] = l := by rw [List.take_of_length_le (by omega)]; simp
    rw [this]; exact Ev.now _
  | succ d ih =>
    intro i hi
    have hlt : i < l.length := by omega
    refine Ev.succ ?_
    have hlen : (l.take i ++ List.replicate (d + 1) ([] : List Int)).length = l.length := by simp; omega
    have hr : rd_L1 l (i : Int) = l[i] := getD_at _ hlt
    simp only [laws_toIntSS.l0, if_pos (show ((i : Int) < (l.length : Int)) by omega), if_pos (show (0 : Int) ≤ (i : Int) by omega), hlen, hr, w64n (show i ≤ 9223372036854775806 by omega)]
    refine Ev.bind (toIntS_ev l[i] (hll _ (List.getElem_mem hlt))) ?_
    have hs : (l.take i ++ List.replicate (d + 1) ([] : List Int)).set (i : Int).toNat l[i] = l.take (i + 1) ++ List.replicate d [] := by
      rw [Int.toNat_natCast, List.set_append_right _ _ (by simp; omega), List.take_succ_eq_append_getElem hlt]
      have : i - (l.take i).length = 0 := by simp; omega
      rw [this, List.replicate_succ]
      simp only [List.set_cons_zero, List.append_assoc, List.singleton_append]
    simp only [hs]
    exact ih (i + 1) (by omega)
theorem toIntSS_ev (l : List (List Int)) (hl : l.length ≤ 11728124029610) (hll : ∀ x, x ∈ l → x.length ≤ 35184372088832) : Ev (fun k => laws_toIntSS.f k l) l := by
  unfold laws_toIntSS.f
  simp only [if_pos (show (0 : Int) ≤ (l.length : Int) by omega), Int.toNat_natCast, if_pos hl]
  have := toIntSS_l0 l hl hll l.length 0 (by omega)
  simpa using this

theorem eqIntS_l0 (a b : List Int) (hab : a.length = b.length) (hl : a.length ≤ 9223372036854775806) : ∀ i, i ≤ a.length → Ev (fun k => laws_eqIntS.l0 k a b (i : Int)) (decide (a.drop i = b.drop i)) := by
  refine Ev.loop (g := fun k i => laws_eqIntS.l0 k a b (i : Int)) (n := a.length) ?_ ?_
  · refine Ev.succ ?_
    simp only [laws_eqIntS.l0, if_neg (show ¬ ((a.length : Int) < (a.length : Int)) by omega)]
    have : decide (a.drop a.length = b.drop a.length) = true := by simp [hab]
    rw [this]; exact Ev.now _
  · intro i hi ih
    have hi' : i < b.length := by omega
    refine Ev.succ ?_
    simp only [laws_eqIntS.l0, if_pos (show ((i : Int) < (a.length : Int)) by omega), if_pos (show ((i : Int) < (b.length : Int)) by omega), if_pos (show (0 : Int) ≤ (i : Int) by omega), rd_at hi, rd_at hi', w64n (show i ≤ 9223372036854775806 by omega)]
    rw [drop_at hi, drop_at hi']
    by_cases h : a[i] = b[i]
    · simp only [if_pos h, List.cons.injEq, h, true_and]; exact ih
    · simp only [if_neg h, List.cons.injEq, h, false_and, decide_false]; exact Ev.now _
theorem eqIntS_ev (a b : List Int) (hl : a.length ≤ 9223372036854775806) : Ev (fun k => laws_eqIntS.f k a b) (decide (a = b)) := by
  unfold laws_eqIntS.f
  by_cases h : a.length = b.length
  · simp only [if_pos (show (a.length : Int) = (b.length : Int) by omega)]
    have := eqIntS_l0 a b h hl 0 (by omega)
    simpa using this
  · simp only [if_neg (show ¬ (a.length : Int) = (b.length : Int) by omega)]
    have : decide (a = b) = false := by simp; intro e; exact h (by rw [e])
    rw [this]; exact Ev.now _
theorem eqIntSS_l0 (a b : List (List Int)) (hab : a.length = b.length) (hl : a.length ≤ 9223372036854775806) (hll : ∀ x, x ∈ a → x.length ≤ 9223372036854775806) : ∀ i, i ≤ a.length → Ev (fun k => laws_eqIntSS.l0 k a b (i : Int)) (decide (a.drop i = b.drop i)) := by
  refine Ev.loop (g := fun k i => laws_eqIntSS.l0 k a b (i : Int)) (n := a.length) ?_ ?_
  · refine Ev.succ ?_
    simp only [laws_eqIntSS.l0, if_neg (show ¬ ((a.length : Int) < (a.length : Int)) by omega)]
    have : decide (a.drop a.length = b.drop a.length) = true := by simp [hab]
    rw [this]; exact Ev.now _
  · intro i hi ih
    have hi' : i < b.length := by omega
    refine Ev.succ ?_
    have ha : rd_L1 a (i : Int) = a[i] := getD_at _ hi
    have hb : rd_L1 b (i : Int) = b[i] := getD_at _ hi'
    simp only [laws_eqIntSS.l0, if_pos (show ((i : Int) < (a.length : Int)) by omega), if_pos (show ((i : Int) < (b.length : Int)) by omega), if_pos (show (0 : Int) ≤ (i : Int) by omega), ha, hb, w64n (show i ≤ 9223372036854775806 by omega)]
    rw [drop_at hi, drop_at hi']
    refine Ev.bind (eqIntS_ev a[i] b[i] (hll _ (List.getElem_mem hi))) ?_
    by_cases h : a[i] = b[i]
    · simp only [h, decide_true, if_true, List.cons.injEq, true_and]; exact ih
    · simp only [h, decide_false, Bool.false_eq_true, if_false, List.cons.injEq, false_and]; exact Ev.now _
theorem eqIntSS_ev (a b : List (List Int)) (hl : a.length ≤ 9223372036854775806) (hll : ∀ x, x ∈ a → x.length ≤ 9223372036854775806) : Ev (fun k => laws_eqIntSS.f k a b) (decide (a = b)) := by
  unfold laws_eqIntSS.f
  by_cases h : a.length = b.length
  · simp only [if_pos (show (a.length : Int) = (b.length : Int) by omega)]
    have := eqIntSS_l0 a b h hl hll 0 (by omega)
    simpa using this
  · simp only [if_neg (show ¬ (a.length : Int) = (b.length : Int) by omega)]
    have : decide (a = b) = false := by simp; intro e; exact h (by rw [e])
    rw [this]; exact Ev.now _

/-! ### what both ask of a table -/
/-- Ascending from behind 'last' on, below 6. -/
def asc (last : Int) : List Int → Bool
  | [] => true
  | v :: r => decide (last < v) && decide (v < 6) && asc v r
theorem setOK_l0 (l : List Int) (hl : l.length ≤ 9223372036854775806) : ∀ d i, i + d = l.length → ∀ last, Ev (fun k => impl_setOK.l0 k last l (l.length : Int) (i : Int)) (asc last (l.drop i)) := by
  intro d
  induction d with
  | zero =>
    intro i hi last
    refine Ev.succ ?_
    simp only [impl_setOK.l0, if_neg (show ¬ ((i : Int) < (l.length : Int)) by omega)]
    rw [List.drop_of_length_le (by omega)]; exact Ev.now _
  | succ d ih =>
    intro i hi last
    have hlt : i < l.length := by omega
    refine Ev.succ ?_
    simp only [impl_setOK.l0, if_pos (show ((i : Int) < (l.length : Int)) by omega), if_pos (show (0 : Int) ≤ (i : Int) by omega), rd_at hlt, w64n (show i ≤ 9223372036854775806 by omega)]
    rw [drop_at hlt]
    simp only [asc]
    by_cases h1 : l[i] ≤ last
    · simp only [if_pos h1, show ¬ (last < l[i]) by omega, decide_false, Bool.false_and]; exact Ev.now _
    · by_cases h2 : l[i] ≥ 6
      · simp only [if_neg h1, if_pos h2, show ¬ (l[i] < 6) by omega, decide_false, Bool.false_and, Bool.and_false]; exact Ev.now _
      · simp only [if_neg h1, if_neg h2, show (last < l[i]) by omega, show (l[i] < 6) by omega, decide_true, Bool.true_and]
        exact ih (i + 1) (by omega) _
theorem setOK_ev (l : List Int) (hl : l.length ≤ 9223372036854775806) : Ev (fun k => impl_setOK.f k l) (asc (-1) l) := by
  unfold impl_setOK.f
  have := setOK_l0 l hl l.length 0 (by omega) (-1)
  simpa using this
theorem between_v (a b c : Int) : spec_l1Between.f a b c = some (decide (b ≤ a ∧ a ≤ c)) := by
  unfold spec_l1Between.f
  by_cases h : b ≤ a
  · rw [if_pos h]; simp [h]
  · rw [if_neg h]; simp [h]
/-- The element before place i, -1 at the begin. -/
def before (l : List Int) (i : Nat) : Int := if i = 0 then -1 else l.getD (i - 1) 0
theorem l1SetOK_l0 (l : List Int) (hl : l.length ≤ 9223372036854775806) : ∀ i, i ≤ l.length → -1 ≤ before l i → Ev (fun k => spec_l1SetOK.l0 k l 6 l (l.length : Int) (i : Int)) (asc (before l i) (l.drop i)) := by
  have key : ∀ d i, i + d = l.length → -1 ≤ before l i → Ev (fun k => spec_l1SetOK.l0 k l 6 l (l.length : Int) (i : Int)) (asc (before l i) (l.drop i)) := by
    intro d
    induction d with
    | zero =>
      intro i hi _
      refine Ev.succ ?_
      simp only [spec_l1SetOK.l0, if_neg (show ¬ ((i : Int) < (l.length : Int)) by omega)]
      rw [List.drop_of_length_le (by omega)]; exact Ev.now _
    | succ d ih =>
      intro i hi hb
      have hlt : i < l.length := by omega
      refine Ev.succ ?_
      simp only [spec_l1SetOK.l0, if_pos (show ((i : Int) < (l.length : Int)) by omega), if_pos (show (0 : Int) ≤ (i : Int) by omega), rd_at hlt, w64n (show i ≤ 9223372036854775806 by omega), between_v, Option.bind_some,
        show wrap64 (6 - 1) = 5 from by unfold wrap64; omega, decide_eq_true_eq]
      rw [drop_at hlt]
      simp only [asc]
      have hnext : before l (i + 1) = l[i] := by unfold before; simp [List.getD_eq_getElem?_getD, hlt]
      have ih' := ih (i + 1) (by omega)
      rw [hnext] at ih'
      by_cases h0 : i = 0
      · subst h0
        simp only [show ¬ (((0 : Nat) : Int) > 0) by omega, if_false]
        have hb0 : before l 0 = -1 := rfl
        rw [hb0]
        by_cases h1 : 0 ≤ l[0] ∧ l[0] ≤ 5
        · simp only [show (-1 : Int) < l[0] by omega, show l[0] < 6 by omega, decide_true, Bool.true_and]
          exact Ev.congr (fun _ => if_pos h1) (ih' (by omega))
        · have : (decide ((-1 : Int) < l[0]) && decide (l[0] < 6) && asc l[0] (l.drop (0 + 1))) = false := by
            simp only [Bool.and_eq_false_iff, decide_eq_false_iff_not]; left; omega
          rw [this]; exact Ev.congr (fun _ => if_neg h1) (Ev.now _)
      · have hw : wrap64 ((i : Int) - 1) = ((i - 1 : Nat) : Int) := by unfold wrap64; omega
        have hb0 : before l i = l[i - 1] := by unfold before; rw [if_neg h0]; simp [List.getD_eq_getElem?_getD, show i - 1 < l.length by omega]
        rw [hb0] at hb ⊢
        simp only [show ((i : Int) > 0) by omega, if_true, hw, show (0 : Int) ≤ ((i - 1 : Nat) : Int) by omega, show (((i - 1 : Nat) : Int) < (l.length : Int)) by omega, rd_at (show i - 1 < l.length by omega)]
        by_cases h1 : 0 ≤ l[i] ∧ l[i] ≤ 5
        · by_cases h2 : l[i] ≤ l[i - 1]
          · simp only [if_pos h1, if_pos h2, show ¬ (l[i - 1] < l[i]) by omega, decide_false, Bool.false_and]; exact Ev.now _
          · simp only [if_pos h1, if_neg h2, show (l[i - 1] < l[i]) by omega, show l[i] < 6 by omega, decide_true, Bool.true_and]
            exact ih' (by omega)
        · simp only [if_neg h1]
          have : (decide (l[i - 1] < l[i]) && decide (l[i] < 6) && asc l[i] (l.drop (i + 1))) = false := by
            simp only [Bool.and_eq_false_iff, decide_eq_false_iff_not]; left; omega
          rw [this]; exact Ev.now _
  intro i hi hb
  exact key (l.length - i) i (by omega) hb
theorem l1SetOK_ev (l : List Int) (hl : l.length ≤ 9223372036854775806) : Ev (fun k => spec_l1SetOK.f k l 6) (asc (-1) l) := by
  unfold spec_l1SetOK.f
  have := l1SetOK_l0 l hl 0 (by omega) (by simp [before])
  simpa [before] using this

/-- -1, 0, 1: which comes first. -/
def cmpL : List Int → List Int → Int
  | [], [] => 0
  | [], _ :: _ => -1
  | _ :: _, [] => 1
  | a :: s, b :: t => if a < b then -1 else if b < a then 1 else cmpL s t
theorem cmpInt_v (a b : Int) : cmp_Compare_int.f a b = some (if a < b then -1 else if b < a then 1 else 0) := by
  unfold cmp_Compare_int.f cmp_isNaN_int.f
  simp only [bne_self_eq_false, Option.bind_some, Bool.false_eq_true, if_false]
  by_cases h1 : a < b
  · rw [if_pos h1, if_pos h1]
  · rw [if_neg h1, if_neg h1]
    by_cases h2 : b < a
    · rw [if_pos h2, if_pos h2]
    · rw [if_neg h2, if_neg h2]
theorem slicesCompare_l0 (a b : List Int) (ha : a.length ≤ 9223372036854775806) : ∀ i, i ≤ a.length → i ≤ b.length → Ev (fun k => slices_Compare_int_int.l0 k a b a (a.length : Int) (i : Int)) (cmpL (a.drop i) (b.drop i)) := by
  have key : ∀ d i, i + d = a.length → i ≤ b.length → Ev (fun k => slices_Compare_int_int.l0 k a b a (a.length : Int) (i : Int)) (cmpL (a.drop i) (b.drop i)) := by
    intro d
    induction d with
    | zero =>
      intro i hi hb
      refine Ev.succ ?_
      simp only [slices_Compare_int_int.l0, if_neg (show ¬ ((i : Int) < (a.length : Int)) by omega)]
      rw [List.drop_of_length_le (l := a) (by omega)]
      by_cases h : a.length < b.length
      · simp only [if_pos (show (a.length : Int) < (b.length : Int) by omega)]
        rw [drop_at (show i < b.length by omega)]; exact Ev.now _
      · simp only [if_neg (show ¬ (a.length : Int) < (b.length : Int) by omega)]
        rw [List.drop_of_length_le (l := b) (by omega)]; exact Ev.now _
    | succ d ih =>
      intro i hi hb
      have hlt : i < a.length := by omega
      refine Ev.succ ?_
      simp only [slices_Compare_int_int.l0, if_pos (show ((i : Int) < (a.length : Int)) by omega), if_pos (show (0 : Int) ≤ (i : Int) by omega), rd_at hlt, w64n (show i ≤ 9223372036854775806 by omega)]
      rw [drop_at hlt]
      by_cases h : i < b.length
      · simp only [if_neg (show ¬ ((i : Int) ≥ (b.length : Int)) by omega), if_pos (show ((i : Int) < (b.length : Int)) by omega), rd_at h, cmpInt_v, Option.bind_some]
        rw [drop_at h]
        simp only [cmpL]
        by_cases h1 : a[i] < b[i]
        · simp only [if_pos h1, show ¬ ((-1 : Int) = 0) by omega, if_false]; exact Ev.now _
        · by_cases h2 : b[i] < a[i]
          · simp only [if_neg h1, if_pos h2, show ¬ ((1 : Int) = 0) by omega, if_false]; exact Ev.now _
          · simp only [if_neg h1, if_neg h2, if_true]; exact ih (i + 1) (by omega) (by omega)
      · simp only [if_pos (show ((i : Int) ≥ (b.length : Int)) by omega)]
        rw [List.drop_of_length_le (l := b) (by omega)]; exact Ev.now _
  intro i hi hb
  exact key (a.length - i) i (by omega) hb
theorem slicesCompare_ev (a b : List Int) (ha : a.length ≤ 9223372036854775806) : Ev (fun k => slices_Compare_int_int.f k a b) (cmpL a b) := by
  unfold slices_Compare_int_int.f
  have := slicesCompare_l0 a b ha 0 (by omega) (by omega)
  simpa using this
theorem l2Compare_l0 (a b : List Int) (ha : a.length ≤ 9223372036854775806) : ∀ d i, i + d = a.length → i ≤ b.length → Ev (fun k => spec_l2Compare.l0 k a b (i : Int)) (cmpL (a.drop i) (b.drop i)) := by
  intro d
  induction d with
  | zero =>
    intro i hi hb
    refine Ev.succ (Ev.congr (f := fun k => spec_l2Compare.j1 k a b (i : Int) false) (fun k => by simp only [spec_l2Compare.l0, if_neg (show ¬ ((i : Int) < (a.length : Int)) by omega)]) (Ev.succ ?_))
    simp only [spec_l2Compare.j1, Bool.false_eq_true, if_false]
    rw [List.drop_of_length_le (l := a) (by omega)]
    by_cases h : a.length < b.length
    · simp only [if_neg (show ¬ (a.length : Int) = (b.length : Int) by omega), if_pos (show (a.length : Int) < (b.length : Int) by omega)]
      rw [drop_at (show i < b.length by omega)]; exact Ev.now _
    · simp only [if_pos (show (a.length : Int) = (b.length : Int) by omega)]
      rw [List.drop_of_length_le (l := b) (by omega)]; exact Ev.now _
  | succ d ih =>
    intro i hi hb
    have hlt : i < a.length := by omega
    refine Ev.succ (Ev.congr (f := fun k => spec_l2Compare.j1 k a b (i : Int) (decide ((i : Int) < (b.length : Int)))) (fun k => by simp only [spec_l2Compare.l0, if_pos (show ((i : Int) < (a.length : Int)) by omega)]) (Ev.succ ?_))
    rw [drop_at hlt]
    by_cases h : i < b.length
    · simp only [spec_l2Compare.j1, show ((i : Int) < (b.length : Int)) by omega, decide_true, if_true, show (0 : Int) ≤ (i : Int) by omega, show ((i : Int) < (a.length : Int)) by omega, rd_at hlt, rd_at h, w64n (show i ≤ 9223372036854775806 by omega)]
      rw [drop_at h]
      simp only [cmpL]
      by_cases h1 : a[i] < b[i]
      · simp only [if_pos h1]; exact Ev.now _
      · by_cases h2 : b[i] < a[i]
        · simp only [if_neg h1, if_pos (show a[i] > b[i] by omega), if_pos h2]; exact Ev.now _
        · simp only [if_neg h1, if_neg (show ¬ a[i] > b[i] by omega), if_neg h2]; exact ih (i + 1) (by omega) (by omega)
    · simp only [spec_l2Compare.j1, show ¬ ((i : Int) < (b.length : Int)) by omega, decide_false, Bool.false_eq_true, if_false]
      rw [List.drop_of_length_le (l := b) (by omega)]
      simp only [if_neg (show ¬ (a.length : Int) = (b.length : Int) by omega), if_neg (show ¬ (a.length : Int) < (b.length : Int) by omega)]; exact Ev.now _
theorem l2Compare_ev (a b : List Int) (ha : a.length ≤ 9223372036854775806) : Ev (fun k => spec_l2Compare.f k a b) (cmpL a b) := by
  unfold spec_l2Compare.f
  have := l2Compare_l0 a b ha a.length 0 (by omega) (by omega)
  simpa using this

/-- Rows from place i on: each of the width, each behind the one before. -/
noncomputable def rowsR (l : List (List Int)) (w : Int) (i : Nat) : Bool := @decide (∀ j, i ≤ j → ∀ h : j < l.length, (l[j].length : Int) = w ∧ (0 < j → cmpL (l.getD (j - 1) []) l[j] < 0)) (Classical.propDecidable _)
theorem rowsR_end (l : List (List Int)) (w : Int) {i : Nat} (h : l.length ≤ i) : rowsR l w i = true := by unfold rowsR; exact @decide_eq_true _ (Classical.propDecidable _) (fun j hj hl => by omega)
theorem rowsR_no1 (l : List (List Int)) (w : Int) {i : Nat} (h : i < l.length) (h1 : ¬ (l[i].length : Int) = w) : rowsR l w i = false := by unfold rowsR; exact @decide_eq_false _ (Classical.propDecidable _) (fun H => h1 (H i (Nat.le_refl _) h).1)
theorem rowsR_no2 (l : List (List Int)) (w : Int) {i : Nat} (h : i < l.length) (h0 : 0 < i) (h1 : ¬ cmpL (l.getD (i - 1) []) l[i] < 0) : rowsR l w i = false := by unfold rowsR; exact @decide_eq_false _ (Classical.propDecidable _) (fun H => h1 ((H i (Nat.le_refl _) h).2 h0))
theorem rowsR_on (l : List (List Int)) (w : Int) {i : Nat} (h : i < l.length) (h1 : (l[i].length : Int) = w) (h2 : 0 < i → cmpL (l.getD (i - 1) []) l[i] < 0) : rowsR l w i = rowsR l w (i + 1) := by
  unfold rowsR
  rw [decide_eq_decide]
  constructor
  · intro H j hj hl; exact H j (by omega) hl
  · intro H j hj hl
    by_cases e : j = i
    · subst e; exact ⟨h1, h2⟩
    · exact H j (by omega) hl
theorem rowsOK_ev (l : List (List Int)) (w : Int) (hl : l.length ≤ 9223372036854775806) (hll : ∀ x, x ∈ l → x.length ≤ 9223372036854775806) : Ev (fun k => impl_rowsOK.f k l w) (rowsR l w 0) := by
  unfold impl_rowsOK.f
  refine Ev.loop (g := fun k i => impl_rowsOK.l0 k l w l (l.length : Int) (i : Int)) (n := l.length) (R := rowsR l w) ?_ ?_ 0 (Nat.zero_le _)
  · refine Ev.succ ?_
    simp only [impl_rowsOK.l0, if_neg (show ¬ ((l.length : Int) < (l.length : Int)) by omega), rowsR_end l w (Nat.le_refl _)]
    exact Ev.now _
  · intro i hi ih
    refine Ev.succ ?_
    have hr : rd_L1 l (i : Int) = l[i] := getD_at _ hi
    simp only [impl_rowsOK.l0, if_pos (show ((i : Int) < (l.length : Int)) by omega), if_pos (show (0 : Int) ≤ (i : Int) by omega), hr, w64n (show i ≤ 9223372036854775806 by omega)]
    by_cases h1 : (l[i].length : Int) = w
    · simp only [if_pos h1]
      by_cases h0 : i = 0
      · subst h0
        simp only [show ¬ (((0 : Nat) : Int) > 0) by omega, if_false]
        rw [rowsR_on l w hi h1 (fun h => by omega)]; exact ih
      · have hw : wrap64 ((i : Int) - 1) = ((i - 1 : Nat) : Int) := by unfold wrap64; omega
        have hp : rd_L1 l ((i - 1 : Nat) : Int) = l.getD (i - 1) [] := by unfold rd_L1; rw [Int.toNat_natCast]
        have hpl : (l.getD (i - 1) []).length ≤ 9223372036854775806 := by
          have e : l.getD (i - 1) [] = l[i - 1] := by simp [List.getD_eq_getElem?_getD, show i - 1 < l.length by omega]
          rw [e]; exact hll _ (List.getElem_mem _)
        simp only [show ((i : Int) > 0) by omega, if_true, hw, show (0 : Int) ≤ ((i - 1 : Nat) : Int) by omega, show (((i - 1 : Nat) : Int) < (l.length : Int)) by omega, hp]
        refine Ev.bind (slicesCompare_ev _ _ hpl) ?_
        by_cases h2 : cmpL (l.getD (i - 1) []) l[i] < 0
        · simp only [if_neg (show ¬ (cmpL (l.getD (i - 1) []) l[i] ≥ 0) by omega)]
          rw [rowsR_on l w hi h1 (fun _ => h2)]; exact ih
        · simp only [if_pos (show (cmpL (l.getD (i - 1) []) l[i] ≥ 0) by omega)]
          rw [rowsR_no2 l w hi (by omega) h2]; exact Ev.now _
    · simp only [if_neg h1]
      rw [rowsR_no1 l w hi h1]; exact Ev.now _
theorem l2SortedRows_ev (l : List (List Int)) (w : Int) (hl : l.length ≤ 9223372036854775806) (hll : ∀ x, x ∈ l → x.length ≤ 9223372036854775806) : Ev (fun k => spec_l2SortedRows.f k l w) (rowsR l w 0) := by
  unfold spec_l2SortedRows.f
  refine Ev.loop (g := fun k i => spec_l2SortedRows.l0 k l w l (l.length : Int) (i : Int)) (n := l.length) (R := rowsR l w) ?_ ?_ 0 (Nat.zero_le _)
  · refine Ev.succ ?_
    simp only [spec_l2SortedRows.l0, if_neg (show ¬ ((l.length : Int) < (l.length : Int)) by omega), rowsR_end l w (Nat.le_refl _)]
    exact Ev.now _
  · intro i hi ih
    refine Ev.succ ?_
    have hr : rd_L1 l (i : Int) = l[i] := getD_at _ hi
    simp only [spec_l2SortedRows.l0, if_pos (show ((i : Int) < (l.length : Int)) by omega), if_pos (show (0 : Int) ≤ (i : Int) by omega), hr, w64n (show i ≤ 9223372036854775806 by omega)]
    by_cases h1 : (l[i].length : Int) = w
    · simp only [if_pos h1]
      by_cases h0 : i = 0
      · subst h0
        simp only [show ¬ (((0 : Nat) : Int) > 0) by omega, if_false]
        rw [rowsR_on l w hi h1 (fun h => by omega)]; exact ih
      · have hw : wrap64 ((i : Int) - 1) = ((i - 1 : Nat) : Int) := by unfold wrap64; omega
        have hp : rd_L1 l ((i - 1 : Nat) : Int) = l.getD (i - 1) [] := by unfold rd_L1; rw [Int.toNat_natCast]
        have hpl : (l.getD (i - 1) []).length ≤ 9223372036854775806 := by
          have e : l.getD (i - 1) [] = l[i - 1] := by simp [List.getD_eq_getElem?_getD, show i - 1 < l.length by omega]
          rw [e]; exact hll _ (List.getElem_mem _)
        simp only [show ((i : Int) > 0) by omega, if_true, hw, show (0 : Int) ≤ ((i - 1 : Nat) : Int) by omega, show (((i - 1 : Nat) : Int) < (l.length : Int)) by omega, hp]
        refine Ev.bind (l2Compare_ev _ _ hpl) ?_
        by_cases h2 : cmpL (l.getD (i - 1) []) l[i] < 0
        · simp only [if_neg (show ¬ (cmpL (l.getD (i - 1) []) l[i] ≥ 0) by omega)]
          rw [rowsR_on l w hi h1 (fun _ => h2)]; exact ih
        · simp only [if_pos (show (cmpL (l.getD (i - 1) []) l[i] ≥ 0) by omega)]
          rw [rowsR_no2 l w hi (by omega) h2]; exact Ev.now _
    · simp only [if_neg h1]
      rw [rowsR_no1 l w hi h1]; exact Ev.now _

/-- What a table must be. -/
noncomputable def tableOKb (vars : List Int) (rows : List (List Int)) (ws : List Int) : Bool := asc (-1) vars && decide (rows.length ≤ 10000) && decide (ws.length = rows.length) && rowsR rows vars.length 0
theorem implTableOK_ev (vars : List Int) (rows : List (List Int)) (ws : List Int) (h1 : vars.length ≤ 1048576) (h2 : rows.length ≤ 1048576) (h3 : ∀ x, x ∈ rows → x.length ≤ 9223372036854775806) : Ev (fun k => impl_TableOK.f k vars rows ws) (tableOKb vars rows ws) := by
  unfold impl_TableOK.f tableOKb
  refine Ev.bind (setOK_ev vars (by omega)) ?_
  cases hs : asc (-1) vars with
  | false => simp only [Bool.false_eq_true, if_false, Bool.false_and]; exact Ev.now _
  | true =>
    simp only [if_true, Bool.true_and]
    by_cases hr : rows.length ≤ 10000
    · simp only [if_pos (show (rows.length : Int) ≤ 10000 by omega), hr, decide_true, Bool.true_and]
      by_cases hw : ws.length = rows.length
      · simp only [if_pos (show (ws.length : Int) = (rows.length : Int) by omega), hw, decide_true, Bool.true_and]
        exact Ev.bind (rowsOK_ev rows _ (by omega) h3) (Ev.now _)
      · simp only [if_neg (show ¬ (ws.length : Int) = (rows.length : Int) by omega), hw, decide_false, Bool.false_and]; exact Ev.now _
    · simp only [if_neg (show ¬ (rows.length : Int) ≤ 10000 by omega), hr, decide_false, Bool.false_and]; exact Ev.now _
theorem specTableOK_ev (vars : List Int) (rows : List (List Int)) (ws : List Int) (h1 : vars.length ≤ 1048576) (h2 : rows.length ≤ 1048576) (h3 : ∀ x, x ∈ rows → x.length ≤ 9223372036854775806) : Ev (fun k => spec_TableOK.f k vars rows ws) (tableOKb vars rows ws) := by
  unfold spec_TableOK.f tableOKb
  refine Ev.bind (l1SetOK_ev vars (by omega)) ?_
  cases hs : asc (-1) vars with
  | false => simp only [Bool.false_eq_true, if_false, Bool.false_and]; exact Ev.now _
  | true =>
    simp only [if_true, Bool.true_and]
    by_cases hr : rows.length ≤ 10000
    · simp only [if_pos (show (rows.length : Int) ≤ 10000 by omega), hr, decide_true, Bool.true_and]
      refine Ev.bind (l2SortedRows_ev rows _ (by omega) h3) ?_
      cases hrr : rowsR rows vars.length 0 with
      | false => simp only [Bool.false_eq_true, if_false, Bool.and_false]; exact Ev.now _
      | true =>
        simp only [if_true, Bool.and_true]
        have : decide (ws.length = rows.length) = ((ws.length : Int) == (rows.length : Int)) := by
          by_cases e : ws.length = rows.length
          · simp [e]
          · simp [e]; omega
        rw [this]; exact Ev.now _
    · simp only [if_neg (show ¬ (rows.length : Int) ≤ 10000 by omega), hr, decide_false, Bool.false_and]; exact Ev.now _
end Go.Proofs.Ytdafgdiahcjimaa.PT
