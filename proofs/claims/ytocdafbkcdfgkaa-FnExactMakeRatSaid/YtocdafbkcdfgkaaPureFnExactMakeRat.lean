/-
  For all integers num and den the program's MakeRat and the reference's give the same rational; no condition.
-/
import Derived.Test.YtocdafbkcdfgkaaPFnExactMakeRatx2
import Derived.Test.YtocdafbkcdfgkaaNum
namespace Go.Proofs.Ytocdafbkcdfgkaa.Pure
open Go.RowKit Go.Proofs.Ytocdafbkcdfgkaa.PFnExactMakeRat Go.Proofs.YtocdafbkcdfgkaaW.PrintWords Go.Proofs.YtocdafbkcdfgkaaW.PrintLast Go.Proofs.Ytocdafbkcdfgkaa.Num

theorem wrap64_id {n : Int} (h1 : -9223372036854775808 ≤ n) (h2 : n ≤ 9223372036854775807) : wrap64 n = n := by
  unfold wrap64; omega

theorem l1Gcd_eq : ∀ (n k : Nat) (a b : Int), 0 ≤ a → 0 ≤ b → b.natAbs ≤ n → n < k → spec_l1Gcd.f k a b = some (Int.gcd a b : Int)
  | n, 0, _, _, _, _, _, hk => absurd hk (by omega)
  | n, k + 1, a, b, ha, hb, hn, hk => by
    simp only [spec_l1Gcd.f]
    by_cases h : b = 0
    · subst h; rw [if_pos rfl, Int.gcd_zero]; congr 1; omega
    · rw [if_neg h]
      have hlt := Int.tmod_lt_of_pos a (show 0 < b by omega)
      have hge := Int.tmod_nonneg b ha
      rw [l1Gcd_eq (n - 1) k b (a.tmod b) hb hge (by omega) (by omega), gcd_step]; rfl

theorem mx_abs {a : Int} (h1 : -9223372036854775807 ≤ a) (h2 : a ≤ 9223372036854775807) : mx a (wrap64 (-a)) = (a.natAbs : Int) := by
  rw [wrap64_id (by omega) (by omega)]; unfold mx; split <;> omega

theorem gcd_l0_eq : ∀ (n k : Nat) (a b : Int), a.natAbs ≤ 9223372036854775807 → b.natAbs ≤ 9223372036854775807 → b.natAbs ≤ n → n < k → impl_gcd.l0 k a b = some (Int.gcd a b : Int)
  | n, 0, _, _, _, _, _, hk => absurd hk (by omega)
  | n, k + 1, a, b, ha, hb, hn, hk => by
    simp only [impl_gcd.l0]
    by_cases h : b = 0
    · subst h; rw [if_pos rfl, Int.gcd_zero, mx_abs (by omega) (by omega)]
    · rw [if_neg h]
      have hlt : (a.tmod b).natAbs < b.natAbs := by rw [Int.natAbs_tmod]; exact Nat.mod_lt _ (by omega)
      rw [gcd_l0_eq (n - 1) k b (a.tmod b) hb (by omega) (by omega) (by omega), gcd_step]

theorem gcd_eq (k : Nat) (a b : Int) (ha : a.natAbs ≤ 9223372036854775807) (hb : b.natAbs ≤ 9223372036854775807) (hk : b.natAbs < k) : impl_gcd.f k a b = some (Int.gcd a b : Int) :=
  gcd_l0_eq b.natAbs k a b ha hb (Nat.le_refl _) hk

theorem between_eq (a b c : Int) : spec_l1Between.f a b c = some (decide (b ≤ a ∧ a ≤ c)) := by
  unfold spec_l1Between.f
  by_cases h : b ≤ a
  · rw [if_pos h]; simp [h]
  · rw [if_neg h]; simp [h]
theorem within_eq (a b c : Int) : impl_within.f a b c = some (decide (b ≤ a ∧ a ≤ c)) := by
  unfold impl_within.f
  by_cases h : a ≥ b
  · rw [if_pos h]; simp [h]
  · rw [if_neg h]; simp [h]

theorem abs_eq (a : Int) (h1 : a.natAbs ≤ 9223372036854775807) : spec_l1Abs.f a = some (a.natAbs : Int) := by
  unfold spec_l1Abs.f
  split
  · rw [wrap64_id (by omega) (by omega)]; congr 1; omega
  · congr 1; omega

/-- An OK rational. -/
def RatOK (n d : Int) : Prop := 1 ≤ d ∧ d ≤ 1000000 ∧ -1000000 ≤ n ∧ n ≤ 1000000 ∧ Int.gcd n d = 1
instance (n d : Int) : Decidable (RatOK n d) := by unfold RatOK; infer_instance

theorem ratOK_impl (k : Nat) (n d : Int) (hk : 1000000 < k) : impl_Rat_ok.f k n d = some (decide (RatOK n d)) := by
  unfold impl_Rat_ok.f
  rw [within_eq]; simp only [Option.bind_some]
  by_cases h : 1 ≤ d ∧ d ≤ 1000000
  · rw [if_pos (by simpa using h), within_eq]; simp only [Option.bind_some]
    by_cases h2 : -1000000 ≤ n ∧ n ≤ 1000000
    · rw [if_pos (by simpa using h2), gcd_eq k _ _ (by omega) (by omega) (by omega)]; simp only [Option.bind_some]
      congr 1
      rw [Bool.eq_iff_iff]; unfold RatOK; simp [h, h2]; omega
    · rw [if_neg (by simpa using h2), decide_eq_false (p := RatOK n d) (fun ⟨_, _, _, _, _⟩ => by omega)]
  · rw [if_neg (by simpa using h), decide_eq_false (p := RatOK n d) (fun ⟨_, _, _, _, _⟩ => by omega)]

theorem frac_spec (k : Nat) (n d : Int) (hd : d ≠ 0) (hn : n.natAbs ≤ 9223372036854775807) (hd2 : d.natAbs ≤ 9223372036854775807) (hk : d.natAbs < k) :
    spec_l1Frac.f k n d = some (fracN n d, fracD n d) := by
  have hg := gcd_pos (n := n) hd
  have hgl : (Int.gcd n d : Int) ≤ d.natAbs := by
    have := Int.gcd_le_natAbs_right n (b := d) (by omega); omega
  have hN := fracN_abs (n := n) hd
  have hD := fracD_abs (n := n) hd
  have hga : (Int.gcd (n.natAbs : Int) (d.natAbs : Int) : Int) = Int.gcd n d := by unfold Int.gcd; simp
  unfold spec_l1Frac.f
  rw [abs_eq _ hn, abs_eq _ hd2]; simp only [Option.bind_some]
  rw [l1Gcd_eq d.natAbs k _ _ (by omega) (by omega) (by omega) hk]; simp only [Option.bind_some]
  rw [hga]
  unfold fracN fracD at *
  by_cases h : d < 0
  · rw [if_pos h, wrap64_id (n := -(Int.gcd n d : Int)) (by omega) (by omega), if_neg (by omega), tdiv_gcd_left_neg, tdiv_gcd_right_neg]
    rw [if_pos h] at hN hD ⊢
    rw [if_pos h, wrap64_id (by omega) (by omega), wrap64_id (by omega) (by omega)]
  · rw [if_neg h, if_neg (by omega), tdiv_gcd_left, tdiv_gcd_right]
    rw [if_neg h] at hN hD ⊢
    rw [if_neg h, wrap64_id (by omega) (by omega), wrap64_id (by omega) (by omega)]

theorem frac_impl (k : Nat) (n d : Int) (hd : d ≠ 0) (hn : n.natAbs ≤ 9223372036854775807) (hd2 : d.natAbs ≤ 9223372036854775807) (hk : d.natAbs < k) (hk2 : 1000000 < k) :
    impl_fraction.f k n d = some (if RatOK (fracN n d) (fracD n d) then (fracN n d, fracD n d) else (0, 0)) := by
  have hg := gcd_pos (n := n) hd
  have hgl : (Int.gcd n d : Int) ≤ d.natAbs := by
    have := Int.gcd_le_natAbs_right n (b := d) (by omega); omega
  have hN := fracN_abs (n := n) hd
  have hD := fracD_abs (n := n) hd
  unfold impl_fraction.f
  rw [gcd_eq k n d hn hd2 hk]; simp only [Option.bind_some]
  unfold fracN fracD at *
  by_cases h : d < 0
  · rw [if_pos h, wrap64_id (n := -(Int.gcd n d : Int)) (by omega) (by omega), if_neg (by omega), tdiv_gcd_left_neg, tdiv_gcd_right_neg]
    rw [if_pos h] at hN hD
    rw [wrap64_id (n := -(n / _)) (by omega) (by omega), wrap64_id (n := -(d / _)) (by omega) (by omega), ratOK_impl _ _ _ hk2]; simp only [Option.bind_some, decide_eq_true_eq, if_pos h]
    split <;> rfl
  · rw [if_neg h, if_neg (by omega), tdiv_gcd_left, tdiv_gcd_right]
    rw [if_neg h] at hN hD
    rw [wrap64_id (n := (n / _)) (by omega) (by omega), wrap64_id (n := (d / _)) (by omega) (by omega), ratOK_impl _ _ _ hk2]; simp only [Option.bind_some, decide_eq_true_eq, if_neg h]
    split <;> rfl

theorem makeRat_ok {n d : Int} (hd : d ≠ 0) (hn : -1000000 ≤ n ∧ n ≤ 1000000) (hd2 : -1000000 ≤ d ∧ d ≤ 1000000) : RatOK (fracN n d) (fracD n d) := by
  have hN := fracN_abs (n := n) hd
  have hD := fracD_abs (n := n) hd
  have hp := fracD_pos (n := n) hd
  exact ⟨by omega, by omega, by omega, by omega, frac_coprime hd⟩

theorem FnExactMakeRat : laws_FnExactMakeRat.Pure := by
  intro n d _ _
  refine ⟨1000001, ?_⟩
  have key : ∃ r, spec_MakeRat.f 1000001 n d = some r ∧ impl_MakeRat.f 1000001 n d = some r := by
    unfold spec_MakeRat.f impl_MakeRat.f
    by_cases hd : d = 0
    · rw [if_pos hd, if_pos hd]; exact ⟨_, rfl, rfl⟩
    · rw [if_neg hd, if_neg hd, between_eq, within_eq]; simp only [Option.bind_some]
      by_cases hn : -1000000 ≤ n ∧ n ≤ 1000000
      · rw [if_pos (by simpa using hn), if_pos (by simpa using hn), between_eq, within_eq]; simp only [Option.bind_some]
        by_cases hd2 : -1000000 ≤ d ∧ d ≤ 1000000
        · rw [if_pos (by simpa using hd2), if_pos (by simpa using hd2), frac_spec _ _ _ hd (by omega) (by omega) (by omega), frac_impl _ _ _ hd (by omega) (by omega) (by omega) (by omega),
            if_pos (makeRat_ok hd hn hd2)]
          exact ⟨_, rfl, rfl⟩
        · rw [if_neg (by simpa using hd2), if_neg (by simpa using hd2)]; exact ⟨_, rfl, rfl⟩
      · rw [if_neg (by simpa using hn), if_neg (by simpa using hn)]; exact ⟨_, rfl, rfl⟩
  obtain ⟨r, h1, h2⟩ := key
  unfold laws_FnExactMakeRat.f
  rw [h1, h2]; simp only [Option.bind_some]
  unfold laws_eqRat.f
  simp

end Go.Proofs.Ytocdafbkcdfgkaa.Pure
