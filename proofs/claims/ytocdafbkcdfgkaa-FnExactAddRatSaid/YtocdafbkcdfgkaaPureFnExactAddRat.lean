/-
  For all pairs of rationals, OK or not, the program's AddRat and the reference's give the same rational; no condition.
-/
import Derived.Test.YtocdafbkcdfgkaaPFnExactAddRatx3
import Derived.Test.YtocdafbkcdfgkaaNum
namespace Go.Proofs.Ytocdafbkcdfgkaa.Pure
open Go.RowKit Go.Proofs.Ytocdafbkcdfgkaa.PFnExactAddRat Go.Proofs.YtocdafbkcdfgkaaW.PrintWords Go.Proofs.YtocdafbkcdfgkaaW.PrintLast Go.Proofs.Ytocdafbkcdfgkaa.Num

theorem wrap64_id {n : Int} (h1 : -9223372036854775808 ≤ n) (h2 : n ≤ 9223372036854775807) : wrap64 n = n := by
  unfold wrap64; omega

theorem l1Gcd_eq : ∀ (n k : Nat) (a b : Int), 0 ≤ a → 0 ≤ b → b.natAbs ≤ n → n < k → spec_l1Gcd.f k a b = some (Int.gcd a b : Int)
  | n, 0, _, _, _, _, _, hk => absurd hk (by omega)
  | n, k + 1, a, b, ha, hb, hn, hk => by
    simp only [spec_l1Gcd.f]
    by_cases h : b = 0
    · subst h; rw [if_pos rfl, Int.gcd_zero]; congr 1; omega
    · rw [if_neg h]
      have hlt := Int.tmod_lt_of_pos a (show 0 < b by omega)
      have hge := Int.tmod_nonneg b ha
      rw [l1Gcd_eq (n - 1) k b (a.tmod b) hb hge (by omega) (by omega), gcd_step]; rfl

theorem mx_abs {a : Int} (h1 : -9223372036854775807 ≤ a) (h2 : a ≤ 9223372036854775807) : mx a (wrap64 (-a)) = (a.natAbs : Int) := by
  rw [wrap64_id (by omega) (by omega)]; unfold mx; split <;> omega

theorem gcd_l0_eq : ∀ (n k : Nat) (a b : Int), a.natAbs ≤ 9223372036854775807 → b.natAbs ≤ 9223372036854775807 → b.natAbs ≤ n → n < k → impl_gcd.l0 k a b = some (Int.gcd a b : Int)
  | n, 0, _, _, _, _, _, hk => absurd hk (by omega)
  | n, k + 1, a, b, ha, hb, hn, hk => by
    simp only [impl_gcd.l0]
    by_cases h : b = 0
    · subst h; rw [if_pos rfl, Int.gcd_zero, mx_abs (by omega) (by omega)]
    · rw [if_neg h]
      have hlt : (a.tmod b).natAbs < b.natAbs := by rw [Int.natAbs_tmod]; exact Nat.mod_lt _ (by omega)
      rw [gcd_l0_eq (n - 1) k b (a.tmod b) hb (by omega) (by omega) (by omega), gcd_step]

theorem gcd_eq (k : Nat) (a b : Int) (ha : a.natAbs ≤ 9223372036854775807) (hb : b.natAbs ≤ 9223372036854775807) (hk : b.natAbs < k) : impl_gcd.f k a b = some (Int.gcd a b : Int) :=
  gcd_l0_eq b.natAbs k a b ha hb (Nat.le_refl _) hk

theorem between_eq (a b c : Int) : spec_l1Between.f a b c = some (decide (b ≤ a ∧ a ≤ c)) := by
  unfold spec_l1Between.f
  by_cases h : b ≤ a
  · rw [if_pos h]; simp [h]
  · rw [if_neg h]; simp [h]
theorem within_eq (a b c : Int) : impl_within.f a b c = some (decide (b ≤ a ∧ a ≤ c)) := by
  unfold impl_within.f
  by_cases h : a ≥ b
  · rw [if_pos h]; simp [h]
  · rw [if_neg h]; simp [h]

theorem abs_eq (a : Int) (h1 : a.natAbs ≤ 9223372036854775807) : spec_l1Abs.f a = some (a.natAbs : Int) := by
  unfold spec_l1Abs.f
  split
  · rw [wrap64_id (by omega) (by omega)]; congr 1; omega
  · congr 1; omega

/-- An OK rational. -/
def RatOK (n d : Int) : Prop := 1 ≤ d ∧ d ≤ 1000000 ∧ -1000000 ≤ n ∧ n ≤ 1000000 ∧ Int.gcd n d = 1
instance (n d : Int) : Decidable (RatOK n d) := by unfold RatOK; infer_instance

theorem ratOK_spec (k : Nat) (n d : Int) (hk : 1000000 < k) : spec_l1RatOK.f k n d = some (decide (RatOK n d)) := by
  unfold spec_l1RatOK.f
  rw [between_eq]; simp only [Option.bind_some]
  by_cases h : 1 ≤ d ∧ d ≤ 1000000
  · rw [if_pos (by simpa using h), between_eq]; simp only [Option.bind_some]
    by_cases h2 : -1000000 ≤ n ∧ n ≤ 1000000
    · rw [if_pos (by simpa using h2), abs_eq _ (by omega)]; simp only [Option.bind_some]
      rw [l1Gcd_eq d.natAbs k _ _ (by omega) (by omega) (Nat.le_refl _) (by omega)]; simp only [Option.bind_some]
      congr 1
      have : Int.gcd (n.natAbs : Int) d = Int.gcd n d := by unfold Int.gcd; simp
      rw [this, Bool.eq_iff_iff]; unfold RatOK; simp [h, h2]; omega
    · rw [if_neg (by simpa using h2), decide_eq_false (p := RatOK n d) (fun ⟨_, _, _, _, _⟩ => by omega)]
  · rw [if_neg (by simpa using h), decide_eq_false (p := RatOK n d) (fun ⟨_, _, _, _, _⟩ => by omega)]

theorem ratOK_impl (k : Nat) (n d : Int) (hk : 1000000 < k) : impl_Rat_ok.f k n d = some (decide (RatOK n d)) := by
  unfold impl_Rat_ok.f
  rw [within_eq]; simp only [Option.bind_some]
  by_cases h : 1 ≤ d ∧ d ≤ 1000000
  · rw [if_pos (by simpa using h), within_eq]; simp only [Option.bind_some]
    by_cases h2 : -1000000 ≤ n ∧ n ≤ 1000000
    · rw [if_pos (by simpa using h2), gcd_eq k _ _ (by omega) (by omega) (by omega)]; simp only [Option.bind_some]
      congr 1
      rw [Bool.eq_iff_iff]; unfold RatOK; simp [h, h2]; omega
    · rw [if_neg (by simpa using h2), decide_eq_false (p := RatOK n d) (fun ⟨_, _, _, _, _⟩ => by omega)]
  · rw [if_neg (by simpa using h), decide_eq_false (p := RatOK n d) (fun ⟨_, _, _, _, _⟩ => by omega)]

theorem frac_spec (k : Nat) (n d : Int) (hd : d ≠ 0) (hn : n.natAbs ≤ 9223372036854775807) (hd2 : d.natAbs ≤ 9223372036854775807) (hk : d.natAbs < k) :
    spec_l1Frac.f k n d = some (fracN n d, fracD n d) := by
  have hg := gcd_pos (n := n) hd
  have hgl : (Int.gcd n d : Int) ≤ d.natAbs := by
    have := Int.gcd_le_natAbs_right n (b := d) (by omega); omega
  have hN := fracN_abs (n := n) hd
  have hD := fracD_abs (n := n) hd
  have hga : (Int.gcd (n.natAbs : Int) (d.natAbs : Int) : Int) = Int.gcd n d := by unfold Int.gcd; simp
  unfold spec_l1Frac.f
  rw [abs_eq _ hn, abs_eq _ hd2]; simp only [Option.bind_some]
  rw [l1Gcd_eq d.natAbs k _ _ (by omega) (by omega) (by omega) hk]; simp only [Option.bind_some]
  rw [hga]
  unfold fracN fracD at *
  by_cases h : d < 0
  · rw [if_pos h, wrap64_id (n := -(Int.gcd n d : Int)) (by omega) (by omega), if_neg (by omega), tdiv_gcd_left_neg, tdiv_gcd_right_neg]
    rw [if_pos h] at hN hD ⊢
    rw [if_pos h, wrap64_id (by omega) (by omega), wrap64_id (by omega) (by omega)]
  · rw [if_neg h, if_neg (by omega), tdiv_gcd_left, tdiv_gcd_right]
    rw [if_neg h] at hN hD ⊢
    rw [if_neg h, wrap64_id (by omega) (by omega), wrap64_id (by omega) (by omega)]

theorem frac_impl (k : Nat) (n d : Int) (hd : d ≠ 0) (hn : n.natAbs ≤ 9223372036854775807) (hd2 : d.natAbs ≤ 9223372036854775807) (hk : d.natAbs < k) (hk2 : 1000000 < k) :
    impl_fraction.f k n d = some (if RatOK (fracN n d) (fracD n d) then (fracN n d, fracD n d) else (0, 0)) := by
  have hg := gcd_pos (n := n) hd
  have hgl : (Int.gcd n d : Int) ≤ d.natAbs := by
    have := Int.gcd_le_natAbs_right n (b := d) (by omega); omega
  have hN := fracN_abs (n := n) hd
  have hD := fracD_abs (n := n) hd
  unfold impl_fraction.f
  rw [gcd_eq k n d hn hd2 hk]; simp only [Option.bind_some]
  unfold fracN fracD at *
  by_cases h : d < 0
  · rw [if_pos h, wrap64_id (n := -(Int.gcd n d : Int)) (by omega) (by omega), if_neg (by omega), tdiv_gcd_left_neg, tdiv_gcd_right_neg]
    rw [if_pos h] at hN hD
    rw [wrap64_id (n := -(n / _)) (by omega) (by omega), wrap64_id (n := -(d / _)) (by omega) (by omega), ratOK_impl _ _ _ hk2]; simp only [Option.bind_some, decide_eq_true_eq, if_pos h]
    split <;> rfl
  · rw [if_neg h, if_neg (by omega), tdiv_gcd_left, tdiv_gcd_right]
    rw [if_neg h] at hN hD
    rw [wrap64_id (n := (n / _)) (by omega) (by omega), wrap64_id (n := (d / _)) (by omega) (by omega), ratOK_impl _ _ _ hk2]; simp only [Option.bind_some, decide_eq_true_eq, if_neg h]
    split <;> rfl

theorem mul_abs {a b A B : Int} (ha : a.natAbs ≤ A) (hb : b.natAbs ≤ B) : ((a * b).natAbs : Int) ≤ A * B := by
  rw [Int.natAbs_mul]
  have h1 : ((a.natAbs * b.natAbs : Nat) : Int) = (a.natAbs : Int) * (b.natAbs : Int) := Int.natCast_mul _ _
  rw [h1]
  exact Int.mul_le_mul ha hb (by omega) (by omega)

theorem prod_abs {a b : Int} (ha : a.natAbs ≤ 1000000) (hb : b.natAbs ≤ 1000000) : (a * b).natAbs ≤ 1000000000000 := by
  have := mul_abs (A := 1000000) (B := 1000000) (show (a.natAbs : Int) ≤ _ by omega) (show (b.natAbs : Int) ≤ _ by omega)
  omega

theorem key {k : Nat} (hk : 1000000000001 < k) (a b c d : Int) : ∃ r, spec_AddRat.f k a b c d = some r ∧ impl_AddRat.f k a b c d = some r := by
  obtain ⟨k, rfl⟩ : ∃ m, k = m + 1 := ⟨k - 1, by omega⟩
  unfold spec_AddRat.f impl_AddRat.f
  rw [ratOK_spec _ _ _ (by omega), ratOK_impl _ _ _ (by omega)]; simp only [Option.bind_some, decide_eq_true_eq]
  by_cases h1 : RatOK a b
  · rw [if_pos h1, if_pos h1, ratOK_spec _ _ _ (by omega), ratOK_impl _ _ _ (by omega)]; simp only [Option.bind_some, decide_eq_true_eq]
    by_cases h2 : RatOK c d
    · rw [if_pos h2]
      simp only [spec_AddRat.j0, h2, decide_true, Bool.not_true, Bool.false_eq_true, if_false]
      unfold spec_l1Plus.f
      obtain ⟨b1, b2, a1, a2, _⟩ := h1
      obtain ⟨d1, d2, c1, c2, _⟩ := h2
      have p1 := prod_abs (a := a) (b := d) (by omega) (by omega)
      have p2 := prod_abs (a := c) (b := b) (by omega) (by omega)
      have p3 := prod_abs (a := b) (b := d) (by omega) (by omega)
      have p4 : 0 < b * d := Int.mul_pos (by omega) (by omega)
      rw [wrap64_id (n := a * d) (by omega) (by omega), wrap64_id (n := c * b) (by omega) (by omega), wrap64_id (n := b * d) (by omega) (by omega),
        wrap64_id (n := a * d + c * b) (by omega) (by omega)]
      have px : (a * d + c * b).natAbs ≤ 2000000000000 := by omega
      generalize a * d + c * b = x at *
      generalize b * d = y at *
      rw [frac_spec _ _ _ (by omega) (by omega) (by omega) (by omega), frac_impl _ _ _ (by omega) (by omega) (by omega) (by omega) (by omega)]
      simp only [Option.bind_some]
      rw [ratOK_spec _ _ _ (by omega)]; simp only [Option.bind_some, decide_eq_true_eq]
      by_cases h3 : RatOK (fracN x y) (fracD x y)
      · rw [if_pos h3, if_pos h3]; exact ⟨_, rfl, rfl⟩
      · rw [if_neg h3, if_neg h3]; exact ⟨_, rfl, rfl⟩
    · rw [if_neg h2]
      simp only [spec_AddRat.j0, h2, decide_false, Bool.not_false, if_true]
      exact ⟨_, rfl, rfl⟩
  · rw [if_neg h1, if_neg h1]
    simp only [spec_AddRat.j0, if_true]
    exact ⟨_, rfl, rfl⟩

theorem FnExactAddRat (a b c d : Int) : ∃ k, laws_FnExactAddRat.f k a b c d = some true := by
  refine ⟨1000000000002, ?_⟩
  obtain ⟨r, h1, h2⟩ := key (by omega : 1000000000001 < 1000000000002) a b c d
  unfold laws_FnExactAddRat.f laws_toRat.f
  simp only [Option.bind_some]
  rw [h1, h2]; simp only [Option.bind_some]
  unfold laws_eqRat.f
  simp

end Go.Proofs.Ytocdafbkcdfgkaa.Pure
