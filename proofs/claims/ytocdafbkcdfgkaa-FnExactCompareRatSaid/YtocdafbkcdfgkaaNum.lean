namespace Go.Proofs.Ytocdafbkcdfgkaa.Num
theorem wrap_id {n : Int} (h1 : -9223372036854775808 ≤ n) (h2 : n ≤ 9223372036854775807) :
    (n + 9223372036854775808) % 18446744073709551616 - 9223372036854775808 = n := by omega

theorem gcd_step (a b : Int) : Int.gcd b (a.tmod b) = Int.gcd a b := by
  unfold Int.gcd
  rw [Int.natAbs_tmod, Nat.gcd_comm a.natAbs, Nat.gcd_rec b.natAbs a.natAbs, Nat.gcd_comm]

/-- num and den without common divisors, den made positive. -/
def fracN (n d : Int) : Int := if d < 0 then -(n / (Int.gcd n d : Int)) else n / (Int.gcd n d : Int)
def fracD (n d : Int) : Int := if d < 0 then -(d / (Int.gcd n d : Int)) else d / (Int.gcd n d : Int)

theorem gcd_pos {n d : Int} (h : d ≠ 0) : 0 < (Int.gcd n d : Int) := by
  have := Int.gcd_pos_of_ne_zero_right n h
  omega

theorem tdiv_gcd_left (n d : Int) : Int.tdiv n (Int.gcd n d : Int) = n / (Int.gcd n d : Int) :=
  Int.tdiv_eq_ediv_of_dvd (Int.gcd_dvd_left n d)
theorem tdiv_gcd_right (n d : Int) : Int.tdiv d (Int.gcd n d : Int) = d / (Int.gcd n d : Int) :=
  Int.tdiv_eq_ediv_of_dvd (Int.gcd_dvd_right n d)
theorem tdiv_gcd_left_neg (n d : Int) : Int.tdiv n (-(Int.gcd n d : Int)) = -(n / (Int.gcd n d : Int)) := by
  rw [Int.tdiv_neg, tdiv_gcd_left]
theorem tdiv_gcd_right_neg (n d : Int) : Int.tdiv d (-(Int.gcd n d : Int)) = -(d / (Int.gcd n d : Int)) := by
  rw [Int.tdiv_neg, tdiv_gcd_right]

theorem div_gcd_gcd {n d : Int} (h : d ≠ 0) : Int.gcd (n / (Int.gcd n d : Int)) (d / (Int.gcd n d : Int)) = 1 := by
  rw [Int.gcd_ediv (Int.gcd_dvd_left n d) (Int.gcd_dvd_right n d)]
  have := gcd_pos (n := n) h
  simp only [Int.natAbs_natCast]
  exact Nat.div_self (by omega)

theorem frac_coprime {n d : Int} (h : d ≠ 0) : Int.gcd (fracN n d) (fracD n d) = 1 := by
  unfold fracN fracD
  split
  · rw [Int.gcd_neg, Int.neg_gcd]; exact div_gcd_gcd h
  · exact div_gcd_gcd h

theorem fracD_pos {n d : Int} (h : d ≠ 0) : 0 < fracD n d := by
  have hg := gcd_pos (n := n) h
  have hd := Int.ediv_mul_cancel (Int.gcd_dvd_right n d)
  unfold fracD
  generalize (Int.gcd n d : Int) = g at *
  generalize d / g = q at *
  split
  · have : q < 0 := by
      apply Int.lt_of_not_ge; intro hq
      have := Int.mul_nonneg hq (Int.le_of_lt hg); omega
    omega
  · have : 0 < q := by
      apply Int.lt_of_not_ge; intro hq
      have := Int.mul_nonpos_of_nonpos_of_nonneg hq (Int.le_of_lt hg); omega
    omega

theorem frac_mul_left (n d : Int) : fracN n d * (Int.gcd n d : Int) = if d < 0 then -n else n := by
  unfold fracN; split
  · rw [Int.neg_mul, Int.ediv_mul_cancel (Int.gcd_dvd_left n d)]
  · rw [Int.ediv_mul_cancel (Int.gcd_dvd_left n d)]
theorem frac_mul_right (n d : Int) : fracD n d * (Int.gcd n d : Int) = if d < 0 then -d else d := by
  unfold fracD; split
  · rw [Int.neg_mul, Int.ediv_mul_cancel (Int.gcd_dvd_right n d)]
  · rw [Int.ediv_mul_cancel (Int.gcd_dvd_right n d)]

theorem div_abs_le (a g : Int) (hg : 0 < g) (h : g ∣ a) : (a / g).natAbs ≤ a.natAbs := by
  obtain ⟨c, rfl⟩ := h
  rw [Int.mul_ediv_cancel_left _ (by omega), Int.natAbs_mul]
  exact Nat.le_mul_of_pos_left _ (by omega)

theorem fracN_abs {n d : Int} (h : d ≠ 0) : (fracN n d).natAbs ≤ n.natAbs := by
  unfold fracN
  have := div_abs_le n _ (gcd_pos h) (Int.gcd_dvd_left n d)
  split <;> omega
theorem fracD_abs {n d : Int} (h : d ≠ 0) : (fracD n d).natAbs ≤ d.natAbs := by
  unfold fracD
  have := div_abs_le d _ (gcd_pos h) (Int.gcd_dvd_right n d)
  split <;> omega
end Go.Proofs.Ytocdafbkcdfgkaa.Num
