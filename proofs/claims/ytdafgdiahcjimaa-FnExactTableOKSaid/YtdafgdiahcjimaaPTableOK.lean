/-
  For every table the program's TableOK and the reference's tell the same, and the table is left as it was; no condition.
-/
import Derived.Test.YtdafgdiahcjimaaPTable
namespace Go.Proofs.Ytdafgdiahcjimaa.PT
open Go.RowKit Go.Proofs.Ytdafgdiahcjimaa.P Go.Proofs.YtdafgdiahcjimaaW.PrintWords Go.Proofs.YtdafgdiahcjimaaW.PrintLast Go.Proofs.Ytdafgdiahcjimaa.EvKit
set_option linter.unusedSimpArgs false

theorem szSS_le : ∀ (l : List (List Int)) (a : Int), 0 ≤ szSS a l → 0 ≤ a ∧ szSS a l ≤ a ∧ ∀ x, x ∈ l → (x.length : Int) ≤ a
  | [], a, h => ⟨h, Int.le_refl _, fun x hx => by simp at hx⟩
  | y :: r, a, h => by
    simp only [szSS] at h ⊢
    by_cases h1 : a - y.length < 0
    · rw [if_pos h1] at h; omega
    · rw [if_neg h1] at h ⊢
      obtain ⟨h2, h3, h4⟩ := szSS_le r _ h
      refine ⟨by omega, by omega, fun x hx => ?_⟩
      rcases List.mem_cons.1 hx with rfl | hx
      · omega
      · have := h4 x hx; omega

/-- What is left of 1048576 behind a table. -/
def szT (v : List Int) (r : List (List Int)) (w : List Int) (a : Int) : Int :=
  if a - v.length < 0 then -1 else if szIntSSv r (a - v.length) < 0 then -1 else if szIntSSv r (a - v.length) - w.length < 0 then -1 else szIntSSv r (a - v.length) - w.length
theorem szIntSSv_le (r : List (List Int)) (a : Int) (h : 0 ≤ szIntSSv r a) : (r.length : Int) ≤ a ∧ szIntSSv r a ≤ a ∧ ∀ x, x ∈ r → (x.length : Int) ≤ a := by
  unfold szIntSSv at h ⊢
  by_cases h1 : a - r.length < 0
  · rw [if_pos h1] at h; omega
  · rw [if_neg h1] at h ⊢
    obtain ⟨h2, h3, h4⟩ := szSS_le r _ h
    exact ⟨by omega, by omega, fun x hx => by have := h4 x hx; omega⟩
theorem szIntSSv_lo (r : List (List Int)) (a : Int) : -1 ≤ szIntSSv r a := by
  have key : ∀ (l : List (List Int)) (a : Int), 0 ≤ a → -1 ≤ szSS a l := by
    intro l
    induction l with
    | nil => intro a ha; simp only [szSS]; omega
    | cons y r ih =>
      intro a ha
      simp only [szSS]
      split
      · omega
      · exact ih _ (by omega)
  unfold szIntSSv
  split
  · omega
  · exact key _ _ (by omega)
theorem szTable_ev (v : List Int) (r : List (List Int)) (w : List Int) (a : Int) (hv : v.length ≤ 9223372036854775807) (hr : r.length ≤ 9223372036854775807) (hrr : ∀ x, x ∈ r → x.length ≤ 9223372036854775807) (hw : w.length ≤ 9223372036854775807)
    (h1 : -1 ≤ a) (h2 : a ≤ 1048576) : Ev (fun k => laws_szTable.f k v r w a) (szT v r w a) := by
  unfold laws_szTable.f szT
  simp only [szIntS_ev v a (by omega) h1 h2, Option.bind_some]
  by_cases c1 : a - v.length < 0
  · simp only [if_pos c1, show ((-1 : Int) < 0) from by omega, if_true]; exact Ev.now _
  · simp only [if_neg c1]
    refine Ev.bind (szIntSS_ev r _ hr (fun x hx => by have := hrr x hx; omega) (by omega) (by omega)) ?_
    have hlo := szIntSSv_lo r (a - v.length)
    by_cases c2 : szIntSSv r (a - v.length) < 0
    · simp only [if_pos c2]; exact Ev.now _
    · have hle := szIntSSv_le r (a - v.length) (by omega)
      simp only [if_neg c2, szIntS_ev w _ (show w.length ≤ 9223372036854775807 by omega) hlo (by omega), Option.bind_some]
      by_cases c3 : szIntSSv r (a - v.length) - w.length < 0
      · simp only [if_pos c3, show ((-1 : Int) < 0) from by omega, if_true]; exact Ev.now _
      · simp only [if_neg c3]; exact Ev.now _
theorem szT_le {v : List Int} {r : List (List Int)} {w : List Int} {a : Int} (h : 0 ≤ szT v r w a) : (v.length : Int) ≤ a ∧ (r.length : Int) ≤ a ∧ (∀ x, x ∈ r → (x.length : Int) ≤ a) ∧ (w.length : Int) ≤ a ∧ szT v r w a ≤ a := by
  unfold szT at h ⊢
  by_cases c1 : a - v.length < 0
  · rw [if_pos c1] at h; omega
  · rw [if_neg c1] at h ⊢
    by_cases c2 : szIntSSv r (a - v.length) < 0
    · rw [if_pos c2] at h; omega
    · rw [if_neg c2] at h ⊢
      obtain ⟨h1, h2, h3⟩ := szIntSSv_le r (a - v.length) (by omega)
      by_cases c3 : szIntSSv r (a - v.length) - w.length < 0
      · rw [if_pos c3] at h; omega
      · rw [if_neg c3]
        exact ⟨by omega, by omega, fun x hx => by have := h3 x hx; omega, by omega, by omega⟩
theorem toTable_ev (v : List Int) (r : List (List Int)) (w : List Int) (hv : v.length ≤ 1048576) (hr : r.length ≤ 1048576) (hrr : ∀ x, x ∈ r → x.length ≤ 1048576) (hw : w.length ≤ 1048576) : Ev (fun k => laws_toTable.f k v r w) (v, r, w) := by
  unfold laws_toTable.f
  exact Ev.bind (toIntS_ev v (by omega)) (Ev.bind (toIntSS_ev r (by omega) (fun x hx => by have := hrr x hx; omega)) (Ev.bind (toIntS_ev w (by omega)) (Ev.now _)))
theorem eqTable_self (v : List Int) (r : List (List Int)) (w : List Int) (hv : v.length ≤ 1048576) (hr : r.length ≤ 1048576) (hrr : ∀ x, x ∈ r → x.length ≤ 1048576) (hw : w.length ≤ 1048576) : Ev (fun k => laws_eqTable.f k v r w v r w) true := by
  unfold laws_eqTable.f
  refine Ev.bind (eqIntS_ev v v (by omega)) ?_
  simp only [decide_true, if_true]
  refine Ev.bind (eqIntSS_ev r r (by omega) (fun x hx => by have := hrr x hx; omega)) ?_
  simp only [decide_true, if_true]
  refine Ev.bind (eqIntS_ev w w (by omega)) ?_
  simp only [decide_true, if_true]
  exact Ev.now _
end Go.Proofs.Ytdafgdiahcjimaa.PT
namespace Go.Proofs.Ytdafgdiahcjimaa.Pure
open Go.RowKit Go.Proofs.Ytdafgdiahcjimaa.P Go.Proofs.YtdafgdiahcjimaaW.PrintWords Go.Proofs.YtdafgdiahcjimaaW.PrintLast Go.Proofs.Ytdafgdiahcjimaa.EvKit Go.Proofs.Ytdafgdiahcjimaa.PT
set_option linter.unusedSimpArgs false
theorem FnExactTableOK (v : List Int) (r : List (List Int)) (w : List Int) (g : (v.length ≤ maxLen ∧ ∀ x, x ∈ v → (Lit.int .i64 x).wf = true) ∧ (r.length ≤ maxLen ∧ ∀ x, x ∈ r → x.length ≤ maxLen ∧ ∀ y, y ∈ x → (Lit.int .i64 y).wf = true)
    ∧ (w.length ≤ maxLen ∧ ∀ x, x ∈ w → (Lit.int .i64 x).wf = true)) : ∃ k, laws_FnExactTableOK.f k v r w = some true := by
  obtain ⟨⟨g1, _⟩, ⟨g2, g3⟩, ⟨g4, _⟩⟩ := g
  unfold maxLen at g1 g2 g3 g4
  refine Ev.rounds ?_
  unfold laws_FnExactTableOK.f
  refine Ev.bind (szTable_ev v r w 1048576 g1 g2 (fun x hx => (g3 x hx).1) g4 (by omega) (by omega)) ?_
  by_cases h : szT v r w 1048576 < 0
  · simp only [if_pos h]; exact Ev.now _
  · simp only [if_neg h]
    obtain ⟨h1, h2, h3, h4, _⟩ := szT_le (Int.not_lt.1 h)
    have h3' : ∀ x, x ∈ r → x.length ≤ 1048576 := fun x hx => by have := h3 x hx; omega
    have hT := toTable_ev v r w (by omega) (by omega) h3' (by omega)
    refine Ev.bind hT ?_
    refine Ev.bind (specTableOK_ev v r w (by omega) (by omega) (fun x hx => by have := h3' x hx; omega)) ?_
    refine Ev.bind hT ?_
    refine Ev.bind (implTableOK_ev v r w (by omega) (by omega) (fun x hx => by have := h3' x hx; omega)) ?_
    simp only [bne_self_eq_false, Bool.false_eq_true, if_false]
    refine Ev.bind hT ?_
    refine Ev.bind (eqTable_self v r w (by omega) (by omega) h3' (by omega)) ?_
    simp only [if_true]
    exact Ev.now _
end Go.Proofs.Ytdafgdiahcjimaa.Pure
