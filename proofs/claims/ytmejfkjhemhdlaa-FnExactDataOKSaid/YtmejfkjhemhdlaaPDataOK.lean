/-
  For every data the program's DataOK and the reference's tell the same, and the data are left as they were; no condition.
-/
import Derived.Test.YtmejfkjhemhdlaaPData
import Derived.Test.YtmejfkjhemhdlaaPInts
import Derived.Test.YtmejfkjhemhdlaaJ16
namespace Go.Proofs.Ytmejfkjhemhdlaa.PT
open Go.RowKit Go.Proofs.Ytmejfkjhemhdlaa.P Go.Proofs.YtmejfkjhemhdlaaW.PrintWords Go.Proofs.YtmejfkjhemhdlaaW.PrintLast Go.Proofs.Ytmejfkjhemhdlaa.EvKit
set_option linter.unusedSimpArgs false
set_option linter.unusedVariables false
abbrev LRel := S46

def toRel (x : LRel) : Rel := ⟨x.f0, x.f1, x.f2, x.f3⟩
def szRel (x : LRel) (a : Int) : Int :=
  if a - x.f0.size < 0 then -1 else if szIntSSv x.f2 (a - x.f0.size) < 0 then -1 else if szIntSSv x.f2 (a - x.f0.size) - x.f3.length < 0 then -1 else szIntSSv x.f2 (a - x.f0.size) - x.f3.length
/-- What Go's lists are: no longer than memory. -/
def GRel (x : LRel) : Prop := x.f0.size ≤ 9223372036854775807 ∧ x.f2.length ≤ 9223372036854775807 ∧ (∀ y, y ∈ x.f2 → y.length ≤ 9223372036854775807) ∧ x.f3.length ≤ 9223372036854775807
theorem szRel_ev (x : LRel) (a : Int) (g : GRel x) (h1 : 0 ≤ a) (h2 : a ≤ 1048576) : Ev (fun k => laws_szRelation.f k x.f0 x.f1 x.f2 x.f3 a) (szRel x a) := by
  obtain ⟨g0, g2, g3, g4⟩ := g
  unfold laws_szRelation.f szRel
  rw [w64 (n := a - (x.f0.size : Int)) (by omega) (by omega)]
  by_cases c1 : a - x.f0.size < 0
  · simp only [if_pos c1]; exact Ev.now _
  · simp only [if_neg c1]
    refine Ev.bind (szIntSS_ev x.f2 _ g2 g3 (by omega) (by omega)) ?_
    have hlo := szIntSSv_lo x.f2 (a - x.f0.size)
    by_cases c2 : szIntSSv x.f2 (a - x.f0.size) < 0
    · simp only [if_pos c2]; exact Ev.now _
    · have hle := szIntSSv_le x.f2 (a - x.f0.size) (by omega)
      simp only [if_neg c2, szIntS_ev x.f3 _ g4 hlo (by omega), Option.bind_some]
      by_cases c3 : szIntSSv x.f2 (a - x.f0.size) - x.f3.length < 0
      · simp only [if_pos c3, show ((-1 : Int) < 0) from by omega, if_true]; exact Ev.now _
      · simp only [if_neg c3]; exact Ev.now _
/-- A relation of at most 1048576 parts. -/
def SRel (x : LRel) : Prop := x.f0.size ≤ 1048576 ∧ x.f2.length ≤ 1048576 ∧ (∀ y, y ∈ x.f2 → y.length ≤ 1048576) ∧ x.f3.length ≤ 1048576
theorem szRel_le {x : LRel} {a : Int} (ha : a ≤ 1048576) (h : 0 ≤ szRel x a) : SRel x ∧ szRel x a ≤ a ∧ 0 ≤ a := by
  unfold szRel at h ⊢
  by_cases c1 : a - x.f0.size < 0
  · rw [if_pos c1] at h; omega
  · rw [if_neg c1] at h ⊢
    by_cases c2 : szIntSSv x.f2 (a - x.f0.size) < 0
    · rw [if_pos c2] at h; omega
    · rw [if_neg c2] at h ⊢
      obtain ⟨h1, h2, h3⟩ := szIntSSv_le x.f2 (a - x.f0.size) (by omega)
      by_cases c3 : szIntSSv x.f2 (a - x.f0.size) - x.f3.length < 0
      · rw [if_pos c3] at h; omega
      · rw [if_neg c3]
        exact ⟨⟨by omega, by omega, fun y hy => by have := h3 y hy; omega, by omega⟩, by omega, by omega⟩
def szRels (a : Int) : List LRel → Int
  | [] => a
  | x :: r => if szRel x a < 0 then -1 else szRels (szRel x a) r
theorem szRels_ev (l : List LRel) (a : Int) (hl : l.length ≤ 9223372036854775807) (g : ∀ x, x ∈ l → GRel x) (h1 : -1 ≤ a) (h2 : a ≤ 1048576) :
    Ev (fun k => laws_szRelationS.f k l a) (if a - l.length < 0 then -1 else szRels (a - l.length) l) := by
  unfold laws_szRelationS.f
  rw [w64 (n := a - (l.length : Int)) (by omega) (by omega)]
  by_cases c1 : a - l.length < 0
  · simp only [if_pos c1]; exact Ev.now _
  · simp only [if_neg c1]
    have key : ∀ d i, i + d = l.length → ∀ b : Int, 0 ≤ b → b ≤ 1048576 → Ev (fun k => laws_szRelationS.l0 k l b (i : Int)) (szRels b (l.drop i)) := by
      intro d
      induction d with
      | zero =>
        intro i hi b hb0 hb1
        refine Ev.succ ?_
        simp only [laws_szRelationS.l0]
        rw [List.drop_of_length_le (by omega)]
        exact Ev.neg (by omega) (Ev.now _)
      | succ d ih =>
        intro i hi b hb0 hb1
        have hlt : i < l.length := by omega
        have hx : rd_T46 l (i : Int) = l[i] := getD_at _ hlt
        refine Ev.succ ?_
        simp only [laws_szRelationS.l0, hx, w64n (show i ≤ 9223372036854775806 by omega)]
        rw [List.drop_eq_getElem_cons hlt]
        refine Ev.pos (by omega) (Ev.pos (by omega) (Ev.bind (szRel_ev l[i] b (g _ (List.getElem_mem _)) hb0 hb1) ?_))
        simp only [szRels]
        by_cases c : szRel l[i] b < 0
        · rw [if_pos c]; exact Ev.pos c (Ev.now _)
        · rw [if_neg c]
          exact Ev.neg c (ih (i + 1) (by omega) _ (by omega) (by have := (szRel_le hb1 (Int.not_lt.1 c)).2.1; omega))
    simpa using key l.length 0 (by omega) _ (by omega) (by omega)
theorem szRels_le : ∀ (l : List LRel) (a : Int), a ≤ 1048576 → 0 ≤ szRels a l → 0 ≤ a ∧ szRels a l ≤ a ∧ ∀ x, x ∈ l → SRel x
  | [], a, ha, h => ⟨h, Int.le_refl _, fun x hx => by simp at hx⟩
  | y :: r, a, ha, h => by
    simp only [szRels] at h ⊢
    by_cases h1 : szRel y a < 0
    · rw [if_pos h1] at h; omega
    · rw [if_neg h1] at h ⊢
      obtain ⟨h2, h3, h4⟩ := szRel_le ha (Int.not_lt.1 h1)
      obtain ⟨h5, h6, h7⟩ := szRels_le r _ (by omega) h
      refine ⟨h4, by omega, fun x hx => ?_⟩
      rcases List.mem_cons.1 hx with rfl | hx
      · exact h2
      · exact h7 x hx
theorem toRels_ev (l : List LRel) (hl : l.length ≤ 1048576) (h : ∀ x, x ∈ l → SRel x) : Ev (fun k => laws_toRelationS.f k l) (l.map toRel) := by
  unfold laws_toRelationS.f
  refine Ev.pos (by omega) (Ev.pos (by omega) ?_)
  have key : ∀ d i, i + d = l.length → Ev (fun k => laws_toRelationS.l0 k l ((l.take i).map toRel ++ List.replicate d z37) (i : Int)) (l.map toRel) := by
    intro d
    induction d with
    | zero =>
      intro i hi
      refine Ev.succ ?_
      simp only [laws_toRelationS.l0]
      rw [List.take_of_length_le (by omega), List.replicate_zero, List.append_nil]
      exact Ev.neg (by omega) (Ev.now _)
    | succ d ih =>
      intro i hi
      have hlt : i < l.length := by omega
      have hx : rd_T46 l (i : Int) = l[i] := getD_at _ hlt
      obtain ⟨g0, g1, g2, g3⟩ := h l[i] (List.getElem_mem _)
      have hlen : ((l.take i).map toRel ++ List.replicate (d + 1) z37).length = l.length := by simp; omega
      refine Ev.succ ?_
      simp only [laws_toRelationS.l0, hx, w64n (show i ≤ 9223372036854775806 by omega), hlen]
      refine Ev.pos (by omega) (Ev.pos (by omega) (Ev.bind (a := (l[i].f0, l[i].f1, l[i].f2, l[i].f3)) ?_ (Ev.pos (by omega) ?_)))
      · unfold laws_toRelation.f
        exact Ev.bind (toIntSS_ev l[i].f2 (by omega) (fun y hy => by have := g2 y hy; omega)) (Ev.bind (toIntS_ev l[i].f3 (by omega)) (Ev.now _))
      · have hs : ((l.take i).map toRel ++ List.replicate (d + 1) z37).set (i : Int).toNat ⟨l[i].f0, l[i].f1, l[i].f2, l[i].f3⟩ = (l.take (i + 1)).map toRel ++ List.replicate d z37 := by
          rw [Int.toNat_natCast, List.set_append_right _ _ (by simp; omega), List.take_succ_eq_append_getElem hlt]
          have : i - ((l.take i).map toRel).length = 0 := by simp; omega
          rw [this, List.replicate_succ]
          simp only [List.set_cons_zero, List.map_append, List.map_cons, List.map_nil, List.append_assoc, List.singleton_append, toRel]
        rw [hs]
        exact ih (i + 1) (by omega)
  simpa using key l.length 0 (by omega)
theorem eqRels_ev (l : List LRel) (hl : l.length ≤ 1048576) (h : ∀ x, x ∈ l → SRel x) : Ev (fun k => laws_eqRelationS.f k (l.map toRel) (l.map toRel)) true := by
  unfold laws_eqRelationS.f
  refine Ev.pos rfl ?_
  refine Ev.to (Ev.all (l.map toRel) (fun _ => true) (g := fun k i => laws_eqRelationS.l0 k (l.map toRel) (l.map toRel) (i : Int)) (R := true) (fun _ => ?_) ?_ ?_) (by simp)
  · refine Ev.succ ?_
    simp only [laws_eqRelationS.l0]
    exact Ev.neg (by omega) (Ev.now _)
  · intro i hi _ R' ih
    have hx : rd_T37 (l.map toRel) (i : Int) = (l.map toRel)[i] := getD_at _ hi
    have hi' : i < l.length := by simpa using hi
    refine Ev.succ ?_
    simp only [laws_eqRelationS.l0, hx, w64n (show i ≤ 9223372036854775806 by omega)]
    refine Ev.pos (by omega) (Ev.pos (by omega) (Ev.pos (by omega) ?_))
    obtain ⟨g0, g1, g2, g3⟩ := h l[i] (List.getElem_mem _)
    refine Ev.bind (a := true) ?_ (Ev.pos rfl ih)
    unfold laws_eqRelation.f
    have e : (l.map toRel)[i] = toRel l[i] := by simp
    rw [e]
    refine Ev.pos rfl (Ev.pos rfl (Ev.bind (eqIntSS_ev _ _ (by show l[i].f2.length ≤ _; omega) (fun y hy => by have := g2 y hy; omega)) ?_))
    refine Ev.pos (by simp) (Ev.bind (eqIntS_ev _ _ (by show l[i].f3.length ≤ _; omega)) ?_)
    exact Ev.pos (by simp) (Ev.now _)
  · intro i hi hp; simp at hp
theorem fits_toRel {l : List LRel} (h : ∀ x, x ∈ l → SRel x) : Fits (l.map toRel) := by
  intro r hr
  obtain ⟨x, hx, rfl⟩ := List.mem_map.1 hr
  obtain ⟨g0, g1, g2, g3⟩ := h x hx
  exact ⟨by show x.f2.length ≤ _; omega, by show x.f3.length ≤ _; omega, fun y hy => by have := g2 y hy; omega⟩
theorem dataOK_plain (l : List LRel) (hl : l.length ≤ 9223372036854775807) (g : ∀ x, x ∈ l → GRel x) : ∃ k, laws_FnExactDataOK.f k l = some true := by
  refine Ev.rounds ?_
  unfold laws_FnExactDataOK.f
  have hz : Ev (fun k => laws_szData.f k l 1048576) (if (if 1048576 - (l.length : Int) < 0 then -1 else szRels (1048576 - l.length) l) < 0 then -1 else (if 1048576 - (l.length : Int) < 0 then -1 else szRels (1048576 - l.length) l)) := by
    unfold laws_szData.f
    refine Ev.bind (szRels_ev l 1048576 hl g (by omega) (by omega)) ?_
    generalize (if 1048576 - (l.length : Int) < 0 then (-1 : Int) else szRels (1048576 - l.length) l) = z
    by_cases c : z < 0
    · exact Ev.to (Ev.pos c (Ev.now _)) (if_pos c).symm
    · exact Ev.to (Ev.neg c (Ev.now _)) (if_neg c).symm
  refine Ev.bind hz ?_
  by_cases c1 : 1048576 - (l.length : Int) < 0
  · simp only [if_pos c1]; exact Ev.pos (by decide) (Ev.now _)
  · simp only [if_neg c1]
    by_cases c2 : szRels (1048576 - l.length) l < 0
    · simp only [if_pos c2]; exact Ev.pos (by decide) (Ev.now _)
    · simp only [if_neg c2]
      obtain ⟨h1, h2, h3⟩ := szRels_le l _ (by omega) (Int.not_lt.1 c2)
      have hT : Ev (fun k => laws_toData.f k l) (l.map toRel) := by
        unfold laws_toData.f
        exact Ev.bind (toRels_ev l (by omega) h3) (Ev.now _)
      refine Ev.bind hT (Ev.bind (specDataOK_ev _ (fits_toRel h3)) (Ev.bind hT (Ev.bind (implDataOK_ev _ (fits_toRel h3)) ?_)))
      refine Ev.neg (by simp) (Ev.bind hT (Ev.bind (a := true) ?_ (Ev.pos rfl (Ev.now _))))
      unfold laws_eqData.f
      exact Ev.bind (eqRels_ev l (by omega) h3) (Ev.pos rfl (Ev.now _))
end Go.Proofs.Ytmejfkjhemhdlaa.PT
namespace Go.Proofs.Ytmejfkjhemhdlaa.Pure
open Go.RowKit Go.Proofs.Ytmejfkjhemhdlaa.P Go.Proofs.YtmejfkjhemhdlaaW.PrintWords Go.Proofs.YtmejfkjhemhdlaaW.PrintLast Go.Proofs.Ytmejfkjhemhdlaa.EvKit Go.Proofs.Ytmejfkjhemhdlaa.PT
theorem FnExactDataOK (l : List LRel) (g : l.length ≤ maxLen ∧ ∀ x, x ∈ l → x.f0.size ≤ maxLen ∧ (Lit.int .i64 x.f1).wf = true ∧ (x.f2.length ≤ maxLen ∧ ∀ y, y ∈ x.f2 → y.length ≤ maxLen ∧ ∀ z, z ∈ y → (Lit.int .i64 z).wf = true)
    ∧ (x.f3.length ≤ maxLen ∧ ∀ y, y ∈ x.f3 → (Lit.int .i64 y).wf = true)) : ∃ k, laws_FnExactDataOK.f k l = some true := by
  obtain ⟨g1, g2⟩ := g
  unfold maxLen at g1 g2
  exact dataOK_plain l g1 (fun x hx => ⟨(g2 x hx).1, (g2 x hx).2.2.1.1, fun y hy => ((g2 x hx).2.2.1.2 y hy).1, (g2 x hx).2.2.2.1⟩)
end Go.Proofs.Ytmejfkjhemhdlaa.Pure
