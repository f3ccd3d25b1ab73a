/-
  What both ask of data: names, rows, weights; no condition.
-/
import Derived.Test.YtmejfkjhemhdlaaPName
import Derived.Test.YtmejfkjhemhdlaaPRows
import Derived.Test.YtmejfkjhemhdlaaPBetween
import Derived.Test.YtmejfkjhemhdlaaJ15
import Derived.Test.YtmejfkjhemhdlaaJ6
namespace Go.Proofs.Ytmejfkjhemhdlaa.PT
set_option linter.unusedSimpArgs false
set_option linter.unusedVariables false
open Go.RowKit Go.Proofs.Ytmejfkjhemhdlaa.P Go.Proofs.YtmejfkjhemhdlaaW.PrintWords Go.Proofs.YtmejfkjhemhdlaaW.PrintLast Go.Proofs.Ytmejfkjhemhdlaa.EvKit
abbrev Rel := S37

theorem within_v (a b c : Int) : impl_within.f a b c = some (decide (b ≤ a ∧ a ≤ c)) := by
  unfold impl_within.f
  by_cases h : b ≤ a
  · rw [if_pos h]; simp [h]
  · rw [if_neg (by omega)]; simp [h]
def inV (v : Int) : Bool := decide (0 ≤ v ∧ v ≤ 1000000)
def inW (v : Int) : Bool := decide (-1000000 ≤ v ∧ v ≤ 1000000)
def isRel (s : ByteArray) : Bool := decide (s.toList = ([114, 101, 108] : List UInt8))
theorem within_V (a : Int) : impl_within.f a 0 1000000 = some (inV a) := within_v _ _ _
theorem within_W (a : Int) : impl_within.f a (-1000000) 1000000 = some (inW a) := within_v _ _ _
theorem between_V (a : Int) : spec_l1Between.f a 0 1000000 = some (inV a) := between_v _ _ _
theorem between_W (a : Int) : spec_l1Between.f a (-1000000) 1000000 = some (inW a) := between_v _ _ _
/-- The values and weights. -/
def relV (rows : List (List Int)) (ws : List Int) : Bool := rows.all (fun x => x.all inV) && ws.all inW
/-- A right relation. -/
noncomputable def relOk (x : Rel) : Bool :=
  nameb x.f0 && !isRel x.f0 && decide (1 ≤ x.f1 ∧ x.f1 ≤ 3) && decide (x.f2.length ≤ 2000) && decide (x.f3.length = x.f2.length) && rowsR x.f2 x.f1 0 && relV x.f2 x.f3

theorem relok_l1 (rows : List (List Int)) (ws : List Int) (f0 : ByteArray) (f1 : Int) (i : Nat) (hi : i < rows.length) (hw : i < ws.length) (hl : rows[i].length ≤ 9223372036854775806) (R : Bool)
    (h : rows[i].all inV = true → inW ws[i] = true → Ev (fun k => impl_Relation_ok.l0 k rows (rows.length : Int) (((i + 1 : Nat)) : Int) f0 f1 rows ws) R) (hrl : rows.length ≤ 9223372036854775806) :
    Ev (fun k => impl_Relation_ok.l1 k (i : Int) rows (rows.length : Int) (i : Int) rows[i] (rows[i].length : Int) 0 f0 f1 rows ws) (rows[i].all inV && (inW ws[i] && R)) := by
  refine Ev.all rows[i] inV (g := fun k j => impl_Relation_ok.l1 k (i : Int) rows (rows.length : Int) (i : Int) rows[i] (rows[i].length : Int) (j : Int) f0 f1 rows ws) (fun ha => ?_) ?_ ?_
  · refine Ev.succ ?_
    simp only [impl_Relation_ok.l1, rd_at hw, w64n (show i ≤ 9223372036854775806 by omega)]
    refine Ev.neg (by omega) (Ev.pos (by omega) (Ev.pos (by omega) (Ev.val (within_W _) ?_)))
    cases hW : inW ws[i] with
    | true => rw [Bool.true_and]; exact Ev.pos rfl (h ha hW)
    | false => rw [Bool.false_and]; exact Ev.neg (by simp) (Ev.now _)
  · intro j hj hp R' ih
    refine Ev.succ ?_
    simp only [impl_Relation_ok.l1, rd_at hj, w64n (show j ≤ 9223372036854775806 by omega)]
    exact Ev.pos (by omega) (Ev.pos (by omega) (Ev.pos (by omega) (Ev.val (within_V _) (Ev.pos hp ih))))
  · intro j hj hp
    refine Ev.succ ?_
    simp only [impl_Relation_ok.l1, rd_at hj]
    exact Ev.pos (by omega) (Ev.pos (by omega) (Ev.pos (by omega) (Ev.val (within_V _) (Ev.neg (by simp [hp]) (Ev.now _)))))
theorem relok_l0 (rows : List (List Int)) (ws : List Int) (f0 : ByteArray) (f1 : Int) (hrl : rows.length ≤ 9223372036854775806) (hl : ∀ x, x ∈ rows → x.length ≤ 9223372036854775806) (hw : ws.length = rows.length) :
    Ev (fun k => impl_Relation_ok.l0 k rows (rows.length : Int) 0 f0 f1 rows ws) (relV rows ws) := by
  unfold relV
  rw [← zip_all _ _ rows ws hw.symm]
  have hz : (rows.zip ws).length = rows.length := by simp [hw]
  refine Ev.to (Ev.all (rows.zip ws) _ (g := fun k j => impl_Relation_ok.l0 k rows (rows.length : Int) (j : Int) f0 f1 rows ws) (R := true) (fun ha => ?_) ?_ ?_) (by rw [Bool.and_true])
  · refine Ev.succ ?_
    simp only [impl_Relation_ok.l0, hz]
    exact Ev.neg (by omega) (Ev.now _)
  · intro i hi hp R' ih
    have hir : i < rows.length := by omega
    have hiw : i < ws.length := by omega
    have hr : rd_L1 rows (i : Int) = rows[i] := getD_at _ hir
    simp only [List.getElem_zip, Bool.and_eq_true] at hp
    refine Ev.succ ?_
    simp only [impl_Relation_ok.l0, hr]
    refine Ev.pos (by omega) (Ev.pos (by omega) (Ev.pos (by omega) ?_))
    exact Ev.to (relok_l1 rows ws f0 f1 i hir hiw (hl _ (List.getElem_mem _)) R' (fun _ _ => ih) hrl) (by rw [hp.1, hp.2]; rfl)
  · intro i hi hp
    have hir : i < rows.length := by omega
    have hiw : i < ws.length := by omega
    have hr : rd_L1 rows (i : Int) = rows[i] := getD_at _ hir
    have hp : (rows[i].all inV && inW ws[i]) = false := by simpa only [List.getElem_zip] using hp
    refine Ev.succ ?_
    simp only [impl_Relation_ok.l0, hr]
    refine Ev.pos (by omega) (Ev.pos (by omega) (Ev.pos (by omega) ?_))
    refine Ev.to (relok_l1 rows ws f0 f1 i hir hiw (hl _ (List.getElem_mem _)) true (fun h1 h2 => ?_) hrl) ?_
    · rw [h1, h2] at hp; simp at hp
    · rw [Bool.and_true]; exact hp
theorem relok_ev (f0 : ByteArray) (f1 : Int) (rows : List (List Int)) (ws : List Int) (hrl : rows.length ≤ 9223372036854775806) (hl : ∀ x, x ∈ rows → x.length ≤ 9223372036854775806) :
    Ev (fun k => impl_Relation_ok.f k f0 f1 rows ws) (relOk ⟨f0, f1, rows, ws⟩) := by
  unfold impl_Relation_ok.f relOk
  have hj : Ev (fun k => impl_Relation_ok.j0 k true f0 f1 rows ws) false := Ev.succ (by simp only [impl_Relation_ok.j0, if_true]; exact Ev.now _)
  refine Ev.bind (isName_ev f0) ?_
  cases h1 : nameb f0 with
  | false => exact Ev.to (Ev.neg (by simp) hj) (by simp)
  | true =>
    refine Ev.pos rfl ?_
    cases h2 : isRel f0 with
    | true => exact Ev.to (Ev.pos (of_decide_eq_true h2) hj) (by simp)
    | false =>
      refine Ev.neg (of_decide_eq_false h2) (Ev.val (within_v _ _ _) ?_)
      by_cases h3 : 1 ≤ f1 ∧ f1 ≤ 3
      · refine Ev.pos (by simp [h3]) ?_
        by_cases h4 : rows.length ≤ 2000
        · refine Ev.neg (by omega) ?_
          by_cases h5 : ws.length = rows.length
          · refine Ev.pos (by omega) (Ev.bind (rowsOK_ev rows f1 hrl hl) ?_)
            simp only [h3, h4, h5, and_self, decide_true, Bool.not_false, Bool.true_and]
            cases h6 : rowsR rows f1 0 with
            | false => simpa using hj
            | true =>
              refine Ev.succ ?_
              simp only [impl_Relation_ok.j0, Bool.not_true, Bool.false_eq_true, if_false, Bool.true_and]
              exact relok_l0 rows ws f0 f1 hrl hl h5
          · refine Ev.to (Ev.neg (by omega) hj) ?_
            simp [h5]
        · refine Ev.to (Ev.pos (by omega) hj) ?_
          simp [h4]
      · refine Ev.to (Ev.neg (by simpa using h3) hj) ?_
        rw [decide_eq_false h3]; simp

/-- Each of a new name, each right. -/
noncomputable def dataR : List ByteArray → List Rel → Bool
  | _, [] => true
  | ns, r :: rest => !decide (r.f0 ∈ ns) && relOk r && dataR (ns ++ [r.f0]) rest
noncomputable def dataOKb (l : List Rel) : Bool := decide (l.length ≤ 50) && dataR [] l
/-- Lists that fit a machine. -/
def Fits (l : List Rel) : Prop := ∀ r, r ∈ l → r.f2.length ≤ 9223372036854775806 ∧ r.f3.length ≤ 9223372036854775806 ∧ ∀ x, x ∈ r.f2 → x.length ≤ 9223372036854775806
theorem dataLoop_ev : ∀ (l : List Rel), Fits l → ∀ ns, Ev (fun k => dataLoop (impl_Relation_ok.f k) ns l) (dataR ns l)
  | [], _, ns => Ev.now _
  | r :: rest, hf, ns => by
    simp only [dataLoop, dataR]
    by_cases h : r.f0 ∈ ns
    · refine Ev.to (Ev.pos h (Ev.now _)) ?_
      simp [h]
    · refine Ev.neg h ?_
      simp only [h, decide_false, Bool.not_false, Bool.true_and]
      have hr := hf r (by simp)
      refine Ev.bind (relok_ev r.f0 r.f1 r.f2 r.f3 hr.1 hr.2.2) ?_
      cases h2 : relOk ⟨r.f0, r.f1, r.f2, r.f3⟩ with
      | true =>
        rw [Bool.true_and]
        exact Ev.pos rfl (dataLoop_ev rest (fun x hx => hf x (by simp [hx])) _)
      | false =>
        rw [Bool.false_and]
        exact Ev.neg (by simp) (Ev.now _)
theorem implDataOK_ev (l : List Rel) (hf : Fits l) : Ev (fun k => impl_DataOK.f k l) (dataOKb l) := by
  unfold impl_DataOK.f dataOKf dataOKb
  by_cases h : l.length ≤ 50
  · refine Ev.neg (by omega) ?_
    simp only [h, decide_true, Bool.true_and]
    exact dataLoop_ev l hf []
  · refine Ev.to (Ev.pos (by omega) (Ev.now _)) ?_
    simp [h]

/-! ### the reference's -/
theorem specdata_l4 (l : List Rel) (n x : Int) (ws : List Int) (hw : ws.length ≤ 9223372036854775806) (R : Bool) (h : ws.all inW = true → Ev (fun k => spec_DataOK.l0 k l n (wrap64 (x + 1)) l) R) :
    Ev (fun k => spec_DataOK.l4 k l n x ws (ws.length : Int) 0 l) (ws.all inW && R) := by
  refine Ev.all ws inW (g := fun k j => spec_DataOK.l4 k l n x ws (ws.length : Int) (j : Int) l) (fun ha => ?_) ?_ ?_
  · refine Ev.succ ?_
    simp only [spec_DataOK.l4]
    exact Ev.neg (by omega) (h ha)
  · intro j hj hp R' ih
    refine Ev.succ ?_
    simp only [spec_DataOK.l4, rd_at hj, w64n (show j ≤ 9223372036854775806 by omega)]
    exact Ev.pos (by omega) (Ev.pos (by omega) (Ev.pos (by omega) (Ev.val (between_W _) (Ev.pos hp ih))))
  · intro j hj hp
    refine Ev.succ ?_
    simp only [spec_DataOK.l4, rd_at hj]
    exact Ev.pos (by omega) (Ev.pos (by omega) (Ev.pos (by omega) (Ev.val (between_W _) (Ev.neg (by simp [hp]) (Ev.now _)))))
theorem specdata_l2 (l : List Rel) (n x : Int) (r : Rel) (hr : r.f2.length ≤ 9223372036854775806) (hrr : ∀ x, x ∈ r.f2 → x.length ≤ 9223372036854775806) (hw : r.f3.length ≤ 9223372036854775806) (R : Bool)
    (h : relV r.f2 r.f3 = true → Ev (fun k => spec_DataOK.l0 k l n (wrap64 (x + 1)) l) R) :
    Ev (fun k => spec_DataOK.l2 k l n x r.f2 (r.f2.length : Int) 0 l r.f0 r.f1 r.f2 r.f3) (relV r.f2 r.f3 && R) := by
  unfold relV at h ⊢
  rw [Bool.and_assoc]
  refine Ev.all r.f2 (fun x => x.all inV) (g := fun k j => spec_DataOK.l2 k l n x r.f2 (r.f2.length : Int) (j : Int) l r.f0 r.f1 r.f2 r.f3) (fun ha => ?_) ?_ ?_
  · refine Ev.succ ?_
    simp only [spec_DataOK.l2]
    exact Ev.neg (by omega) (specdata_l4 l n x r.f3 hw R (fun h2 => h (by rw [ha, h2]; rfl)))
  · intro i hi hp R' ih
    have hx : rd_L1 r.f2 (i : Int) = r.f2[i] := getD_at _ hi
    have hxl := hrr _ (List.getElem_mem hi)
    refine Ev.succ ?_
    simp only [spec_DataOK.l2, hx]
    refine Ev.pos (by omega) (Ev.pos (by omega) (Ev.pos (by omega) ?_))
    refine Ev.to (Ev.all r.f2[i] inV (g := fun k j => spec_DataOK.l3 k l n x r.f2 (r.f2.length : Int) (i : Int) r.f2[i] (r.f2[i].length : Int) (j : Int) l r.f0 r.f1 r.f2 r.f3) (R := R') (fun ha => ?_) ?_ ?_) (by rw [hp]; rfl)
    · refine Ev.succ ?_
      simp only [spec_DataOK.l3, w64n (show i ≤ 9223372036854775806 by omega)]
      exact Ev.neg (by omega) ih
    · intro j hj hp R' ih
      refine Ev.succ ?_
      simp only [spec_DataOK.l3, rd_at hj, w64n (show j ≤ 9223372036854775806 by omega)]
      exact Ev.pos (by omega) (Ev.pos (by omega) (Ev.pos (by omega) (Ev.val (between_V _) (Ev.pos hp ih))))
    · intro j hj hp
      refine Ev.succ ?_
      simp only [spec_DataOK.l3, rd_at hj]
      exact Ev.pos (by omega) (Ev.pos (by omega) (Ev.pos (by omega) (Ev.val (between_V _) (Ev.neg (by simp [hp]) (Ev.now _)))))
  · intro i hi hp
    have hx : rd_L1 r.f2 (i : Int) = r.f2[i] := getD_at _ hi
    have hxl := hrr _ (List.getElem_mem hi)
    refine Ev.succ ?_
    simp only [spec_DataOK.l2, hx]
    refine Ev.pos (by omega) (Ev.pos (by omega) (Ev.pos (by omega) ?_))
    refine Ev.to (Ev.all r.f2[i] inV (g := fun k j => spec_DataOK.l3 k l n x r.f2 (r.f2.length : Int) (i : Int) r.f2[i] (r.f2[i].length : Int) (j : Int) l r.f0 r.f1 r.f2 r.f3) (R := true) (fun ha => ?_) ?_ ?_) (by rw [hp]; rfl)
    · rw [ha] at hp; simp at hp
    · intro j hj hp R' ih
      refine Ev.succ ?_
      simp only [spec_DataOK.l3, rd_at hj, w64n (show j ≤ 9223372036854775806 by omega)]
      exact Ev.pos (by omega) (Ev.pos (by omega) (Ev.pos (by omega) (Ev.val (between_V _) (Ev.pos hp ih))))
    · intro j hj hp
      refine Ev.succ ?_
      simp only [spec_DataOK.l3, rd_at hj]
      exact Ev.pos (by omega) (Ev.pos (by omega) (Ev.pos (by omega) (Ev.val (between_V _) (Ev.neg (by simp [hp]) (Ev.now _)))))
theorem specdata_l1 (l : List Rel) (hll : l.length ≤ 9223372036854775806) (i : Nat) (hi : i < l.length) (r : Rel) (hr : r.f2.length ≤ 9223372036854775806) (hrr : ∀ x, x ∈ r.f2 → x.length ≤ 9223372036854775806) (hw : r.f3.length ≤ 9223372036854775806) (R : Bool)
    (h : Ev (fun k => spec_DataOK.l0 k l (l.length : Int) (((i + 1 : Nat)) : Int) l) R) :
    Ev (fun k => spec_DataOK.l1 k l (l.length : Int) (i : Int) (l.take i) ((l.take i).length : Int) 0 l r.f0 r.f1 r.f2 r.f3)
      (!decide (r.f0 ∈ (l.take i).map (fun z => z.f0)) && (rowsR r.f2 r.f1 0 && (decide (r.f3.length = r.f2.length) && (relV r.f2 r.f3 && R)))) := by
  have hall : (l.take i).all (fun z => !decide (z.f0 = r.f0)) = !decide (r.f0 ∈ (l.take i).map (fun z => z.f0)) := by
    rw [Bool.eq_iff_iff]
    simp only [List.all_eq_true, Bool.not_eq_true', decide_eq_false_iff_not, List.mem_map, not_exists, not_and]
  rw [← hall]
  have hlen : (l.take i).length = i := by simp; omega
  refine Ev.all (l.take i) _ (g := fun k j => spec_DataOK.l1 k l (l.length : Int) (i : Int) (l.take i) ((l.take i).length : Int) (j : Int) l r.f0 r.f1 r.f2 r.f3) (fun ha => ?_) ?_ ?_
  · refine Ev.succ ?_
    simp only [spec_DataOK.l1]
    refine Ev.neg (by omega) (Ev.bind (l2SortedRows_ev r.f2 r.f1 hr hrr) ?_)
    cases h1 : rowsR r.f2 r.f1 0 with
    | false =>
      refine Ev.neg (by simp) (Ev.succ ?_)
      simp only [spec_DataOK.j3, if_true, Bool.false_and]
      exact Ev.now _
    | true =>
      refine Ev.pos rfl (Ev.succ ?_)
      rw [Bool.true_and]
      by_cases h2 : r.f3.length = r.f2.length
      · simp only [spec_DataOK.j3, h2, bne_self_eq_false, Bool.false_eq_true, if_false, decide_true, Bool.true_and]
        exact specdata_l2 l _ _ r hr hrr hw R (fun _ => by rw [w64n (show i ≤ 9223372036854775806 by omega)]; exact h)
      · simp only [spec_DataOK.j3, h2, decide_false, Bool.false_and]
        refine Ev.pos (by simp only [bne_iff_ne, ne_eq]; omega) (Ev.now _)
  · intro j hj hp R' ih
    have hx : rd_T37 (l.take i) (j : Int) = (l.take i)[j] := getD_at _ hj
    refine Ev.succ ?_
    simp only [spec_DataOK.l1, hx, w64n (show j ≤ 9223372036854775806 by omega)]
    refine Ev.pos (by omega) (Ev.pos (by omega) (Ev.pos (by omega) (Ev.neg ?_ ih)))
    rw [toList_eq]; simpa using hp
  · intro j hj hp
    have hx : rd_T37 (l.take i) (j : Int) = (l.take i)[j] := getD_at _ hj
    refine Ev.succ ?_
    simp only [spec_DataOK.l1, hx]
    refine Ev.pos (by omega) (Ev.pos (by omega) (Ev.pos (by omega) (Ev.pos ?_ (Ev.now _))))
    rw [toList_eq]; simpa using hp
theorem specDataOK_ev (l : List Rel) (hf : Fits l) : Ev (fun k => spec_DataOK.f k l) (dataOKb l) := by
  unfold spec_DataOK.f dataOKb
  by_cases h : l.length ≤ 50
  · refine Ev.neg (by omega) ?_
    simp only [h, decide_true, Bool.true_and]
    have key := Ev.loop (g := fun k i => spec_DataOK.l0 k l (l.length : Int) (i : Int) l) (n := l.length) (R := fun i => dataR ((l.take i).map (fun z => z.f0)) (l.drop i)) (by
      refine Ev.succ ?_
      simp only [spec_DataOK.l0, List.drop_length, dataR]
      exact Ev.neg (by omega) (Ev.now _)) (by
      intro i hi ih
      have hx : rd_T37 l (i : Int) = l[i] := getD_at _ hi
      have hr := hf l[i] (List.getElem_mem hi)
      have hj : Ev (fun k => spec_DataOK.j1 k (i : Int) l (l.length : Int) (i : Int) true l l[i].f0 l[i].f1 l[i].f2 l[i].f3) false := Ev.succ (by simp only [spec_DataOK.j1, if_true]; exact Ev.now _)
      simp only [List.drop_eq_getElem_cons hi, dataR]
      rw [List.take_succ_eq_append_getElem hi, List.map_append] at ih
      refine Ev.succ ?_
      simp only [spec_DataOK.l0, hx]
      refine Ev.pos (by omega) (Ev.pos (by omega) (Ev.pos (by omega) (Ev.bind (l2Name_ev _) ?_)))
      cases h1 : nameb l[i].f0 with
      | false => exact Ev.to (Ev.neg (by simp) hj) (by simp [relOk, h1])
      | true =>
        refine Ev.pos rfl ?_
        cases h2 : isRel l[i].f0 with
        | true => exact Ev.to (Ev.pos (of_decide_eq_true h2) hj) (by simp [relOk, h2])
        | false =>
          refine Ev.neg (of_decide_eq_false h2) (Ev.val (between_v _ _ _) ?_)
          by_cases h3 : 1 ≤ l[i].f1 ∧ l[i].f1 ≤ 3
          · refine Ev.pos (by simp [h3]) ?_
            by_cases h4 : l[i].f2.length ≤ 2000
            · rw [show decide ((l[i].f2.length : Int) > 2000) = false from decide_eq_false (by omega)]
              refine Ev.succ ?_
              simp only [spec_DataOK.j1, Bool.false_eq_true, if_false]
              refine Ev.pos (by omega) (Ev.pos (by omega) ?_)
              simp only [Option.bind_some, Int.toNat_natCast]
              refine Ev.to (specdata_l1 l (by omega) i hi l[i] hr.1 hr.2.2 hr.2.1 _ ih) ?_
              simp only [relOk, h1, h2, h3, h4, and_self, decide_true, Bool.not_false, Bool.true_and, List.map_cons, List.map_nil]
              generalize (!decide (l[i].f0 ∈ (l.take i).map (fun z => z.f0))) = b1
              generalize rowsR l[i].f2 l[i].f1 0 = b2
              generalize decide (l[i].f3.length = l[i].f2.length) = b3
              generalize relV l[i].f2 l[i].f3 = b4
              generalize dataR _ _ = b5
              cases b1 <;> cases b2 <;> cases b3 <;> cases b4 <;> cases b5 <;> rfl
            · rw [show decide ((l[i].f2.length : Int) > 2000) = true from decide_eq_true (by omega)]
              exact Ev.to hj (by simp [relOk, h4])
          · exact Ev.to (Ev.neg (by simpa using h3) hj) (by simp only [relOk, decide_eq_false h3, Bool.and_false, Bool.false_and])) 0 (Nat.zero_le _)
    simpa using key
  · refine Ev.to (Ev.pos (by omega) (Ev.now _)) ?_
    simp [h]
end Go.Proofs.Ytmejfkjhemhdlaa.PT
