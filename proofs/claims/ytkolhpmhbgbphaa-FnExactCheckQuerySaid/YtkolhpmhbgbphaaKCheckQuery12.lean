/-
  The law FnExactCheckQuery answers true at every argument.
-/
import Derived.Test.YtkolhpmhbgbphaaRows
import Derived.Test.YtkolhpmhbgbphaaKCheckQuery1
import Derived.Test.YtkolhpmhbgbphaaKCheckQuery7
import Derived.Test.YtkolhpmhbgbphaaKCheckQuery11
import Derived.WalkKit
import Derived.ProofKit
import Derived.OpenShut
import Derived.ShutString
import Derived.ChangeOld
import Derived.Below
import Derived.SizedLaws
import Derived.Lib.SmallJoins
namespace Go.Proofs.Ytkolhpmhbgbphaa.PT
open Go.RowKit Go.Proofs.Ytkolhpmhbgbphaa.P Go.Proofs.YtkolhpmhbgbphaaW.PrintWords Go.Proofs.YtkolhpmhbgbphaaW.PrintLast Go.Proofs.Ytkolhpmhbgbphaa.EvKit
set_option linter.unusedSimpArgs false
set_option linter.unusedVariables false
def GStr (s : ByteArray) : Prop := s.size ≤ 9223372036854775807
def SStr (s : ByteArray) : Prop := s.size ≤ 1048576
def GL {α : Type} (G : α → Prop) (l : List α) : Prop := l.length ≤ 9223372036854775807 ∧ ∀ x, x ∈ l → G x
def SL {α : Type} (S : α → Prop) (l : List α) : Prop := l.length ≤ 1048576 ∧ ∀ x, x ∈ l → S x
theorem szStr_le {s : ByteArray} {a : Int} (ha : a ≤ 1048576) (h : 0 ≤ szStr1 s a) : SStr s ∧ szStr1 s a ≤ a ∧ 0 ≤ a := szStr1_le s a ha h
theorem w64s {s : ByteArray} {a : Int} (g : GStr s) (h0 : 0 ≤ a) (h1 : a ≤ 1048576) : wrap64 (a - (s.size : Int)) = a - s.size := w64 (by unfold GStr at g; omega) (by omega)
theorem w64l {α : Type} {l : List α} {a : Int} (g : l.length ≤ 9223372036854775807) (h0 : 0 ≤ a) (h1 : a ≤ 1048576) : wrap64 (a - (l.length : Int)) = a - l.length := w64 (by omega) (by omega)
theorem szHd_ev {α : Type} {l : List α} {s : α → Int → Int} {a : Int} {A : Nat → Option Int} (g : l.length ≤ 9223372036854775807) (h0 : 0 ≤ a) (h1 : a ≤ 1048576) (h : ¬ a - l.length < 0 → Ev A (szL s (a - l.length) l)) :
    Ev (fun k => if (wrap64 (a - (l.length : Int))) < 0 then some (-1) else A k) (szHd s l a) := by
  rw [w64l g h0 h1]
  unfold szHd
  by_cases c : a - l.length < 0
  · rw [if_pos c]; exact Ev.pos c (Ev.now _)
  · rw [if_neg c]; exact Ev.neg c (h c)
theorem szStringS_ev (l : List ByteArray) (a : Int) (g : GL GStr l) (h0 : 0 ≤ a) (h1 : a ≤ 1048576) : Ev (fun k => laws_szStringS.f k l a) (szHd szStr1 l a) := by
  unfold laws_szStringS.f
  refine szHd_ev g.1 h0 h1 (fun c => ?_)
  rw [w64l g.1 h0 h1]
  refine Ev.szS l szStr1 (S := SStr) (fun x a => szStr_le) (g := fun k b i => laws_szStringS.l0 k l b (i : Int)) (fun a => Ev.succ ?_) (fun i hi b R hb0 hb1 hp hn => Ev.succ ?_) _ (by omega) (by omega)
  · simp only [laws_szStringS.l0]
    exact Ev.neg (by omega) (Ev.now _)
  · have hle := g.1
    simp only [laws_szStringS.l0, rdOf_at hi, w64n (show i ≤ 9223372036854775806 by omega), w64s (g.2 _ (List.getElem_mem hi)) hb0 hb1]
    refine Ev.pos (by omega) (Ev.pos (by omega) ?_)
    unfold szStr1 at hp hn
    by_cases c : b - l[i].size < 0
    · rw [if_pos c] at hn; rw [hn (by omega)]; exact Ev.pos c (Ev.now _)
    · rw [if_neg c] at hp; exact Ev.neg c (hp (by omega))
def szTm (t : LTm) (a : Int) : Int := szStr1 t.f0 a
def GTm (t : LTm) : Prop := GStr t.f0
def STm (t : LTm) : Prop := SStr t.f0
theorem szTerm_v (t : LTm) (a : Int) (g : GTm t) (h0 : 0 ≤ a) (h1 : a ≤ 1048576) : laws_szTerm.f t.f0 t.f1 a = some (szTm t a) := by
  unfold laws_szTerm.f szTm szStr1
  rw [w64s g h0 h1]
  by_cases c : a - t.f0.size < 0
  · rw [if_pos c, if_pos c]
  · rw [if_neg c, if_neg c]
theorem szTermS_ev (l : List LTm) (a : Int) (g : GL GTm l) (h0 : 0 ≤ a) (h1 : a ≤ 1048576) : Ev (fun k => laws_szTermS.f k l a) (szHd szTm l a) := by
  unfold laws_szTermS.f
  refine szHd_ev g.1 h0 h1 (fun c => ?_)
  rw [w64l g.1 h0 h1]
  refine Ev.szS l szTm (S := STm) (fun x a => szStr_le) (g := fun k b i => laws_szTermS.l0 k l b (i : Int)) (fun a => Ev.succ ?_) (fun i hi b R hb0 hb1 hp hn => Ev.succ ?_) _ (by omega) (by omega)
  · simp only [laws_szTermS.l0]
    exact Ev.neg (by omega) (Ev.now _)
  · have hle := g.1
    have hx : rd_T237 l (i : Int) = l[i] := getD_at _ hi
    simp only [laws_szTermS.l0, hx, w64n (show i ≤ 9223372036854775806 by omega)]
    refine Ev.pos (by omega) (Ev.pos (by omega) (Ev.val (szTerm_v _ _ (g.2 _ (List.getElem_mem hi)) hb0 hb1) ?_))
    by_cases c : szTm l[i] b < 0
    · rw [hn c]; exact Ev.pos c (Ev.now _)
    · exact Ev.neg c (hp (by omega))
def szAt (x : LAt) (a : Int) : Int := if szStr1 x.f0 a < 0 then -1 else if szHd szTm x.f1 (szStr1 x.f0 a) < 0 then -1 else szHd szTm x.f1 (szStr1 x.f0 a)
def GAt (x : LAt) : Prop := GStr x.f0 ∧ GL GTm x.f1
def SAt (x : LAt) : Prop := SStr x.f0 ∧ SL STm x.f1
theorem szAt_le {x : LAt} {a : Int} (ha : a ≤ 1048576) (h : 0 ≤ szAt x a) : SAt x ∧ szAt x a ≤ a ∧ 0 ≤ a := by
  unfold szAt at h ⊢
  by_cases c1 : szStr1 x.f0 a < 0
  · rw [if_pos c1] at h; omega
  · rw [if_neg c1] at h ⊢
    obtain ⟨p1, p2, p3⟩ := szStr_le ha (Int.not_lt.1 c1)
    by_cases c2 : szHd szTm x.f1 (szStr1 x.f0 a) < 0
    · rw [if_pos c2] at h; omega
    · rw [if_neg c2]
      obtain ⟨q1, q2, q3⟩ := szHd_le (s := szTm) (S := STm) (fun _ _ => szStr_le) x.f1 _ (by omega) (Int.not_lt.1 c2)
      exact ⟨⟨p1, q1⟩, by omega, by omega⟩
theorem szFront {A : Int → Nat → Option Int} {s : ByteArray} {a : Int} {F : Int → Int} (g : GStr s) (h0 : 0 ≤ a) (h1 : a ≤ 1048576) (h : 0 ≤ szStr1 s a → szStr1 s a ≤ 1048576 → Ev (A (szStr1 s a)) (F (szStr1 s a))) :
    Ev (fun k => if (wrap64 (a - (s.size : Int))) < 0 then some (-1) else A (wrap64 (a - (s.size : Int))) k) (if szStr1 s a < 0 then -1 else F (szStr1 s a)) := by
  rw [w64s g h0 h1]
  by_cases c : a - s.size < 0
  · have e : szStr1 s a = -1 := if_pos c
    rw [e, if_pos (by omega)]; exact Ev.pos c (Ev.now _)
  · have e : szStr1 s a = a - s.size := if_neg c
    rw [e] at h ⊢
    rw [if_neg c]; exact Ev.neg c (h (by omega) (by omega))
theorem Ev.left {g : Nat → Option Int} {z : Int} {A : Int → Nat → Option Int} {R : Int} (h : Ev g z) (hA : 0 ≤ z → Ev (A z) R) : Ev (fun k => (g k).bind fun t => if t < 0 then some (-1) else A t k) (if z < 0 then -1 else R) := by
  refine Ev.bind h ?_
  by_cases c : z < 0
  · rw [if_pos c]; exact Ev.pos c (Ev.now _)
  · rw [if_neg c]; exact Ev.neg c (hA (by omega))
theorem szAtom_ev (x : LAt) (a : Int) (g : GAt x) (h0 : 0 ≤ a) (h1 : a ≤ 1048576) : Ev (fun k => laws_szAtom.f k x.f0 x.f1 a) (szAt x a) := by
  unfold laws_szAtom.f szAt
  exact szFront (F := fun b => if szHd szTm x.f1 b < 0 then -1 else szHd szTm x.f1 b) (A := fun b k => (laws_szTermS.f k x.f1 b).bind fun t => if t < 0 then some (-1) else some t) g.1 h0 h1 (fun p1 p2 => Ev.left (szTermS_ev x.f1 _ g.2 p1 p2) (fun _ => Ev.now _))
theorem szAtomS_ev (l : List LAt) (a : Int) (g : GL GAt l) (h0 : 0 ≤ a) (h1 : a ≤ 1048576) : Ev (fun k => laws_szAtomS.f k l a) (szHd szAt l a) := by
  unfold laws_szAtomS.f
  refine szHd_ev g.1 h0 h1 (fun c => ?_)
  rw [w64l g.1 h0 h1]
  refine Ev.szS l szAt (S := SAt) (fun x a => szAt_le) (g := fun k b i => laws_szAtomS.l0 k l b (i : Int)) (fun a => Ev.succ ?_) (fun i hi b R hb0 hb1 hp hn => Ev.succ ?_) _ (by omega) (by omega)
  · simp only [laws_szAtomS.l0]
    exact Ev.neg (by omega) (Ev.now _)
  · have hle := g.1
    have hx : rd_T182 l (i : Int) = l[i] := getD_at _ hi
    simp only [laws_szAtomS.l0, hx, w64n (show i ≤ 9223372036854775806 by omega)]
    refine Ev.pos (by omega) (Ev.pos (by omega) (Ev.bind (szAtom_ev _ _ (g.2 _ (List.getElem_mem hi)) hb0 hb1) ?_))
    by_cases c : szAt l[i] b < 0
    · rw [hn c]; exact Ev.pos c (Ev.now _)
    · exact Ev.neg c (hp (by omega))
def szQ (nm : ByteArray) (hd : List ByteArray) (l : List LAt) (a : Int) : Int :=
  if szStr1 nm a < 0 then -1 else if szHd szStr1 hd (szStr1 nm a) < 0 then -1 else if szHd szAt l (szHd szStr1 hd (szStr1 nm a)) < 0 then -1 else szHd szAt l (szHd szStr1 hd (szStr1 nm a))
theorem szQ_le {nm : ByteArray} {hd : List ByteArray} {l : List LAt} {a : Int} (ha : a ≤ 1048576) (h : 0 ≤ szQ nm hd l a) : SStr nm ∧ SL SStr hd ∧ SL SAt l ∧ szQ nm hd l a ≤ a ∧ 0 ≤ a := by
  unfold szQ at h ⊢
  by_cases c1 : szStr1 nm a < 0
  · rw [if_pos c1] at h; omega
  · rw [if_neg c1] at h ⊢
    obtain ⟨p1, p2, p3⟩ := szStr_le ha (Int.not_lt.1 c1)
    by_cases c2 : szHd szStr1 hd (szStr1 nm a) < 0
    · rw [if_pos c2] at h; omega
    · rw [if_neg c2] at h ⊢
      obtain ⟨q1, q2, q3⟩ := szHd_le (s := szStr1) (S := SStr) (fun _ _ => szStr_le) hd _ (by omega) (Int.not_lt.1 c2)
      by_cases c3 : szHd szAt l (szHd szStr1 hd (szStr1 nm a)) < 0
      · rw [if_pos c3] at h; omega
      · rw [if_neg c3]
        obtain ⟨r1, r2, r3⟩ := szHd_le (s := szAt) (S := SAt) (fun _ _ => szAt_le) l _ (by omega) (Int.not_lt.1 c3)
        exact ⟨p1, q1, r1, by omega, by omega⟩
theorem szQuery_ev (nm : ByteArray) (hd : List ByteArray) (rg : Int) (l : List LAt) (a : Int) (g1 : GStr nm) (g2 : GL GStr hd) (g3 : GL GAt l) (h0 : 0 ≤ a) (h1 : a ≤ 1048576) : Ev (fun k => laws_szQuery.f k nm hd rg l a) (szQ nm hd l a) := by
  unfold laws_szQuery.f szQ
  refine szFront (F := fun b => if szHd szStr1 hd b < 0 then -1 else if szHd szAt l (szHd szStr1 hd b) < 0 then -1 else szHd szAt l (szHd szStr1 hd b))
    (A := fun b k => (laws_szStringS.f k hd b).bind fun t => if t < 0 then some (-1) else (laws_szAtomS.f k l t).bind fun u => if u < 0 then some (-1) else some u) g1 h0 h1 (fun p1 p2 => ?_)
  refine Ev.left (A := fun t k => (laws_szAtomS.f k l t).bind fun u => if u < 0 then some (-1) else some u) (szStringS_ev hd _ g2 p1 p2) (fun q1 => ?_)
  have q2 := (szHd_le (s := szStr1) (S := SStr) (fun _ _ => szStr_le) hd _ p2 q1).2.1
  exact Ev.left (szAtomS_ev l _ g3 q1 (by omega)) (fun _ => Ev.now _)
def toTm (t : LTm) : Tm := ⟨t.f0, t.f1⟩
def toAt (x : LAt) : At := ⟨x.f0, x.f1.map toTm⟩
theorem toStringS_ev (l : List ByteArray) (hl : l.length ≤ 1048576) : Ev (fun k => laws_toStringS.f k l) l := by
  unfold laws_toStringS.f
  refine Ev.pos (by omega) (Ev.pos (by omega) ?_)
  simp only [Int.toNat_natCast]
  have h := Ev.mapS l (fun x => x) (⟨#[]⟩ : ByteArray) (g := fun k acc i => laws_toStringS.l0 k l acc (i : Int)) (fun acc _ => Ev.succ (by simp only [laws_toStringS.l0]; exact Ev.neg (by omega) (Ev.now _))) (fun i hi acc R ha ih => Ev.succ ?_)
  · rw [List.map_id'] at h; exact h
  · simp only [laws_toStringS.l0, rdOf_at hi, w64n (show i ≤ 9223372036854775806 by omega), Int.toNat_natCast]
    exact Ev.pos (by omega) (Ev.pos (by omega) (Ev.pos (by omega) ih))
theorem toTermS_ev (l : List LTm) (hl : l.length ≤ 1048576) : Ev (fun k => laws_toTermS.f k l) (l.map toTm) := by
  unfold laws_toTermS.f
  refine Ev.pos (by omega) (Ev.pos (by omega) ?_)
  simp only [Int.toNat_natCast]
  refine Ev.mapS l toTm z185 (g := fun k acc i => laws_toTermS.l0 k l acc (i : Int)) (fun acc _ => Ev.succ (by simp only [laws_toTermS.l0]; exact Ev.neg (by omega) (Ev.now _))) (fun i hi acc R ha ih => Ev.succ ?_)
  have hx : rd_T237 l (i : Int) = l[i] := getD_at _ hi
  simp only [laws_toTermS.l0, hx, w64n (show i ≤ 9223372036854775806 by omega), laws_toTerm.f, Option.bind_some, Int.toNat_natCast]
  exact Ev.pos (by omega) (Ev.pos (by omega) (Ev.pos (by omega) ih))
theorem toAtomS_ev (l : List LAt) (hl : SL SAt l) : Ev (fun k => laws_toAtomS.f k l) (l.map toAt) := by
  unfold laws_toAtomS.f
  have hl1 := hl.1
  refine Ev.pos (by omega) (Ev.pos (by omega) ?_)
  simp only [Int.toNat_natCast]
  refine Ev.mapS l toAt z148 (g := fun k acc i => laws_toAtomS.l0 k l acc (i : Int)) (fun acc _ => Ev.succ (by simp only [laws_toAtomS.l0]; exact Ev.neg (by omega) (Ev.now _))) (fun i hi acc R ha ih => Ev.succ ?_)
  have hx : rd_T182 l (i : Int) = l[i] := getD_at _ hi
  simp only [laws_toAtomS.l0, hx, w64n (show i ≤ 9223372036854775806 by omega), Int.toNat_natCast]
  refine Ev.pos (by omega) (Ev.pos (by omega) (Ev.bind (a := (l[i].f0, l[i].f1.map toTm)) ?_ (Ev.pos (by omega) ih)))
  unfold laws_toAtom.f
  exact Ev.bind (toTermS_ev _ (hl.2 _ (List.getElem_mem hi)).2.1) (Ev.now _)
theorem toQuery_ev (nm : ByteArray) (hd : List ByteArray) (rg : Int) (l : List LAt) (h2 : SL SStr hd) (h3 : SL SAt l) : Ev (fun k => laws_toQuery.f k nm hd rg l) (nm, hd, rg, l.map toAt) := by
  unfold laws_toQuery.f
  exact Ev.bind (toStringS_ev hd h2.1) (Ev.bind (toAtomS_ev l h3) (Ev.now _))
theorem eqStringS_ev (l : List ByteArray) (hl : l.length ≤ 1048576) : Ev (fun k => laws_eqStringS.f k l l) true := by
  unfold laws_eqStringS.f
  refine Ev.pos rfl (Ev.to (Ev.all l (fun _ => true) (g := fun k i => laws_eqStringS.l0 k l l (i : Int)) (R := true) (fun _ => Ev.succ ?_) ?_ ?_) (by simp))
  · simp only [laws_eqStringS.l0]
    exact Ev.neg (by omega) (Ev.now _)
  · intro i hi _ R' ih
    refine Ev.succ ?_
    simp only [laws_eqStringS.l0, rdOf_at hi, w64n (show i ≤ 9223372036854775806 by omega)]
    exact Ev.pos (by omega) (Ev.pos (by omega) (Ev.pos (by omega) (Ev.pos trivial ih)))
  · intro i hi hp; simp at hp
theorem eqTermS_ev (l : List Tm) (hl : l.length ≤ 1048576) : Ev (fun k => laws_eqTermS.f k l l) true := by
  unfold laws_eqTermS.f
  refine Ev.pos rfl (Ev.to (Ev.all l (fun _ => true) (g := fun k i => laws_eqTermS.l0 k l l (i : Int)) (R := true) (fun _ => Ev.succ ?_) ?_ ?_) (by simp))
  · simp only [laws_eqTermS.l0]
    exact Ev.neg (by omega) (Ev.now _)
  · intro i hi _ R' ih
    have hx : rd_T185 l (i : Int) = l[i] := getD_at _ hi
    refine Ev.succ ?_
    simp only [laws_eqTermS.l0, hx, w64n (show i ≤ 9223372036854775806 by omega), laws_eqTerm.f, if_true, Option.bind_some]
    exact Ev.pos (by omega) (Ev.pos (by omega) (Ev.pos (by omega) ih))
  · intro i hi hp; simp at hp
theorem eqAtomS_ev (l : List At) (hl : l.length ≤ 1048576) (h : ∀ x, x ∈ l → x.f1.length ≤ 1048576) : Ev (fun k => laws_eqAtomS.f k l l) true := by
  unfold laws_eqAtomS.f
  refine Ev.pos rfl (Ev.to (Ev.all l (fun _ => true) (g := fun k i => laws_eqAtomS.l0 k l l (i : Int)) (R := true) (fun _ => Ev.succ ?_) ?_ ?_) (by simp))
  · simp only [laws_eqAtomS.l0]
    exact Ev.neg (by omega) (Ev.now _)
  · intro i hi _ R' ih
    have hx : rd_T148 l (i : Int) = l[i] := getD_at _ hi
    refine Ev.succ ?_
    simp only [laws_eqAtomS.l0, hx, w64n (show i ≤ 9223372036854775806 by omega)]
    refine Ev.pos (by omega) (Ev.pos (by omega) (Ev.pos (by omega) (Ev.bind (a := true) ?_ (Ev.pos rfl ih))))
    unfold laws_eqAtom.f
    exact Ev.pos rfl (Ev.bind (eqTermS_ev _ (h _ (List.getElem_mem hi))) (Ev.pos rfl (Ev.now _)))
  · intro i hi hp; simp at hp
theorem eqQuery_ev (nm : ByteArray) (hd : List ByteArray) (rg : Int) (l : List At) (h2 : hd.length ≤ 1048576) (hl : l.length ≤ 1048576) (h : ∀ x, x ∈ l → x.f1.length ≤ 1048576) : Ev (fun k => laws_eqQuery.f k nm hd rg l nm hd rg l) true := by
  unfold laws_eqQuery.f
  exact Ev.pos rfl (Ev.bind (eqStringS_ev hd h2) (Ev.pos rfl (Ev.pos rfl (Ev.bind (eqAtomS_ev l hl h) (Ev.pos rfl (Ev.now _))))))
theorem toAt_len {l : List LAt} (h : SL SAt l) : (l.map toAt).length ≤ 1048576 ∧ ∀ x, x ∈ l.map toAt → x.f1.length ≤ 1048576 := by
  refine ⟨by simpa using h.1, fun x hx => ?_⟩
  obtain ⟨y, hy, rfl⟩ := List.mem_map.1 hx
  have := (h.2 y hy).2.1
  simpa [toAt] using this
theorem varsT_len : ∀ (ts : List Tm) (out : List ByteArray), (varsT out ts).length ≤ out.length + ts.length
  | [], out => by simp [varsT]
  | t :: r, out => by
    have h := varsT_len r (addVar out t.f0)
    have h2 : (addVar out t.f0).length ≤ out.length + 1 := by unfold addVar; split <;> simp
    simp only [varsT, List.length_cons]
    omega
def tsum : List At → Nat
  | [] => 0
  | a :: r => a.f1.length + tsum r
theorem varsG_len : ∀ (l : List At) (out : List ByteArray), (varsG out l).length ≤ out.length + tsum l
  | [], out => by simp [varsG, tsum]
  | a :: r, out => by
    have h := varsG_len r (varsT out a.f1)
    have h2 := varsT_len a.f1 out
    simp only [varsG, tsum]
    omega
theorem szL_sum : ∀ (l : List LAt) (a : Int), a ≤ 1048576 → 0 ≤ szL szAt a l → szL szAt a l + tsum (l.map toAt) ≤ a
  | [], a, _, h => by simp [szL, tsum]
  | x :: r, a, ha, h => by
    simp only [szL] at h ⊢
    by_cases c : szAt x a < 0
    · rw [if_pos c] at h; omega
    · rw [if_neg c] at h ⊢
      have h1 := (szAt_le ha (Int.not_lt.1 c)).2
      have ih := szL_sum r (szAt x a) (by omega) h
      have h2 : szAt x a + x.f1.length ≤ a := by
        unfold szAt at c ⊢
        by_cases c1 : szStr1 x.f0 a < 0
        · rw [if_pos c1] at c; omega
        · rw [if_neg c1] at c ⊢
          have q := (szStr_le ha (Int.not_lt.1 c1)).2.1
          by_cases c2 : szHd szTm x.f1 (szStr1 x.f0 a) < 0
          · rw [if_pos c2] at c; omega
          · rw [if_neg c2]
            unfold szHd at c2 ⊢
            by_cases c3 : szStr1 x.f0 a - x.f1.length < 0
            · rw [if_pos c3] at c2; omega
            · rw [if_neg c3] at c2 ⊢
              have := (szL_le (s := szTm) (S := STm) (fun _ _ => szStr_le) x.f1 _ (by omega) (Int.not_lt.1 c2)).2.1
              omega
      simp only [List.map_cons, tsum, toAt, List.length_map]
      omega
theorem varsF_len {l : List LAt} {a : Int} (ha : a ≤ 1048576) (h : 0 ≤ szHd szAt l a) : (varsF (l.map toAt)).length ≤ 1048576 := by
  unfold szHd at h
  by_cases c : a - l.length < 0
  · rw [if_pos c] at h; omega
  · rw [if_neg c] at h
    have h1 := szL_sum l _ (by omega) h
    have h2 := varsG_len (l.map toAt) []
    unfold varsF
    simp at h2
    omega
end Go.Proofs.Ytkolhpmhbgbphaa.PT
namespace Go.Proofs.Ytkolhpmhbgbphaa.PT
open Go.RowKit Go.Proofs.Ytkolhpmhbgbphaa.P Go.Proofs.YtkolhpmhbgbphaaW.PrintWords Go.Proofs.YtkolhpmhbgbphaaW.PrintLast Go.Proofs.Ytkolhpmhbgbphaa.EvKit
set_option linter.unusedSimpArgs false
set_option linter.unusedVariables false
def GData (l : List LRel) : Prop := l.length ≤ maxLen ∧ ∀ x, x ∈ l → x.f0.size ≤ maxLen ∧ (Lit.int .i64 x.f1).wf = true ∧ (x.f2.length ≤ maxLen ∧ ∀ y, y ∈ x.f2 → y.length ≤ maxLen ∧ ∀ z, z ∈ y → (Lit.int .i64 z).wf = true) ∧ (x.f3.length ≤ maxLen ∧ ∀ y, y ∈ x.f3 → (Lit.int .i64 y).wf = true)
def GQuery (nm : ByteArray) (hd : List ByteArray) (rg : Int) (l : List LAt) : Prop := nm.size ≤ maxLen ∧ (hd.length ≤ maxLen ∧ ∀ x, x ∈ hd → x.size ≤ maxLen) ∧ (Lit.int .i64 rg).wf = true ∧
  (l.length ≤ maxLen ∧ ∀ x, x ∈ l → x.f0.size ≤ maxLen ∧ (x.f1.length ≤ maxLen ∧ ∀ t, t ∈ x.f1 → t.f0.size ≤ maxLen ∧ (Lit.int .i64 t.f1).wf = true))
theorem GData.rel {l : List LRel} (g : GData l) : l.length ≤ 9223372036854775807 ∧ ∀ x, x ∈ l → GRel x := by
  obtain ⟨g1, g2⟩ := g
  unfold maxLen at g1 g2
  exact ⟨g1, fun x hx => ⟨(g2 x hx).1, (g2 x hx).2.2.1.1, fun y hy => ((g2 x hx).2.2.1.2 y hy).1, (g2 x hx).2.2.2.1⟩⟩
theorem GQuery.parts {nm : ByteArray} {hd : List ByteArray} {rg : Int} {l : List LAt} (g : GQuery nm hd rg l) : GStr nm ∧ GL GStr hd ∧ GL GAt l := by
  obtain ⟨g1, g2, _, g3⟩ := g
  unfold maxLen at g1 g2 g3
  exact ⟨g1, g2, g3.1, fun x hx => ⟨(g3.2 x hx).1, (g3.2 x hx).2.1, fun t ht => ((g3.2 x hx).2.2 t ht).1⟩⟩
theorem read {α : Type} {d : Kd α} {e base : Nat} {ok : Nat → Prop} {w : World} {v : Value} {xs : List α} (h : d.R e w base ok v xs) : ∃ A c, v = .slice A xs.length c ∧ xs.length ≤ c ∧ d.C w A xs.length xs := Kd.R_reads h
theorem checkQuery_law {A0_0 : Option Addr} {c0_0 : Nat} {l0_0 : List LRel} {a1_0 : ByteArray} {A1_1 : Option Addr} {c1_1 : Nat} {l1_1 : List ByteArray} {a1_2 : Int} {A1_3 : Option Addr} {c1_3 : Nat} {l1_3 : List LAt} {w : World}
    (hr0_0 : Kd.C k202 w A0_0 l0_0.length l0_0) (hc0_0 : l0_0.length ≤ c0_0) (hr1_1 : Kd.C Kd.string w A1_1 l1_1.length l1_1) (hc1_1 : l1_1.length ≤ c1_1) (hr1_3 : Kd.C k182 w A1_3 l1_3.length l1_3) (hc1_3 : l1_3.length ≤ c1_3)
    (g0 : GData l0_0) (g1 : GQuery a1_0 l1_1 a1_2 l1_3) :
    Calls Try.prog 7 #[.agg #[.slice A0_0 l0_0.length c0_0], .agg #[.string a1_0, .slice A1_1 l1_1.length c1_1, .int .i64 a1_2, .slice A1_3 l1_3.length c1_3]] w fun e w' => e = .returned (.bool true) ∧ Below w.heap.size w w' := by
  obtain ⟨gd1, gd2⟩ := g0.rel
  obtain ⟨gq1, gq2, gq3⟩ := g1.parts
  obtain ⟨kzD, hzD⟩ := Ev.rounds (szData_ev l0_0 gd1 gd2)
  have z1 : ∀ {z : Int}, z = (if szDv l0_0 < 0 then -1 else szDv l0_0) → 0 ≤ z → z = szDv l0_0 ∧ l0_0.length ≤ 1048576 ∧ z ≤ 1048576 ∧ ∀ x, x ∈ l0_0 → SRel x := by
    intro z hz h0
    by_cases c : szDv l0_0 < 0
    · rw [if_pos c] at hz; omega
    · rw [if_neg c] at hz
      obtain ⟨p1, p2, p3⟩ := szDv_le (Int.not_lt.1 c)
      exact ⟨hz, p1, by omega, p3⟩
  obtain ⟨zD, ezD⟩ : ∃ z, z = (if szDv l0_0 < 0 then -1 else szDv l0_0) := ⟨_, rfl⟩
  rw [← ezD] at hzD
  replace z1 := z1 ezD
  clear ezD
  obtain ⟨zQ, ezQ⟩ : ∃ z, z = szQ a1_0 l1_1 l1_3 zD := ⟨_, rfl⟩
  have z2 : 0 ≤ zD → 0 ≤ zQ → SL SStr l1_1 ∧ SL SAt l1_3 ∧ (varsF (l1_3.map toAt)).length ≤ 1048576 := by
    intro h0 h1
    obtain ⟨_, _, p3, _⟩ := z1 h0
    rw [ezQ] at h1
    obtain ⟨q1, q2, q3, q4, _⟩ := szQ_le p3 h1
    refine ⟨q2, q3, ?_⟩
    unfold szQ at h1
    by_cases c1 : szStr1 a1_0 zD < 0
    · rw [if_pos c1] at h1; omega
    · rw [if_neg c1] at h1
      by_cases c2 : szHd szStr1 l1_1 (szStr1 a1_0 zD) < 0
      · rw [if_pos c2] at h1; omega
      · rw [if_neg c2] at h1
        have r1 := (szStr_le p3 (Int.not_lt.1 c1)).2.1
        have r2 := (szHd_le (s := szStr1) (S := SStr) (fun _ _ => szStr_le) l1_1 _ (by omega) (Int.not_lt.1 c2)).2.1
        by_cases c3 : szHd szAt l1_3 (szHd szStr1 l1_1 (szStr1 a1_0 zD)) < 0
        · rw [if_pos c3] at h1; omega
        · exact varsF_len (by omega) (Int.not_lt.1 c3)
  have hzQ : 0 ≤ zD → ∃ k, laws_szQuery.f k a1_0 l1_1 a1_2 l1_3 zD = some zQ := fun h0 => by
    rw [ezQ]; exact Ev.rounds (szQuery_ev a1_0 l1_1 a1_2 l1_3 zD gq1 gq2 gq3 h0 (z1 h0).2.2.1)
  clear ezQ
  refine lawCheck_walk A0_0 c0_0 l0_0.length a1_0 A1_1 c1_1 l1_1.length a1_2 A1_3 c1_3 l1_3.length w (l0_0.map toRel) l1_1 (l1_3.map toAt) zD zQ (checkG (l0_0.map toRel) l1_1 (l1_3.map toAt) (dataOKb (l0_0.map toRel)) (shapeB a1_0 l1_1 a1_2 (l1_3.map toAt)))
    (fun W hW => laws_szData.calls kzD A0_0 c0_0 l0_0 _ _ W (Kd.C_below hr0_0 hW) hc0_0 hzD) (fun h0 W hW => ?_) (fun h0 h1 W hW => ?_) (fun h0 h1 W hW => ?_) (fun h0 h1 W A0 c0 A1 c1 A3 c3 r0 b0 r1 b1 r3 b3 => ?_) (fun h0 h1 W A0 c0 A1 c1 A3 c3 r0 b0 r1 b1 r3 b3 => ?_)
    (fun h0 h1 W A c A' c' r0 b0 r1 b1 => ?_) (fun h0 h1 W A1 c1 A3 c3 B1 d1 B3 d3 r1 b1 r3 b3 s1 e1 s3 e3 => ?_)
  · obtain ⟨k, hk⟩ := hzQ h0
    exact laws_szQuery.calls k a1_0 A1_1 c1_1 l1_1 a1_2 A1_3 c1_3 l1_3 _ _ W (Kd.C_below hr1_1 hW) hc1_1 (Kd.C_below hr1_3 hW) hc1_3 hk
  · obtain ⟨_, p1, _, p2⟩ := z1 h0
    obtain ⟨k, hk⟩ := Ev.rounds (toData_ev l0_0 p1 p2)
    refine (laws_toData.calls k A0_0 c0_0 l0_0 _ W (Kd.C_below hr0_0 hW) hc0_0 hk).mono fun e W' ⟨v, he, ho, hb⟩ => ?_
    obtain ⟨A, c, rfl, hl, hr⟩ := Kd.R_reads ho
    exact ⟨A, c, he, hl, hr, hb⟩
  · obtain ⟨q2, q3, _⟩ := z2 h0 h1
    obtain ⟨k, hk⟩ := Ev.rounds (toQuery_ev a1_0 l1_1 a1_2 l1_3 q2 q3)
    refine (laws_toQuery.calls k a1_0 A1_1 c1_1 l1_1 a1_2 A1_3 c1_3 l1_3 _ _ _ _ W (Kd.C_below hr1_1 hW) hc1_1 (Kd.C_below hr1_3 hW) hc1_3 hk).mono fun e W' ⟨v1, v3, he, ho1, ho3, hb⟩ => ?_
    obtain ⟨A1, c1, rfl, hl1, hr1⟩ := Kd.R_reads ho1
    obtain ⟨A3, c3, rfl, hl3, hr3⟩ := Kd.R_reads (Kd.S_R ho3)
    exact ⟨A1, c1, A3, c3, he, hl1, hr1, hl3, hr3, hb⟩
  · obtain ⟨_, p1, _, p2⟩ := z1 h0
    obtain ⟨q2, q3, q4⟩ := z2 h0 h1
    have ht := toAt_len q3
    exact scheckQuery_walk A0 c0 _ a1_0 A1 c1 _ a1_2 A3 c3 _ W r0 b0 r1 b1 r3 b3 _ _ (Ev.rounds (specDataOK_ev _ (fits_toRel p2))) (Ev.rounds (sshape_ev a1_0 l1_1 a1_2 _ (by have := q2.1; omega) (by have := ht.1; omega) (fun a ha => by have := ht.2 a ha; omega)))
      (by simp; omega) (Ev.rounds (l3Vars_ev a1_0 l1_1 a1_2 _ (by have := ht.1; omega) (fun a ha => by have := ht.2 a ha; omega) q4)) q4 q2.1
  · obtain ⟨_, p1, _, p2⟩ := z1 h0
    obtain ⟨q2, q3, q4⟩ := z2 h0 h1
    have ht := toAt_len q3
    exact checkQuery_walk A0 c0 _ a1_0 A1 c1 _ a1_2 A3 c3 _ W r0 b0 r1 b1 r3 b3 _ _ (Ev.rounds (implDataOK_ev _ (fits_toRel p2))) (Ev.rounds (shape_ev a1_0 l1_1 a1_2 _ (by have := q2.1; omega) (by have := ht.1; omega)))
      (fun l s hl => Ev.rounds (containsStr_ev l s (by omega))) q4 q2.1
  · obtain ⟨_, p1, _, p2⟩ := z1 h0
    obtain ⟨k, hk⟩ := Ev.rounds (eqData_ev l0_0 p1 p2)
    exact laws_eqData.calls k A c _ A' c' _ _ W r0 b0 r1 b1 hk
  · obtain ⟨q2, q3, _⟩ := z2 h0 h1
    have ht := toAt_len q3
    obtain ⟨k, hk⟩ := Ev.rounds (eqQuery_ev a1_0 l1_1 a1_2 (l1_3.map toAt) q2.1 ht.1 ht.2)
    exact laws_eqQuery.calls k a1_0 A1 c1 _ a1_2 A3 c3 _ a1_0 B1 d1 _ a1_2 B3 d3 _ _ W r1 b1 r3 b3 s1 e1 s3 e3 hk
end Go.Proofs.Ytkolhpmhbgbphaa.PT
namespace Go.Proofs.Ytkolhpmhbgbphaa.fnExactCheckQuery
open Go.ChangeShapes Go.WideShapes Go.ChangeAt Go.RowKit
open Go.ChangeMaps (open_string shut_string)
open Go.Proofs.Ytkolhpmhbgbphaa.Opens Go.Proofs.YtkolhpmhbgbphaaW.PrintWords
set_option linter.unusedVariables false
theorem own : ownKnob Try.prog.godebug = none := by kernel_rfl
theorem laidOut : laidOutB Try.prog = true := by kernel_rfl
def G9 (v : ByteArray) : Prop := v.size ≤ maxLen
theorem opens9 : Opens Try.prog Kd.string 9 G9 := Opens.string Try.underlying9 (by kernel_rfl)
def G3 (v : Int) : Prop := (Lit.int .i64 v).wf = true
theorem opens3 : Opens Try.prog (Kd.int .i64) 3 G3 := Opens.int Try.underlying3 (by kernel_rfl)
def G24 (v : (List Int)) : Prop := v.length ≤ maxLen ∧ ∀ x, x ∈ v → G3 x
theorem opens24 : Opens Try.prog (Kd.slice 3 (Kd.int .i64)) 24 G24 := Opens.slice Try.underlying24 (by kernel_rfl) opens3
def G22 (v : (List (List Int))) : Prop := v.length ≤ maxLen ∧ ∀ x, x ∈ v → G24 x
theorem opens22 : Opens Try.prog (Kd.slice 24 (Kd.slice 3 (Kd.int .i64))) 22 G22 := Opens.slice Try.underlying22 (by kernel_rfl) opens24
def G202 (v : Go.Proofs.Ytkolhpmhbgbphaa.P.S202) : Prop := G9 (v.f0) ∧ G3 (v.f1) ∧ G22 (v.f2) ∧ G24 (v.f3)
theorem opensE202 : Opens Try.prog Go.Proofs.Ytkolhpmhbgbphaa.P.k202 202 G202 := Opens.struct Try.underlying202 (by kernel_rfl) (fun enc W held n cs hl hf =>
  Opens.iso (fun x : Go.Proofs.Ytkolhpmhbgbphaa.P.S202 => (x.f0, x.f1, x.f2, x.f3)) (fun x => ⟨x.1, x.2.1, x.2.2.1, x.2.2.2⟩) (fun _ => rfl) (Opens.cons (o := 0) (k := 1) (Opens.fld (o := 0) opens9 (hf 0 _ rfl)) (Opens.cons (o := 1) (k := 1) (Opens.fld (o := 1) opens3 (hf 1 _ rfl)) (Opens.cons (o := 2) (k := 1) (Opens.fld (o := 2) opens22 (hf 2 _ rfl)) (Opens.last (o := 3) (k := 1) (hl.trans rfl) (Opens.fld (o := 3) opens24 (hf 3 _ rfl)))))))
def G63 (v : (List Go.Proofs.Ytkolhpmhbgbphaa.P.S202)) : Prop := v.length ≤ maxLen ∧ ∀ x, x ∈ v → G202 x
theorem opens63 : Opens Try.prog (Kd.slice 202 Go.Proofs.Ytkolhpmhbgbphaa.P.k202) 63 G63 := Opens.slice Try.underlying63 (by kernel_rfl) opensE202
def G65P (v : ((List Go.Proofs.Ytkolhpmhbgbphaa.P.S202))) : Prop := G63 v
theorem opens65 : Opens Try.prog (Kd.slice 202 Go.Proofs.Ytkolhpmhbgbphaa.P.k202) 65 G65P := Opens.struct Try.underlying65 (by kernel_rfl) (fun enc W held n cs hl hf => (Opens.last (o := 0) (k := 1) (hl.trans rfl) (Opens.fld (o := 0) opens63 (hf 0 _ rfl))))
def G31 (v : (List ByteArray)) : Prop := v.length ≤ maxLen ∧ ∀ x, x ∈ v → G9 x
theorem opens31 : Opens Try.prog (Kd.slice 9 Kd.string) 31 G31 := Opens.slice Try.underlying31 (by kernel_rfl) opens9
def G237 (v : Go.Proofs.Ytkolhpmhbgbphaa.P.S237) : Prop := G9 (v.f0) ∧ G3 (v.f1)
theorem opensE237 : Opens Try.prog Go.Proofs.Ytkolhpmhbgbphaa.P.k237 237 G237 := Opens.struct Try.underlying237 (by kernel_rfl) (fun enc W held n cs hl hf =>
  Opens.iso (fun x : Go.Proofs.Ytkolhpmhbgbphaa.P.S237 => (x.f0, x.f1)) (fun x => ⟨x.1, x.2⟩) (fun _ => rfl) (Opens.cons (o := 0) (k := 1) (Opens.fld (o := 0) opens9 (hf 0 _ rfl)) (Opens.last (o := 1) (k := 1) (hl.trans rfl) (Opens.fld (o := 1) opens3 (hf 1 _ rfl)))))
def G180 (v : (List Go.Proofs.Ytkolhpmhbgbphaa.P.S237)) : Prop := v.length ≤ maxLen ∧ ∀ x, x ∈ v → G237 x
theorem opens180 : Opens Try.prog (Kd.slice 237 Go.Proofs.Ytkolhpmhbgbphaa.P.k237) 180 G180 := Opens.slice Try.underlying180 (by kernel_rfl) opensE237
def G182 (v : Go.Proofs.Ytkolhpmhbgbphaa.P.S182) : Prop := G9 (v.f0) ∧ G180 (v.f1)
theorem opensE182 : Opens Try.prog Go.Proofs.Ytkolhpmhbgbphaa.P.k182 182 G182 := Opens.struct Try.underlying182 (by kernel_rfl) (fun enc W held n cs hl hf =>
  Opens.iso (fun x : Go.Proofs.Ytkolhpmhbgbphaa.P.S182 => (x.f0, x.f1)) (fun x => ⟨x.1, x.2⟩) (fun _ => rfl) (Opens.cons (o := 0) (k := 1) (Opens.fld (o := 0) opens9 (hf 0 _ rfl)) (Opens.last (o := 1) (k := 1) (hl.trans rfl) (Opens.fld (o := 1) opens180 (hf 1 _ rfl)))))
def G32 (v : (List Go.Proofs.Ytkolhpmhbgbphaa.P.S182)) : Prop := v.length ≤ maxLen ∧ ∀ x, x ∈ v → G182 x
theorem opens32 : Opens Try.prog (Kd.slice 182 Go.Proofs.Ytkolhpmhbgbphaa.P.k182) 32 G32 := Opens.slice Try.underlying32 (by kernel_rfl) opensE182
def G34P (v : (ByteArray × (List ByteArray) × Int × (List Go.Proofs.Ytkolhpmhbgbphaa.P.S182))) : Prop := G9 (v.1) ∧ G31 (v.2.1) ∧ G3 (v.2.2.1) ∧ G32 (v.2.2.2)
theorem opens34 : Opens Try.prog (Kd.pair Kd.string (Kd.pair (Kd.slice 9 Kd.string) (Kd.pair (Kd.int .i64) (Kd.slice 182 Go.Proofs.Ytkolhpmhbgbphaa.P.k182)))) 34 G34P := Opens.struct Try.underlying34 (by kernel_rfl) (fun enc W held n cs hl hf => (Opens.cons (o := 0) (k := 1) (Opens.fld (o := 0) opens9 (hf 0 _ rfl)) (Opens.cons (o := 1) (k := 1) (Opens.fld (o := 1) opens31 (hf 1 _ rfl)) (Opens.cons (o := 2) (k := 1) (Opens.fld (o := 2) opens3 (hf 2 _ rfl)) (Opens.last (o := 3) (k := 1) (hl.trans rfl) (Opens.fld (o := 3) opens32 (hf 3 _ rfl)))))))
set_option maxRecDepth 100000 in
theorem lifted (os : Os) (started : os.Started) (H : Type) (enc : TypeId × Value → H) :
    ReturnsInHanded {} Try.checked os 7 .any (Rows.fnExactCheckQuerySpec.pre6 enc Try.prog Try.f7 Rows.fnExactCheckQueryRow.domain false) (Rows.fnExactCheckQuerySpec.post enc Try.prog Try.f7 false true false false) := by
  refine returnsInHanded_of_change_sized (C := Try.checked) own started (by kernel_rfl) Try.func7
    (ChangeSpec.witness6 (enc := enc) (C := Try.checked) false ⟨#[], #[.agg #[.slice none 0 0], .agg #[.string ByteArray.empty, .slice none 0 0, .int .i64 0, .slice none 0 0]], []⟩ 8 (by kernel_rfl) (by kernel_rfl) (by kernel_rfl) (by kernel_rfl)) ?_
  intro W base args ds gs before hval0 hW hcnd hsz0 _
  have hval : ∀ (j : Nat) t v, Try.f7.params[j]? = some t → args[j]? = some v → Value.okWide Try.prog W .any base t v := hval0
  have hW' := hW
  obtain ⟨p, q, hA0, hV, rfl, hfz, hnd⟩ := hW
  have hA : DataW.TrodAll enc Try.prog W 0 (fun _ => true) true Try.f7.params.toList args.toList ds p := hA0
  rw [Try.params7] at hA hval
  obtain ⟨v0, vs0, d0, ds0, p0, q0, hargs, rfl, rfl, h0, r0⟩ := trodAll_cons hA
  obtain ⟨v1, vs1, d1, ds1, p1, q1, rfl, rfl, rfl, h1, r1⟩ := trodAll_cons r0
  obtain ⟨rfl, rfl, rfl⟩ := trodAll_nil r1
  obtain rfl : args = #[v0, v1] := by cases args; simp_all
  obtain ⟨rfl, rfl⟩ := trodVars_none hV
  have k0 := h0
  have lt0 : ∀ x ∈ p0, x.block < W.heap.size := by obtain ⟨m, hm⟩ := k0; exact DataW.trod_lt m _ _ _ hm
  obtain ⟨cs0, rfl, sz0⟩ := okWide_struct Try.underlying65 (hval 0 65 v0 rfl rfl)
  obtain ⟨fu0, hf0⟩ := h0
  obtain ⟨x0, hK0, gg0⟩ := (opens65).2 enc W true fu0 _ _ hf0
  have hK0' : ((Kd.slice 202 Go.Proofs.Ytkolhpmhbgbphaa.P.k202)).K W x0 cs0.toList := hK0
  generalize hcs0 : cs0.toList = cl0 at hK0'
  obtain ⟨A0_0, c0_0, rfl, hc0_0, hr0_0⟩ := hK0'
  obtain rfl : cs0 = #[.slice A0_0 x0.length c0_0] := by cases cs0; simp_all
  have k1 := h1
  have lt1 : ∀ x ∈ p1, x.block < W.heap.size := by obtain ⟨m, hm⟩ := k1; exact DataW.trod_lt m _ _ _ hm
  obtain ⟨cs1, rfl, sz1⟩ := okWide_struct Try.underlying34 (hval 1 34 v1 rfl rfl)
  obtain ⟨fu1, hf1⟩ := h1
  obtain ⟨x1, hK1, gg1⟩ := (opens34).2 enc W true fu1 _ _ hf1
  have hK1' : ((Kd.pair Kd.string (Kd.pair (Kd.slice 9 Kd.string) (Kd.pair (Kd.int .i64) (Kd.slice 182 Go.Proofs.Ytkolhpmhbgbphaa.P.k182))))).K W x1 cs1.toList := hK1
  generalize hcs1 : cs1.toList = cl1 at hK1'
  obtain ⟨_, _, rfl, rfl, ⟨_, _, rfl, ⟨A1_1, c1_1, rfl, hc1_1, hr1_1⟩, ⟨_, _, rfl, rfl, ⟨A1_3, c1_3, rfl, hc1_3, hr1_3⟩⟩⟩⟩ := hK1'
  obtain rfl : cs1 = #[.string x1.1, .slice A1_1 x1.2.1.length c1_1, .int .i64 x1.2.2.1, .slice A1_3 x1.2.2.2.length c1_3] := by cases cs1; simp_all
  clear hA0 hval0
  refine (Go.Proofs.Ytkolhpmhbgbphaa.PT.checkQuery_law (w := W) (A0_0 := A0_0) (c0_0 := c0_0) (l0_0 := x0) (a1_0 := x1.1) (A1_1 := A1_1) (c1_1 := c1_1) (l1_1 := x1.2.1) (a1_2 := x1.2.2.1) (A1_3 := A1_3) (c1_3 := c1_3) (l1_3 := x1.2.2.2) (hr0_0 := hr0_0) (hc0_0 := hc0_0) (hr1_1 := hr1_1) (hc1_1 := hc1_1) (hr1_3 := hr1_3) (hc1_3 := hc1_3) gg0 gg1).mono fun e W' ⟨he, bel⟩ => ?_
  subst he
  exact ⟨_, rfl, _, _, _, [], _, [], hW', trodAll_mk1 (shut_bool Try.underlying4 _), (trodAll_cons_mk (Below.trod laidOut (by kernel_rfl) (of_decide_eq_true (by kernel_rfl)) k0 bel lt0) (trodAll_cons_mk (Below.trod laidOut (by kernel_rfl) (of_decide_eq_true (by kernel_rfl)) k1 bel lt1) trodAll_mk0)), rfl, bel.frame _, fun h => by cases h⟩
theorem over : Rows.fnExactCheckQueryRow.holds Try.pinned (OpenSpec.ofChange Rows.fnExactCheckQuerySpec) :=
  OpenClaim.holds_of_wide 7 Try.f7 rfl rfl rfl rfl rfl rfl rfl ⟨rfl, rfl, rfl, rfl, rfl⟩ rfl rfl rfl rfl rfl (by kernel_rfl) Try.func7 (by kernel_rfl)
    (of_decide_eq_true (by kernel_rfl)) (by unfold Func.isWrapper; first | (rw [if_pos (by decide +kernel)]; kernel_rfl) | (rw [if_neg (by decide +kernel)]; exact ⟨rfl, rfl⟩))
    (fun os started H enc _ => lifted os started H enc)
theorem proved : Rows.FnExactCheckQuerySaid := over
#print axioms proved
end Go.Proofs.Ytkolhpmhbgbphaa.fnExactCheckQuery
