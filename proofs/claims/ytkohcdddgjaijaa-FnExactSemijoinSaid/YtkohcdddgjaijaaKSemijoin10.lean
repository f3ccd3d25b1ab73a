/-
  Part 10 of the proof of this: The law FnExactSemijoin answers true at every argument.
-/
import Derived.Test.YtkohcdddgjaijaaKSemijoin2
import Derived.Test.YtkohcdddgjaijaaKSemijoin3
import Derived.Test.YtkohcdddgjaijaaKSemijoin7
import Derived.Test.YtkohcdddgjaijaaKSemijoin8
import Derived.Test.YtkohcdddgjaijaaKSemijoin9
namespace Go.Proofs.Ytkohcdddgjaijaa.PT
open Go.RowKit Go.Proofs.Ytkohcdddgjaijaa.P Go.Proofs.YtkohcdddgjaijaaW.PrintWords Go.Proofs.YtkohcdddgjaijaaW.PrintLast Go.Proofs.Ytkohcdddgjaijaa.EvKit
set_option linter.unusedVariables false
set_option linter.unusedSimpArgs false
def tr0' (W W' : World) : Prop := ∃ m, W' = W.drewN m
def lbR (row : List Int) : List (List Int) → Nat
  | [] => 0
  | x :: r => if cmpL x row < 0 then lbR row r + 1 else 0
theorem trd (w : World) (m : Nat) : tr0' w (w.drewN m) := ⟨m, rfl⟩
theorem lbR_le (row : List Int) : ∀ l, lbR row l ≤ l.length
  | [] => Nat.le_refl _
  | x :: r => by
    have := lbR_le row r
    simp only [lbR, List.length_cons]
    split <;> omega
theorem lbR_lt (row : List Int) : ∀ (l : List (List Int)) (i : Nat) (h : i < l.length), i < lbR row l → cmpL l[i] row < 0
  | x :: r, i, h, hi => by
    simp only [lbR] at hi
    by_cases c : cmpL x row < 0
    · rw [if_pos c] at hi
      cases i with
      | zero => exact c
      | succ i => exact lbR_lt row r i (by simpa using h) (by omega)
    · rw [if_neg c] at hi; omega
theorem lbR_ge (row : List Int) : ∀ (l : List (List Int)), Strict l → ∀ (i : Nat) (h : i < l.length), lbR row l ≤ i → ¬ cmpL l[i] row < 0
  | x :: r, hs, i, h, hi => by
    unfold Strict at hs
    rw [List.pairwise_cons] at hs
    simp only [lbR] at hi
    by_cases c : cmpL x row < 0
    · rw [if_pos c] at hi
      cases i with
      | zero => omega
      | succ i => exact lbR_ge row r hs.2 i (by simpa using h) (by omega)
    · cases i with
      | zero => exact c
      | succ i =>
        intro h2
        exact c (cmpL_trans _ _ _ (hs.1 _ (List.getElem_mem (by simpa using h))) h2)
theorem lbR_mem {row : List Int} {l : List (List Int)} (hs : Strict l) : row ∈ l ↔ ∃ h : lbR row l < l.length, cmpL l[lbR row l] row = 0 := by
  constructor
  · intro hm
    obtain ⟨q, hq, he⟩ := List.getElem_of_mem hm
    have e : lbR row l = q := by
      rcases Nat.lt_trichotomy (lbR row l) q with e | e | e
      · have h1 := lbR_ge row l hs (lbR row l) (by omega) (Nat.le_refl _)
        have h0 := hs
        unfold Strict at h0
        have h2 := List.pairwise_iff_getElem.1 h0 (lbR row l) q (by omega) hq e
        rw [he] at h2; exact absurd h2 h1
      · exact e
      · have h1 := lbR_lt row l q hq e
        rw [he, cmpL_self] at h1; omega
    exact ⟨by omega, by simp only [e]; rw [he]; exact cmpL_self _⟩
  · rintro ⟨h, he⟩
    rw [← cmpL_eq _ _ he]; exact List.getElem_mem h
set_option maxHeartbeats 2000000 in
set_option maxRecDepth 100000 in
theorem bsR_walk (A : Option Addr) (c : Nat) (l : List (List Int)) (B : Option Addr) (d : Nat) (row : List Int) (w : World) (hr : Kd.C kRb w A l.length l) (hc : l.length ≤ c) (hrow : Kd.C (Kd.int .i64) w B row.length row) (hd : row.length ≤ d) (hs : Strict l) (hl : l.length ≤ 1048576) (hx : ∀ x, x ∈ l → x.length ≤ 1048576) :
    Calls Try.prog 38 #[.slice A l.length c, .slice B row.length d, .func (.func 40) #[] #[]] w fun e w' => (∃ p : Int, e = .returned (.tuple #[.int .i64 p, .bool (decide (row ∈ l))])) ∧ Drawn0 w w' := by
  have HR := Aside0.mk hr
  have HS := Aside0.mk hs
  have HX := Aside0.mk hx
  have HRow := Aside0.mk hrow
  clear hr hs hx hrow
  have HCm : Aside0 (∀ (i : Nat) (h : i < l.length) A1 c1 W, tr0' w W → Kd.C (Kd.int .i64) w A1 (l[i]).length l[i] → (l[i]).length ≤ c1 → Calls Try.prog 40 #[.slice A1 (l[i]).length c1, .slice B row.length d] W fun e w' => e = .returned (.int .i64 (cmpL l[i] row)) ∧ Drawn0 W w') := ⟨fun i h A1 c1 W t hC hc1 => by
    obtain ⟨k, hk⟩ := Ev.rounds (slicesCompare_ev l[i] row (by have := HX.out _ (List.getElem_mem h); omega))
    obtain ⟨m, rfl⟩ := t
    exact slices_Compare_int_int.calls k A1 c1 l[i] B d row _ _ (Kd.C_drewN hC m) hc1 (Kd.C_drewN HRow.out m) hd hk⟩
  go_enter Try.func38, Try.ntmps38
  go_wp2
  go_loopw [9, 10] (fun iv jv wr => ∃ i j : Nat, iv = .int .i64 (i : Int) ∧ jv = .int .i64 (j : Int) ∧ i ≤ j ∧ j ≤ l.length ∧ Aside0 (i ≤ lbR row l ∧ lbR row l ≤ j) ∧ Drawn0 w wr) (fun iv jv _ => (intOf jv).toNat - (intOf iv).toNat)
  case atStart => exact ⟨0, l.length, rfl, rfl, by omega, Nat.le_refl _, ⟨by omega, lbR_le row l⟩, Drawn0.refl _⟩
  case round =>
    obtain ⟨i, j, rfl, rfl, hij, hjl, HI, ⟨m, rfl⟩⟩ := hrel
    by_cases hlt : i < j
    · have hh : (i + j) / 2 < l.length := by omega
      have e1 : ((i : Int) + (j : Int)) / 2 = (((i + j) / 2 : Nat) : Int) := by omega
      obtain ⟨ad, A1, c1, e, hx0, hc1, hC1⟩ := row_at HR.out ((i + j) / 2) hh
      cases e
      have hx1 : (w.drewN m).cell? (ad.add ((i + j) / 2)) = some (.slice A1 (l[(i + j) / 2]).length c1) := hx0
      have g0 : 0 ≤ ((i : Int) + (j : Int)) / 2 := by omega
      have g1 : ((i : Int) + (j : Int)) / 2 < (l.length : Int) := by omega
      have HE := Aside0.mk e1
      have HX1 : Aside0 (cmpL l[(i + j) / 2] row < 0 → (i + j) / 2 < lbR row l) := ⟨fun h => Classical.byContradiction (fun h2 => lbR_ge row l HS.out _ hh (by omega) h)⟩
      have HX2 : Aside0 (¬ cmpL l[(i + j) / 2] row < 0 → lbR row l ≤ (i + j) / 2) := ⟨fun h => Classical.byContradiction (fun h2 => h (lbR_lt row l _ hh (by omega)))⟩
      have HC1 := Aside0.mk (fun W t => HCm.out _ hh A1 c1 W t hC1 hc1)
      clear e1 hx0 hC1
      generalize l[(i + j) / 2] = y at *
      by_cases hy : cmpL y row < 0
      · have HI2 := Aside0.mk (HX1.out hy)
        have e2 : decide (cmpL y row < 0) = true := decide_eq_true hy
        clear HX1 HX2 hy
        generalize cmpL y row = z at *
        go_wp2_with (first | (go_at_call 40; (with_reducible refine (HC1.out _ (trd _ _)).mono ?_); rintro e w1 ⟨rfl, ⟨n1, rfl⟩⟩))
        go_roundw
        case rel => exact ⟨(i + j) / 2 + 1, j, by rw [HE.out]; rfl, rfl, by omega, hjl, ⟨HI2.out, HI.out.2⟩, by repeat (first | exact Drawn0.refl _ | apply Drawn0.step)⟩
        case measure => rw [HE.out]; simp [intOf]; omega
      · have HI2 := Aside0.mk (HX2.out hy)
        have e2 : decide (cmpL y row < 0) = false := decide_eq_false hy
        clear HX1 HX2 hy
        generalize cmpL y row = z at *
        go_wp2_with (first | (go_at_call 40; (with_reducible refine (HC1.out _ (trd _ _)).mono ?_); rintro e w1 ⟨rfl, ⟨n1, rfl⟩⟩))
        go_roundw
        case rel => exact ⟨i, (i + j) / 2, rfl, by rw [HE.out], by omega, by omega, ⟨HI.out.1, HI2.out⟩, by repeat (first | exact Drawn0.refl _ | apply Drawn0.step)⟩
        case measure => rw [HE.out]; simp [intOf]; omega
    · have hij2 : i = j := by omega
      have HI3 : Aside0 (i = lbR row l) := ⟨by have := HI.out; omega⟩
      subst hij2
      by_cases hend : i < l.length
      · obtain ⟨ad, A1, c1, e, hx0, hc1, hC1⟩ := row_at HR.out i hend
        cases e
        have hx1 : (w.drewN m).cell? (ad.add i) = some (.slice A1 (l[i]).length c1) := hx0
        have g0 : (0 : Int) ≤ (i : Int) := by omega
        have g1 : (i : Int) < (l.length : Int) := by omega
        have HC1 := Aside0.mk (fun W t => HCm.out _ hend A1 c1 W t hC1 hc1)
        have HF : Aside0 (decide (row ∈ l) = decide (cmpL l[i] row = 0)) := ⟨by
          rw [decide_eq_decide, lbR_mem HS.out]
          have e := HI3.out
          subst e
          exact ⟨fun ⟨_, h⟩ => h, fun h => ⟨hend, h⟩⟩⟩
        clear hx0 hC1
        generalize l[i] = y at *
        have HF2 : Aside0 (decide (row ∈ l) = (cmpL y row == 0)) := ⟨by rw [HF.out]; rfl⟩
        clear HF
        generalize cmpL y row = z at *
        go_wp2_with (first | (go_at_call 40; (with_reducible refine (HC1.out _ (trd _ _)).mono ?_); rintro e w1 ⟨rfl, ⟨n1, rfl⟩⟩))
        go_ret2
        exact ⟨⟨_, by rw [HF2.out]; first | rfl | (simp; done)⟩, by repeat (first | exact Drawn0.refl _ | apply Drawn0.step)⟩
      · have e9 : decide ((i : Int) < (l.length : Int)) = false := decide_eq_false (by omega)
        have HF2 : Aside0 (decide (row ∈ l) = false) := ⟨decide_eq_false (fun h => by
          obtain ⟨h2, _⟩ := (lbR_mem HS.out).1 h
          have := HI3.out; omega)⟩
        go_wp2
        go_ret2
        exact ⟨⟨_, by rw [HF2.out]; first | rfl | (simp; done)⟩, by repeat (first | exact Drawn0.refl _ | apply Drawn0.step)⟩
end Go.Proofs.Ytkohcdddgjaijaa.PT
namespace Go.Proofs.Ytkohcdddgjaijaa.P
open Go.RowKit Go.Proofs.YtkohcdddgjaijaaW.PrintWords Go.Proofs.YtkohcdddgjaijaaW.PrintLast Go.Proofs.YtkohcdddgjaijaaW.PrintMore
attribute [local go_sem] max2_int min2_int max_two min_two max_three min_three max_four min_four
set_option linter.unusedVariables false
set_option linter.unusedSimpArgs false
def impl_shared.l0 : Nat → List Int → List Int → List Int → Int → Int → Option (List Int)
 | 0, _, _, _, _, _ => none
 | k + 1, x1, x5, x8, x9, x10 => if x10 < x9 then (if 0 ≤ x10 then (if x10 < (x8.length : Int) then ((slices_Contains_int_int.f k x1 (rd x8 x10)).bind fun t398 => (if t398 = true then (if x5.length < 17592186044416 then (impl_shared.l0 k x1 (x5 ++ [rd x8 x10]) x8 x9 (wrap64 (x10 + 1))) else (none)) else (impl_shared.l0 k x1 x5 x8 x9 (wrap64 (x10 + 1))))) else (none)) else (none)) else (some x5)
def impl_shared.f (k : Nat) (l0 : List Int) (l1 : List Int) : Option (List Int) := impl_shared.l0 k l1 ([] : List Int) l0 (l0.length : Int) 0
theorem impl_shared.mono_l : ∀ k, (∀ y0 y1 y2 y3 y4, LeO (impl_shared.l0 k y0 y1 y2 y3 y4) (impl_shared.l0 (k + 1) y0 y1 y2 y3 y4))
 | 0 => fun _ _ _ _ _ r h => by simp [impl_shared.l0] at h
 | k + 1 => by
  have ih0 := impl_shared.mono_l k
  ·intro y0 y1 y2 y3 y4
   unfold impl_shared.l0
   repeat' first
   | (with_reducible exact ih0 _ _ _ _ _)
   | (with_reducible exact slices_Contains_int_int.mono _ _ _)
   | (with_reducible exact LeO.refl _)
   | (with_reducible exact LeO.none _)
   | (with_reducible refine LeO.ite ?_ ?_)
   | (with_reducible refine LeO.bind ?_ (fun _ => ?_))
   | exact ih0 _ _ _ _ _
   | exact slices_Contains_int_int.mono _ _ _
   | exact LeO.none _
   | refine LeO.ite ?_ ?_
   | refine LeO.bind ?_ (fun _ => ?_)
theorem impl_shared.mono : ∀ a0 a1 k, LeO (impl_shared.f k a0 a1) (impl_shared.f (k + 1) a0 a1) := by
 intro a0 a1 k
 have ih0 := impl_shared.mono_l k
 unfold impl_shared.f
 repeat' first
   | (with_reducible exact ih0 _ _ _ _ _)
   | (with_reducible exact slices_Contains_int_int.mono _ _ _)
   | (with_reducible exact LeO.refl _)
   | (with_reducible exact LeO.none _)
   | (with_reducible refine LeO.ite ?_ ?_)
   | (with_reducible refine LeO.bind ?_ (fun _ => ?_))
   | exact ih0 _ _ _ _ _
   | exact slices_Contains_int_int.mono _ _ _
   | exact LeO.none _
   | refine LeO.ite ?_ ?_
   | refine LeO.bind ?_ (fun _ => ?_)
set_option maxHeartbeats 8000000 in
set_option maxRecDepth 100000 in
theorem impl_shared.calls (k : Nat) (A0 : Option Addr) (c0 : Nat) (l0 : List Int) (A1 : Option Addr) (c1 : Nat) (l1 : List Int) (r : List Int) (w : World) (hr0 : Kd.C (Kd.int .i64) w A0 l0.length l0) (hc0 : l0.length ≤ c0) (hr1 : Kd.C (Kd.int .i64) w A1 l1.length l1) (hc1 : l1.length ≤ c1) (h : impl_shared.f k l0 l1 = some r) :
  Calls Try.prog 36 #[.slice A0 l0.length c0, .slice A1 l1.length c1] w fun e w' => ∃ v0_ : Value, e = .returned (v0_) ∧ Kd.R (Kd.int .i64) 3 w' w.heap.size (fun _ => True) v0_ r ∧ Below w.heap.size w w' := by
 have HR0 := Aside0.mk hr0
 have HC0 := Aside0.mk hc0
 clear hr0 hc0
 have HR1 := Aside0.mk hr1
 have HC1 := Aside0.mk hc1
 clear hr1 hc1
 have HB := Aside0.mk (Below.refl w.heap.size w)
 have H : (impl_shared.l0 k l1 ([] : List Int) l0 (l0.length : Int) 0) = some r := h
 clear h
 have H' := Aside0.mk H
 clear H
 go_enter Try.func36, Try.ntmps36
 go_wp2
 go_loopg [5, 10] k (fun kq v5 v10 w' => ∃ (x5_1 : List Int) (x10_1 : Int), v10 = .int .i64 x10_1 ∧ Aside0 (impl_shared.l0 kq l1 x5_1 l0 (l0.length : Int) x10_1 = some r) ∧ Aside0 (kq ≤ k) ∧ Aside0 (Kd.R (Kd.int .i64) 3 w' w.heap.size (fun _ => True) v5 x5_1) ∧ Aside0 (Below w.heap.size w w'))
 case atStart => exact ⟨(([] : List Int)), (0), (by first | rfl | (simp; done) | (simp [*]; done)), H', ⟨Nat.le_refl _⟩, ⟨by first | exact Kd.R_nil _ _ _ _ _ | exact Kd.N_nil _ _ _ _ _ | exact Kd.V_nil _ _ _ _ _ | exact Kd.Q_nil _ _ _ _ _ | exact Kd.S_nil _ _ _ _ _⟩, ⟨by repeat (first | (with_reducible first | exact HB.out | apply below_alloc | apply pw_below_drewN | apply below_drew1) | exact HB.out)⟩⟩
 case round =>
  clear H'
  try clear c1
  try clear p2
  obtain ⟨x5_1, x10_1, rfl, HA, HK1, HO_5, HB⟩ := hrel
  cases gk with
  | zero => exact absurd HA.out (by simp [impl_shared.l0])
  | succ k1 =>
   have H := HA.out
   clear HA
   simp only [impl_shared.l0] at H
   by_cases c3 : x10_1 < (l0.length : Int)
   ·rw [if_pos c3] at H
    have c3b0 : decide (x10_1 < (l0.length : Int)) = true := decide_eq_true c3
    clear c3
    by_cases c4 : 0 ≤ x10_1
    ·rw [if_pos c4] at H
     have c4b0 : decide (0 ≤ x10_1) = true := decide_eq_true c4
     clear c4
     by_cases c5 : x10_1 < (l0.length : Int)
     ·rw [if_pos c5] at H
      have c5b0 : decide (x10_1 < (l0.length : Int)) = true := decide_eq_true c5
      clear c5
      replace H := Option.bind_eq_some_iff.mp H
      obtain ⟨t398, A60, H⟩ := H
      replace H : (if t398 = true then (if x5_1.length < 17592186044416 then (impl_shared.l0 k1 l1 (x5_1 ++ [rd l0 x10_1]) l0 (l0.length : Int) (wrap64 (x10_1 + 1))) else (none)) else (impl_shared.l0 k1 l1 x5_1 l0 (l0.length : Int) (wrap64 (x10_1 + 1)))) = some r := H
      have A6 := Aside0.mk A60
      clear A60
      by_cases c7 : t398 = true
      ·subst c7
       have H1 : (if x5_1.length < 17592186044416 then (impl_shared.l0 k1 l1 (x5_1 ++ [rd l0 x10_1]) l0 (l0.length : Int) (wrap64 (x10_1 + 1))) else (none)) = some r := by rw [if_pos rfl] at H; exact H
       clear H
       have H := H1
       clear H1
       by_cases c8 : x5_1.length < 17592186044416
       ·rw [if_pos c8] at H
        have LMc8 := Aside0.mk c8
        clear c8
        obtain ⟨y399, hy399⟩ : ∃ y_ : List Int, y_ = (x5_1 ++ [rd l0 x10_1]) := ⟨_, rfl⟩
        replace H : (impl_shared.l0 k1 l1 y399 l0 (l0.length : Int) (wrap64 (x10_1 + 1))) = some r := by first | (rw [hy399]; with_reducible exact H) | (have H2_ := (Option.bind_some _ _).symm.trans H; rw [hy399]; with_reducible exact H2_) | (have H2_ := (Option.bind_some _ _).symm.trans H; with_reducible exact H2_) | with_reducible exact H | (rw [hy399]; exact H) | exact H
        have Ny399 := Aside0.mk hy399
        clear hy399
        have H' := Aside0.mk H
        clear H
        have p397 : 0 ≤ (x10_1 : Int) := of_decide_eq_true (by first | (with_reducible assumption) | assumption)
        have q397 : x10_1 < (l0.length : Int) := of_decide_eq_true (by first | (with_reducible assumption) | assumption)
        obtain ⟨ad397, e397, hx397_0⟩ := Kd.at_int HR0.out x10_1 p397 q397
        cases e397
        replace hx397_0 := (HB.out.cell (World.block_lt_of_cell? w _ hx397_0)).trans hx397_0
        replace p397 := eq_true p397
        replace q397 := eq_true q397
        go_wp2_with (first | ((with_reducible refine gate_callee (f := 26) rfl ?_); refine goesL_ (some 16) rfl rfl Try.func26 (by kernel_rfl) rfl #[.slice A1 l1.length c1, .int .i64 (rd l0 x10_1)] rfl (by (try simp only [List.map_toArray, List.map_cons, List.map_nil]); first | done | rfl | (simp only [List.length_drop, List.length_take]; rfl)) ?_; (with_reducible refine (slices_Contains_int_int.calls k1 _ _ l1 (rd l0 x10_1) true _ ?side1 ?side2 A6.out).mono ?_); (case side1 => repeat (first | exact (Kd.C_below HR1.out HB.out) | (with_reducible refine Kd.C_alloc ?_ _) | (with_reducible refine Kd.C_drewN ?_ _) | (with_reducible refine Kd.C_drew ?_))); (case side2 => exact HC1.out); rintro e w' ⟨rfl, ⟨nd, rfl⟩⟩; refine ⟨_, rfl, ?_⟩) | ((with_reducible refine gate_builtin (b := .append) (xs := #[.tmp 17, .tmp 19]) rfl ?_); at_builtin; refine Kd.R_append (Kd.int .i64) (w0 := w) w.heap.size rfl (.tmp 17) (.tmp 19) 22 3 (.int .i64 0) 8 rfl Try.underlying22 info3 rfl (by decide) (by omega) u5 x5_1 (rd l0 x10_1) [.int .i64 (rd l0 x10_1)] (fun _ => True) (fun _ => False) rfl rfl ?aP (fun _ hk => hk.elim) ?aF ?aO ?aB ?aS ?aL ?_; (case aP => exact rfl); (case aB => exact (by repeat (first | (with_reducible first | exact HB.out | apply below_alloc | apply pw_below_drewN | apply below_drew1) | exact HB.out))); (case aF => exact (fun _ _ => trivial)); (case aO => exact (by (with_reducible repeat (first | apply Kd.R_alloc | apply Kd.R_drewN | apply Kd.R_drew)); exact HO_5.out)); (case aS => exact (below_size (by repeat (first | (with_reducible first | exact HB.out | apply below_alloc | apply pw_below_drewN | apply below_drew1) | exact HB.out)))); (case aL => have := LMc8.out; omega); intro v400 w9 ho hb hg hat; rw [← Ny399.out] at ho; have n0_ := Aside0.mk (hb); have n1_ := Aside0.mk (ho); clear HB; clear HO_5; have HB := n0_; have HO401 := n1_; clear n0_ n1_; clear ho hb hg hat))
        go_roundg k1
        case measure => have := HK1.out; omega
        case rel => exact ⟨(y399), (wrap64 (x10_1 + 1)), (by first | rfl | (simp; done) | (simp [*]; done)), H', ⟨by have := HK1.out; omega⟩, ⟨by (with_reducible repeat (first | apply Kd.R_alloc | apply Kd.R_drewN | apply Kd.R_drew)); exact HO401.out⟩, ⟨by repeat (first | (with_reducible first | exact HB.out | apply below_alloc | apply pw_below_drewN | apply below_drew1) | exact HB.out)⟩⟩
       ·rw [if_neg c8] at H
        exact absurd H (by simp)
      ·replace c7 := Bool.eq_false_iff.mpr c7
       subst c7
       have H1 : (impl_shared.l0 k1 l1 x5_1 l0 (l0.length : Int) (wrap64 (x10_1 + 1))) = some r := by rw [if_neg (show ¬ (false = true) by decide)] at H; exact H
       clear H
       have H := H1
       clear H1
       have H' := Aside0.mk H
       clear H
       have p397 : 0 ≤ (x10_1 : Int) := of_decide_eq_true (by first | (with_reducible assumption) | assumption)
       have q397 : x10_1 < (l0.length : Int) := of_decide_eq_true (by first | (with_reducible assumption) | assumption)
       obtain ⟨ad397, e397, hx397_0⟩ := Kd.at_int HR0.out x10_1 p397 q397
       cases e397
       replace hx397_0 := (HB.out.cell (World.block_lt_of_cell? w _ hx397_0)).trans hx397_0
       replace p397 := eq_true p397
       replace q397 := eq_true q397
       go_wp2_with (first | ((with_reducible refine gate_callee (f := 26) rfl ?_); refine goesL_ (some 16) rfl rfl Try.func26 (by kernel_rfl) rfl #[.slice A1 l1.length c1, .int .i64 (rd l0 x10_1)] rfl (by (try simp only [List.map_toArray, List.map_cons, List.map_nil]); first | done | rfl | (simp only [List.length_drop, List.length_take]; rfl)) ?_; (with_reducible refine (slices_Contains_int_int.calls k1 _ _ l1 (rd l0 x10_1) false _ ?side1 ?side2 A6.out).mono ?_); (case side1 => repeat (first | exact (Kd.C_below HR1.out HB.out) | (with_reducible refine Kd.C_alloc ?_ _) | (with_reducible refine Kd.C_drewN ?_ _) | (with_reducible refine Kd.C_drew ?_))); (case side2 => exact HC1.out); rintro e w' ⟨rfl, ⟨nd, rfl⟩⟩; refine ⟨_, rfl, ?_⟩))
       go_roundg k1
       case measure => have := HK1.out; omega
       case rel => exact ⟨(x5_1), (wrap64 (x10_1 + 1)), (by first | rfl | (simp; done) | (simp [*]; done)), H', ⟨by have := HK1.out; omega⟩, ⟨by (with_reducible repeat (first | apply Kd.R_alloc | apply Kd.R_drewN | apply Kd.R_drew)); exact HO_5.out⟩, ⟨by repeat (first | (with_reducible first | exact HB.out | apply below_alloc | apply pw_below_drewN | apply below_drew1) | exact HB.out)⟩⟩
     ·rw [if_neg c5] at H
      exact absurd H (by simp)
    ·rw [if_neg c4] at H
     exact absurd H (by simp)
   ·rw [if_neg c3] at H
    have c3b0 : decide (x10_1 < (l0.length : Int)) = false := decide_eq_false c3
    clear c3
    obtain rfl := Option.some.inj H
    go_wp2
    go_ret
    exact ⟨_, by first | rfl | (simp [errW_none, errW_some] <;> rfl) | (simp [*, errW_none, errW_some] <;> rfl), by (with_reducible repeat (first | apply Kd.R_alloc | apply Kd.R_drewN | apply Kd.R_drew)); exact HO_5.out, by repeat (first | (with_reducible first | exact HB.out | apply below_alloc | apply pw_below_drewN | apply below_drew1) | exact HB.out)⟩
end Go.Proofs.Ytkohcdddgjaijaa.P
namespace Go.Proofs.Ytkohcdddgjaijaa.P
open Go.RowKit Go.Proofs.YtkohcdddgjaijaaW.PrintWords Go.Proofs.YtkohcdddgjaijaaW.PrintLast Go.Proofs.YtkohcdddgjaijaaW.PrintMore
attribute [local go_sem] max2_int min2_int max_two min_two max_three min_three max_four min_four
set_option linter.unusedVariables false
set_option linter.unusedSimpArgs false
def spec_l2Shared.l0 : Nat → List Int → List Int → List Int → Int → Int → Option (List Int)
 | 0, _, _, _, _, _ => none
 | k + 1, x1, x5, x9, x10, x11 => if x11 < x10 then (if 0 ≤ x11 then (if x11 < (x9.length : Int) then ((spec_l1Has.f k x1 (rd x9 x11)).bind fun t344 => (if t344 = true then (if x5.length < 17592186044416 then (spec_l2Shared.l0 k x1 (x5 ++ [rd x9 x11]) x9 x10 (wrap64 (x11 + 1))) else (none)) else (spec_l2Shared.l0 k x1 x5 x9 x10 (wrap64 (x11 + 1))))) else (none)) else (none)) else (some x5)
def spec_l2Shared.f (k : Nat) (l0 : List Int) (l1 : List Int) : Option (List Int) := spec_l2Shared.l0 k l1 (([] : List Int)) l0 (l0.length : Int) 0
theorem spec_l2Shared.mono_l : ∀ k, (∀ y0 y1 y2 y3 y4, LeO (spec_l2Shared.l0 k y0 y1 y2 y3 y4) (spec_l2Shared.l0 (k + 1) y0 y1 y2 y3 y4))
 | 0 => fun _ _ _ _ _ r h => by simp [spec_l2Shared.l0] at h
 | k + 1 => by
  have ih0 := spec_l2Shared.mono_l k
  ·intro y0 y1 y2 y3 y4
   unfold spec_l2Shared.l0
   repeat' first
   | (with_reducible exact ih0 _ _ _ _ _)
   | (with_reducible exact spec_l1Has.mono _ _ _)
   | (with_reducible exact LeO.refl _)
   | (with_reducible exact LeO.none _)
   | (with_reducible refine LeO.ite ?_ ?_)
   | (with_reducible refine LeO.bind ?_ (fun _ => ?_))
   | exact ih0 _ _ _ _ _
   | exact spec_l1Has.mono _ _ _
   | exact LeO.none _
   | refine LeO.ite ?_ ?_
   | refine LeO.bind ?_ (fun _ => ?_)
theorem spec_l2Shared.mono : ∀ a0 a1 k, LeO (spec_l2Shared.f k a0 a1) (spec_l2Shared.f (k + 1) a0 a1) := by
 intro a0 a1 k
 have ih0 := spec_l2Shared.mono_l k
 unfold spec_l2Shared.f
 repeat' first
   | (with_reducible exact ih0 _ _ _ _ _)
   | (with_reducible exact spec_l1Has.mono _ _ _)
   | (with_reducible exact LeO.refl _)
   | (with_reducible exact LeO.none _)
   | (with_reducible refine LeO.ite ?_ ?_)
   | (with_reducible refine LeO.bind ?_ (fun _ => ?_))
   | exact ih0 _ _ _ _ _
   | exact spec_l1Has.mono _ _ _
   | exact LeO.none _
   | refine LeO.ite ?_ ?_
   | refine LeO.bind ?_ (fun _ => ?_)
set_option maxHeartbeats 8000000 in
set_option maxRecDepth 100000 in
theorem spec_l2Shared.calls (k : Nat) (A0 : Option Addr) (c0 : Nat) (l0 : List Int) (A1 : Option Addr) (c1 : Nat) (l1 : List Int) (r : List Int) (w : World) (hr0 : Kd.C (Kd.int .i64) w A0 l0.length l0) (hc0 : l0.length ≤ c0) (hr1 : Kd.C (Kd.int .i64) w A1 l1.length l1) (hc1 : l1.length ≤ c1) (h : spec_l2Shared.f k l0 l1 = some r) :
  Calls Try.prog 33 #[.slice A0 l0.length c0, .slice A1 l1.length c1] w fun e w' => ∃ v0_ : Value, e = .returned (v0_) ∧ Kd.R (Kd.int .i64) 3 w' w.heap.size (fun _ => True) v0_ r ∧ Below w.heap.size w w' := by
 have HR0 := Aside0.mk hr0
 have HC0 := Aside0.mk hc0
 clear hr0 hc0
 have HR1 := Aside0.mk hr1
 have HC1 := Aside0.mk hc1
 clear hr1 hc1
 have HB := Aside0.mk (Below.refl w.heap.size w)
 have H : (spec_l2Shared.l0 k l1 (([] : List Int)) l0 (l0.length : Int) 0) = some r := h
 clear h
 obtain ⟨y340, hy340⟩ : ∃ y_ : List Int, y_ = (([] : List Int)) := ⟨_, rfl⟩
 replace H : (spec_l2Shared.l0 k l1 y340 l0 (l0.length : Int) 0) = some r := by first | (rw [hy340]; with_reducible exact H) | (have H2_ := (Option.bind_some _ _).symm.trans H; rw [hy340]; with_reducible exact H2_) | (have H2_ := (Option.bind_some _ _).symm.trans H; with_reducible exact H2_) | with_reducible exact H | (rw [hy340]; exact H) | exact H
 have Ny340 := Aside0.mk hy340
 clear hy340
 have H' := Aside0.mk H
 clear H
 go_enter Try.func33, Try.ntmps33
 go_wp2_with (first | ((with_reducible refine gate_dst (N := 8) rfl ?_); refine Kd.R_lit (Kd.int .i64) _ 3 ?hg (N := 8) ?hd (xs := ([] : List Int)) (inner := []) (ok := fun _ => True) (okp := fun _ => True) ?hr ?hp (fun _ hk => hk) trivial (Below.refl _ _) (Nat.le_refl _) (by simp) ?_; (case hd => rfl); (case hg => rfl); (case hr => first | (go_simp; done) | (go_simp; rfl)); (case hp => exact (Reps.none _ _)); intro v341 w3 ho4 hb hg_ hnew_; clear hg_ hnew_; (first | rw [← Ny340.out] at ho4 | (simp only [Int.reduceToNat] at ho4; rw [← Ny340.out] at ho4)); have n0_ := Aside0.mk (Kd.R_lower ho4 (below_size (by repeat (first | (with_reducible first | exact HB.out | apply below_alloc | apply pw_below_drewN | apply below_drew1) | exact HB.out)))); have n1_ := Aside0.mk (below_step (by repeat (first | (with_reducible first | exact HB.out | apply below_alloc | apply pw_below_drewN | apply below_drew1) | exact HB.out)) hb); clear HB; have HO342 := n0_; have HB := n1_; clear n0_ n1_; clear hb ho4))
 go_loopg [5, 11] k (fun kq v5 v11 w' => ∃ (x5_1 : List Int) (x11_1 : Int), v11 = .int .i64 x11_1 ∧ Aside0 (spec_l2Shared.l0 kq l1 x5_1 l0 (l0.length : Int) x11_1 = some r) ∧ Aside0 (kq ≤ k) ∧ Aside0 (Kd.R (Kd.int .i64) 3 w' w.heap.size (fun _ => True) v5 x5_1) ∧ Aside0 (Below w.heap.size w w'))
 case atStart => exact ⟨(y340), (0), (by first | rfl | (simp; done) | (simp [*]; done)), H', ⟨Nat.le_refl _⟩, ⟨by (with_reducible repeat (first | apply Kd.R_alloc | apply Kd.R_drewN | apply Kd.R_drew)); exact HO342.out⟩, ⟨by repeat (first | (with_reducible first | exact HB.out | apply below_alloc | apply pw_below_drewN | apply below_drew1) | exact HB.out)⟩⟩
 case round =>
  clear H'
  try clear c1
  try clear p2
  try clear c3
  obtain ⟨x5_1, x11_1, rfl, HA, HK1, HO_5, HB⟩ := hrel
  cases gk with
  | zero => exact absurd HA.out (by simp [spec_l2Shared.l0])
  | succ k1 =>
   have H := HA.out
   clear HA
   simp only [spec_l2Shared.l0] at H
   by_cases c5 : x11_1 < (l0.length : Int)
   ·rw [if_pos c5] at H
    have c5b0 : decide (x11_1 < (l0.length : Int)) = true := decide_eq_true c5
    clear c5
    by_cases c6 : 0 ≤ x11_1
    ·rw [if_pos c6] at H
     have c6b0 : decide (0 ≤ x11_1) = true := decide_eq_true c6
     clear c6
     by_cases c7 : x11_1 < (l0.length : Int)
     ·rw [if_pos c7] at H
      have c7b0 : decide (x11_1 < (l0.length : Int)) = true := decide_eq_true c7
      clear c7
      replace H := Option.bind_eq_some_iff.mp H
      obtain ⟨t344, A80, H⟩ := H
      replace H : (if t344 = true then (if x5_1.length < 17592186044416 then (spec_l2Shared.l0 k1 l1 (x5_1 ++ [rd l0 x11_1]) l0 (l0.length : Int) (wrap64 (x11_1 + 1))) else (none)) else (spec_l2Shared.l0 k1 l1 x5_1 l0 (l0.length : Int) (wrap64 (x11_1 + 1)))) = some r := H
      have A8 := Aside0.mk A80
      clear A80
      by_cases c9 : t344 = true
      ·subst c9
       have H1 : (if x5_1.length < 17592186044416 then (spec_l2Shared.l0 k1 l1 (x5_1 ++ [rd l0 x11_1]) l0 (l0.length : Int) (wrap64 (x11_1 + 1))) else (none)) = some r := by rw [if_pos rfl] at H; exact H
       clear H
       have H := H1
       clear H1
       by_cases c10 : x5_1.length < 17592186044416
       ·rw [if_pos c10] at H
        have LMc10 := Aside0.mk c10
        clear c10
        obtain ⟨y345, hy345⟩ : ∃ y_ : List Int, y_ = (x5_1 ++ [rd l0 x11_1]) := ⟨_, rfl⟩
        replace H : (spec_l2Shared.l0 k1 l1 y345 l0 (l0.length : Int) (wrap64 (x11_1 + 1))) = some r := by first | (rw [hy345]; with_reducible exact H) | (have H2_ := (Option.bind_some _ _).symm.trans H; rw [hy345]; with_reducible exact H2_) | (have H2_ := (Option.bind_some _ _).symm.trans H; with_reducible exact H2_) | with_reducible exact H | (rw [hy345]; exact H) | exact H
        have Ny345 := Aside0.mk hy345
        clear hy345
        have H' := Aside0.mk H
        clear H
        have p343 : 0 ≤ (x11_1 : Int) := of_decide_eq_true (by first | (with_reducible assumption) | assumption)
        have q343 : x11_1 < (l0.length : Int) := of_decide_eq_true (by first | (with_reducible assumption) | assumption)
        obtain ⟨ad343, e343, hx343_0⟩ := Kd.at_int HR0.out x11_1 p343 q343
        cases e343
        replace hx343_0 := (HB.out.cell (World.block_lt_of_cell? w _ hx343_0)).trans hx343_0
        replace p343 := eq_true p343
        replace q343 := eq_true q343
        go_wp2_with (first | ((with_reducible refine gate_callee (f := 43) rfl ?_); refine goesL_ (some 17) rfl rfl Try.func43 (by kernel_rfl) rfl #[.slice A1 l1.length c1, .int .i64 (rd l0 x11_1)] rfl (by (try simp only [List.map_toArray, List.map_cons, List.map_nil]); first | done | rfl | (simp only [List.length_drop, List.length_take]; rfl)) ?_; (with_reducible refine (spec_l1Has.calls k1 _ _ l1 (rd l0 x11_1) true _ ?side1 ?side2 A8.out).mono ?_); (case side1 => repeat (first | exact (Kd.C_below HR1.out HB.out) | (with_reducible refine Kd.C_alloc ?_ _) | (with_reducible refine Kd.C_drewN ?_ _) | (with_reducible refine Kd.C_drew ?_))); (case side2 => exact HC1.out); rintro e w' ⟨rfl, ⟨nd, rfl⟩⟩; refine ⟨_, rfl, ?_⟩) | ((with_reducible refine gate_builtin (b := .append) (xs := #[.tmp 18, .tmp 20]) rfl ?_); at_builtin; refine Kd.R_append (Kd.int .i64) (w0 := w) w.heap.size rfl (.tmp 18) (.tmp 20) 22 3 (.int .i64 0) 8 rfl Try.underlying22 info3 rfl (by decide) (by omega) u5 x5_1 (rd l0 x11_1) [.int .i64 (rd l0 x11_1)] (fun _ => True) (fun _ => False) rfl rfl ?aP (fun _ hk => hk.elim) ?aF ?aO ?aB ?aS ?aL ?_; (case aP => exact rfl); (case aB => exact (by repeat (first | (with_reducible first | exact HB.out | apply below_alloc | apply pw_below_drewN | apply below_drew1) | exact HB.out))); (case aF => exact (fun _ _ => trivial)); (case aO => exact (by (with_reducible repeat (first | apply Kd.R_alloc | apply Kd.R_drewN | apply Kd.R_drew)); exact HO_5.out)); (case aS => exact (below_size (by repeat (first | (with_reducible first | exact HB.out | apply below_alloc | apply pw_below_drewN | apply below_drew1) | exact HB.out)))); (case aL => have := LMc10.out; omega); intro v346 w11 ho hb hg hat; rw [← Ny345.out] at ho; have n0_ := Aside0.mk (hb); have n1_ := Aside0.mk (ho); clear HB; clear HO_5; have HB := n0_; have HO347 := n1_; clear n0_ n1_; clear ho hb hg hat))
        go_roundg k1
        case measure => have := HK1.out; omega
        case rel => exact ⟨(y345), (wrap64 (x11_1 + 1)), (by first | rfl | (simp; done) | (simp [*]; done)), H', ⟨by have := HK1.out; omega⟩, ⟨by (with_reducible repeat (first | apply Kd.R_alloc | apply Kd.R_drewN | apply Kd.R_drew)); exact HO347.out⟩, ⟨by repeat (first | (with_reducible first | exact HB.out | apply below_alloc | apply pw_below_drewN | apply below_drew1) | exact HB.out)⟩⟩
       ·rw [if_neg c10] at H
        exact absurd H (by simp)
      ·replace c9 := Bool.eq_false_iff.mpr c9
       subst c9
       have H1 : (spec_l2Shared.l0 k1 l1 x5_1 l0 (l0.length : Int) (wrap64 (x11_1 + 1))) = some r := by rw [if_neg (show ¬ (false = true) by decide)] at H; exact H
       clear H
       have H := H1
       clear H1
       have H' := Aside0.mk H
       clear H
       have p343 : 0 ≤ (x11_1 : Int) := of_decide_eq_true (by first | (with_reducible assumption) | assumption)
       have q343 : x11_1 < (l0.length : Int) := of_decide_eq_true (by first | (with_reducible assumption) | assumption)
       obtain ⟨ad343, e343, hx343_0⟩ := Kd.at_int HR0.out x11_1 p343 q343
       cases e343
       replace hx343_0 := (HB.out.cell (World.block_lt_of_cell? w _ hx343_0)).trans hx343_0
       replace p343 := eq_true p343
       replace q343 := eq_true q343
       go_wp2_with (first | ((with_reducible refine gate_callee (f := 43) rfl ?_); refine goesL_ (some 17) rfl rfl Try.func43 (by kernel_rfl) rfl #[.slice A1 l1.length c1, .int .i64 (rd l0 x11_1)] rfl (by (try simp only [List.map_toArray, List.map_cons, List.map_nil]); first | done | rfl | (simp only [List.length_drop, List.length_take]; rfl)) ?_; (with_reducible refine (spec_l1Has.calls k1 _ _ l1 (rd l0 x11_1) false _ ?side1 ?side2 A8.out).mono ?_); (case side1 => repeat (first | exact (Kd.C_below HR1.out HB.out) | (with_reducible refine Kd.C_alloc ?_ _) | (with_reducible refine Kd.C_drewN ?_ _) | (with_reducible refine Kd.C_drew ?_))); (case side2 => exact HC1.out); rintro e w' ⟨rfl, ⟨nd, rfl⟩⟩; refine ⟨_, rfl, ?_⟩))
       go_roundg k1
       case measure => have := HK1.out; omega
       case rel => exact ⟨(x5_1), (wrap64 (x11_1 + 1)), (by first | rfl | (simp; done) | (simp [*]; done)), H', ⟨by have := HK1.out; omega⟩, ⟨by (with_reducible repeat (first | apply Kd.R_alloc | apply Kd.R_drewN | apply Kd.R_drew)); exact HO_5.out⟩, ⟨by repeat (first | (with_reducible first | exact HB.out | apply below_alloc | apply pw_below_drewN | apply below_drew1) | exact HB.out)⟩⟩
     ·rw [if_neg c7] at H
      exact absurd H (by simp)
    ·rw [if_neg c6] at H
     exact absurd H (by simp)
   ·rw [if_neg c5] at H
    have c5b0 : decide (x11_1 < (l0.length : Int)) = false := decide_eq_false c5
    clear c5
    obtain rfl := Option.some.inj H
    go_wp2
    go_ret
    exact ⟨_, by first | rfl | (simp [errW_none, errW_some] <;> rfl) | (simp [*, errW_none, errW_some] <;> rfl), by (with_reducible repeat (first | apply Kd.R_alloc | apply Kd.R_drewN | apply Kd.R_drew)); exact HO_5.out, by repeat (first | (with_reducible first | exact HB.out | apply below_alloc | apply pw_below_drewN | apply below_drew1) | exact HB.out)⟩
end Go.Proofs.Ytkohcdddgjaijaa.P
namespace Go.Proofs.Ytkohcdddgjaijaa.PT
open Go.RowKit Go.Proofs.Ytkohcdddgjaijaa.P Go.Proofs.YtkohcdddgjaijaaW.PrintWords Go.Proofs.YtkohcdddgjaijaaW.PrintLast Go.Proofs.Ytkohcdddgjaijaa.EvKit
set_option linter.unusedSimpArgs false
set_option linter.unusedVariables false
def cmn (a b : List Int) : List Int := a.filter (fun v => decide (v ∈ b))
theorem cmn_len (a b : List Int) : (cmn a b).length ≤ a.length := List.length_filter_le _ _
theorem cmn_all (a b : List Int) : (cmn a b).all (fun v => decide (v ∈ b)) = true ∧ (cmn a b).all (fun v => decide (v ∈ a)) = true := by
  unfold cmn
  constructor
  · rw [List.all_eq_true]; intro x hx; exact (List.mem_filter.1 hx).2
  · rw [List.all_eq_true]; intro x hx; exact decide_eq_true (List.mem_filter.1 hx).1
theorem cmn_take {a b : List Int} {i : Nat} (hi : i < a.length) : cmn (a.take (i + 1)) b = cmn (a.take i) b ++ (if a[i] ∈ b then [a[i]] else []) := by
  unfold cmn
  rw [List.take_succ_eq_append_getElem hi, List.filter_append]
  congr 1
  by_cases c : a[i] ∈ b <;> simp [c]
theorem shared_ev (a b : List Int) (ha : a.length ≤ 1048576) (hb : b.length ≤ 1048576) : Ev (fun k => impl_shared.f k a b) (cmn a b) := by
  unfold impl_shared.f
  have key : ∀ d i, i + d = a.length → Ev (fun k => impl_shared.l0 k b (cmn (a.take i) b) a (a.length : Int) (i : Int)) (cmn a b) := by
    intro d
    induction d with
    | zero =>
      intro i hi
      refine Ev.succ ?_
      simp only [impl_shared.l0]
      rw [List.take_of_length_le (by omega)]
      exact Ev.neg (by omega) (Ev.now _)
    | succ d ih =>
      intro i hi
      have hlt : i < a.length := by omega
      have ih2 := ih (i + 1) (by omega)
      rw [cmn_take hlt] at ih2
      have hl := cmn_len (a.take i) b
      rw [List.length_take] at hl
      refine Ev.succ ?_
      simp only [impl_shared.l0, rd_at hlt, w64n (show i ≤ 9223372036854775806 by omega)]
      refine Ev.pos (by omega) (Ev.pos (by omega) (Ev.pos (by omega) (Ev.bind (containsInt_ev b a[i] hb) ?_)))
      by_cases c : a[i] ∈ b
      · rw [if_pos c] at ih2
        exact Ev.pos (decide_eq_true c) (Ev.pos (by omega) ih2)
      · rw [if_neg c, List.append_nil] at ih2
        exact Ev.neg (by simp [c]) ih2
  exact key a.length 0 (by omega)
theorem l2Shared_ev (a b : List Int) (ha : a.length ≤ 1048576) (hb : b.length ≤ 1048576) : Ev (fun k => spec_l2Shared.f k a b) (cmn a b) := by
  unfold spec_l2Shared.f
  have key : ∀ d i, i + d = a.length → Ev (fun k => spec_l2Shared.l0 k b (cmn (a.take i) b) a (a.length : Int) (i : Int)) (cmn a b) := by
    intro d
    induction d with
    | zero =>
      intro i hi
      refine Ev.succ ?_
      simp only [spec_l2Shared.l0]
      rw [List.take_of_length_le (by omega)]
      exact Ev.neg (by omega) (Ev.now _)
    | succ d ih =>
      intro i hi
      have hlt : i < a.length := by omega
      have ih2 := ih (i + 1) (by omega)
      rw [cmn_take hlt] at ih2
      have hl := cmn_len (a.take i) b
      rw [List.length_take] at hl
      refine Ev.succ ?_
      simp only [spec_l2Shared.l0, rd_at hlt, w64n (show i ≤ 9223372036854775806 by omega)]
      refine Ev.pos (by omega) (Ev.pos (by omega) (Ev.pos (by omega) (Ev.bind (l1Has_ev b a[i] hb) ?_)))
      by_cases c : a[i] ∈ b
      · rw [if_pos c] at ih2
        exact Ev.pos (decide_eq_true c) (Ev.pos (by omega) ih2)
      · rw [if_neg c, List.append_nil] at ih2
        exact Ev.neg (by simp [c]) ih2
  exact key a.length 0 (by omega)
def keysV (atv btv : List Int) (brows : List (List Int)) : List (List Int) := sdR (brows.map (projR btv (cmn atv btv)))
def semB (atv btv : List Int) (brows : List (List Int)) (row : List Int) : Bool := decide (projR atv (cmn atv btv) row ∈ keysV atv btv brows)
def keptZ (p : List Int → Bool) (rows : List (List Int)) (ws : List Int) (i : Nat) : List (List Int × Int) := ((rows.zip ws).take i).filter (fun q => p q.1)
theorem keptZ_succ {p : List Int → Bool} {rows : List (List Int)} {ws : List Int} {i : Nat} (h : i < rows.length) (h' : i < ws.length) : keptZ p rows ws (i + 1) = keptZ p rows ws i ++ (if p rows[i] = true then [(rows[i], ws[i])] else []) := by
  unfold keptZ
  have hz : i < (rows.zip ws).length := by rw [List.length_zip]; omega
  rw [List.take_succ_eq_append_getElem hz, List.filter_append, List.getElem_zip]
  congr 1
  by_cases c : p rows[i] = true <;> simp [c]
theorem keptZ_len (p : List Int → Bool) (rows : List (List Int)) (ws : List Int) (i : Nat) : (keptZ p rows ws i).length ≤ rows.length := by
  unfold keptZ
  have h1 := List.length_filter_le (fun q : List Int × Int => p q.1) ((rows.zip ws).take i)
  have h2 : ((rows.zip ws).take i).length ≤ (rows.zip ws).length := by rw [List.length_take]; omega
  rw [List.length_zip] at h2
  omega
theorem keptZ_mem {p : List Int → Bool} {rows : List (List Int)} {ws : List Int} {i : Nat} {q : List Int × Int} (h : q ∈ keptZ p rows ws i) : q.1 ∈ rows := by
  have h1 := List.mem_of_mem_take (List.mem_filter.1 h).1
  exact (List.of_mem_zip h1).1
noncomputable def semV (atv : List Int) (arows : List (List Int)) (aws : List Int) (btv : List Int) (brows : List (List Int)) (bws : List Int) : List Int × List (List Int) × List Int :=
  if tableOKb atv arows aws = true then (if tableOKb btv brows bws = true then (atv, (keptZ (semB atv btv brows) arows aws arows.length).map (·.1), (keptZ (semB atv btv brows) arows aws arows.length).map (·.2)) else ([], [], [])) else ([], [], [])
end Go.Proofs.Ytkohcdddgjaijaa.PT
namespace Go.Proofs.Ytkohcdddgjaijaa.PT
open Go.RowKit Go.Proofs.Ytkohcdddgjaijaa.P Go.Proofs.YtkohcdddgjaijaaW.PrintWords
theorem fld1 (A0 : Option Addr) (n0 c0 : Nat) (A1 : Option Addr) (n1 c1 : Nat) (A2 : Option Addr) (n2 c2 : Nat) (W : World) : (Instr.field 27 (.agg #[.slice A0 n0 c0, .slice A1 n1 c1, .slice A2 n2 c2]) 1).run Try.prog W = .ok (.slice A1 n1 c1) W := by
 unfold Instr.field
 simp only [Sem.run_bind, run_underlying Try.underlying27, Result.andThen_ok]
 rfl
end Go.Proofs.Ytkohcdddgjaijaa.PT
namespace Go.Proofs.Ytkohcdddgjaijaa.PT
open Go.RowKit Go.Proofs.Ytkohcdddgjaijaa.P Go.Proofs.YtkohcdddgjaijaaW.PrintWords Go.Proofs.YtkohcdddgjaijaaW.PrintLast Go.Proofs.Ytkohcdddgjaijaa.EvKit
set_option linter.unusedVariables false
set_option linter.unusedSimpArgs false
set_option maxHeartbeats 1600000 in
set_option maxRecDepth 100000 in
theorem semi_ok (A0 : Option Addr) (c0 : Nat) (atv : List Int) (A1 : Option Addr) (c1 : Nat) (arows : List (List Int)) (A2 : Option Addr) (c2 : Nat) (aws : List Int) (B0 : Option Addr) (d0 : Nat) (btv : List Int) (B1 : Option Addr) (d1 : Nat) (brows : List (List Int)) (B2 : Option Addr) (d2 : Nat) (bws : List Int) (w : World)
    (h0 : Kd.C (Kd.int .i64) w A0 atv.length atv) (l0 : atv.length ≤ c0) (h1 : Kd.C kRb w A1 arows.length arows) (l1 : arows.length ≤ c1) (h2 : Kd.C (Kd.int .i64) w A2 aws.length aws) (l2 : aws.length ≤ c2)
    (k0 : Kd.C (Kd.int .i64) w B0 btv.length btv) (m0 : btv.length ≤ d0) (k1 : Kd.C kRb w B1 brows.length brows) (m1 : brows.length ≤ d1) (k2 : Kd.C (Kd.int .i64) w B2 bws.length bws) (m2 : bws.length ≤ d2)
    (ga : tableOKb atv arows aws = true) (gb : tableOKb btv brows bws = true)
    (b0 : atv.length ≤ 1048576) (b1 : arows.length ≤ 1048576) (b1r : ∀ x, x ∈ arows → x.length ≤ 1048576) (b2 : btv.length ≤ 1048576) (b3 : brows.length ≤ 1048576) (b3r : ∀ x, x ∈ brows → x.length ≤ 1048576) :
    Calls Try.prog 16 #[.agg #[.slice A0 atv.length c0, .slice A1 arows.length c1, .slice A2 aws.length c2], .agg #[.slice B0 btv.length d0, .slice B1 brows.length d1, .slice B2 bws.length d2]] w (ProjPost w (semV atv arows aws btv brows bws)) := by
  have hrl := table_rows ga
  have hrb := table_rows gb
  have hwl : aws.length = arows.length := by
    unfold tableOKb at ga
    simp only [Bool.and_eq_true, decide_eq_true_eq] at ga
    exact ga.1.2
  obtain ⟨hcb, hca⟩ := cmn_all atv btv
  have hcl : (cmn atv btv).length ≤ 1048576 := Nat.le_trans (cmn_len atv btv) b0
  obtain ⟨kt, hkt⟩ := Ev.rounds (implTableOK_ev atv arows aws b0 b1 (fun x hx => by have := b1r x hx; omega))
  obtain ⟨ku, hku⟩ := Ev.rounds (implTableOK_ev btv brows bws b2 b3 (fun x hx => by have := b3r x hx; omega))
  rw [ga] at hkt
  rw [gb] at hku
  obtain ⟨ks, hks⟩ := Ev.rounds (shared_ev atv btv b0 b2)
  obtain ⟨kc, hkc⟩ := Ev.rounds (columns_ev atv arows aws (cmn atv btv) b0 hcl)
  have HTa := Aside0.mk (fun W (hb : Below w.heap.size w W) => impl_TableOK.calls kt A0 c0 atv A1 c1 arows A2 c2 aws _ W (Kd.C_below h0 hb) l0 (Kd.C_below h1 hb) l1 (Kd.C_below h2 hb) l2 hkt)
  have HTb := Aside0.mk (fun W (hb : Below w.heap.size w W) => impl_TableOK.calls ku B0 d0 btv B1 d1 brows B2 d2 bws _ W (Kd.C_below k0 hb) m0 (Kd.C_below k1 hb) m1 (Kd.C_below k2 hb) m2 hku)
  have HSh := Aside0.mk (fun W (hb : Below w.heap.size w W) => impl_shared.calls ks A0 c0 atv B0 d0 btv _ W (Kd.C_below h0 hb) l0 (Kd.C_below k0 hb) m0 hks)
  have HPr := Aside0.mk (fun W A c (hb : Below w.heap.size w W) (hC : Kd.C (Kd.int .i64) W A (cmn atv btv).length (cmn atv btv)) (hc : (cmn atv btv).length ≤ c) => project_walk B0 d0 btv B1 d1 brows B2 d2 bws A c (cmn atv btv) W (Kd.C_below k0 hb) m0 (Kd.C_below k1 hb) m1 (Kd.C_below k2 hb) m2 hC hc hcb hrb b2 b3 hcl)
  have HCo := Aside0.mk (fun W A c (hb : Below w.heap.size w W) (hC : Kd.C (Kd.int .i64) W A (cmn atv btv).length (cmn atv btv)) (hc : (cmn atv btv).length ≤ c) => impl_Table_columns.calls kc A0 c0 atv A1 c1 arows A2 c2 aws A c (cmn atv btv) _ W (Kd.C_below h0 hb) l0 (Kd.C_below h1 hb) l1 (Kd.C_below h2 hb) l2 hC hc hkc)
  have HCl := Aside0.mk (fun W (hb : Below w.heap.size w W) => cloneI_walk A0 c0 atv W (Kd.C_below h0 hb) b0)
  have HB := Aside0.mk (Below.refl w.heap.size w)
  have hke : sdR (brows.map (fun r => (colsI btv (cmn atv btv)).map (rd r))) = keysV atv btv brows := by
    unfold keysV
    have e : brows.map (projR btv (cmn atv btv)) = brows.map (fun r => (colsI btv (cmn atv btv)).map (rd r)) := List.map_congr_left (fun r hr => (pick_proj hcb (hrb r hr)).symm)
    rw [e]
  rw [hke] at HPr
  have hsv : semV atv arows aws btv brows bws = (atv, (keptZ (semB atv btv brows) arows aws arows.length).map (·.1), (keptZ (semB atv btv brows) arows aws arows.length).map (·.2)) := by
    unfold semV; rw [if_pos ga, if_pos gb]
  have HP := Aside0.mk (fun r (hr : r ∈ arows) => pick_proj hca (hrl r hr))
  have HCB := Aside0.mk (cols_bound hca)
  have HSB : Aside0 (∀ r, semB atv btv brows r = decide (projR atv (cmn atv btv) r ∈ keysV atv btv brows)) := ⟨fun r => rfl⟩
  have HKS := Aside0.mk (strict_sdR (brows.map (projR btv (cmn atv btv))))
  have HKL : Aside0 ((keysV atv btv brows).length ≤ 1048576 ∧ ∀ x, x ∈ keysV atv btv brows → x.length ≤ 1048576) := ⟨by
    unfold keysV
    have := sdR_len (brows.map (projR btv (cmn atv btv)))
    rw [List.length_map] at this
    refine ⟨by omega, fun x hx => ?_⟩
    rw [mem_sdR] at hx
    obtain ⟨r, _, rfl⟩ := List.mem_map.1 hx
    unfold projR
    rw [List.length_map]; exact hcl⟩
  have hfld := fld1
  rw [hsv]
  have hcol : (colsI atv (cmn atv btv)).length ≤ 1048576 := by unfold colsI; rw [List.length_map]; exact hcl
  have HRa := Aside0.mk h1
  have HWa := Aside0.mk h2
  have HRL := Aside0.mk hrl
  change Aside0 (Strict (keysV atv btv brows)) at HKS
  have tokA : (1 : Nat) < 2 := by decide
  have tokC : (1 : Nat) < 3 := by decide
  have HWL := Aside0.mk hwl
  clear h0 h1 h2 k0 k1 k2 ga gb hkt hku hks hkc hke hsv hcb hca hrl hrb b1r b3r hwl
  generalize colsI atv (cmn atv btv) = cols at *
  generalize keysV atv btv brows = keys at *
  generalize semB atv btv brows = p at *
  generalize projR atv (cmn atv btv) = pr at *
  generalize cmn atv btv = cm at *
  go_enter Try.func16, Try.ntmps16
  go_wp2_with (first | (go_at_call 24; have tk := tokA; (with_reducible refine (HTa.out _ (below_alloc (below_alloc (below_alloc HB.out _) _) _)).mono ?_); clear HTa tk tokA; rintro e w1 ⟨rfl, hb1⟩; have HK0 := Aside0.mk (three0 hb1); have HK1 := Aside0.mk (three1 hb1); have HK2 := Aside0.mk (three2 hb1); have HB1 : Aside0 (Below w.heap.size w w1) := ⟨below_step (below_alloc (below_alloc (below_alloc HB.out _) _) _) hb1⟩; have hx0 : w1.cell? ⟨w.heap.size + 1, 0, none⟩ = some (.slice B0 btv.length d0) := (blk_cell HK1.out 0).trans rfl; have hx1 : w1.cell? ⟨w.heap.size + 1, 1, none⟩ = some (.slice B1 brows.length d1) := (blk_cell HK1.out 1).trans rfl; have hx2 : w1.cell? ⟨w.heap.size + 1, 2, none⟩ = some (.slice B2 bws.length d2) := (blk_cell HK1.out 2).trans rfl; clear hb1) | (go_at_call 24; (with_reducible refine (HTb.out _ HB1.out).mono ?_); clear HTb hx0 hx1 hx2; rintro e w2 ⟨rfl, hb2⟩; have HB2 : Aside0 (Below w.heap.size w w2) := ⟨below_step HB1.out hb2⟩; replace HK0 := Aside0.mk (blk_below HK0.out hb2); replace HK1 := Aside0.mk (blk_below HK1.out hb2); replace HK2 := Aside0.mk (blk_below HK2.out hb2); have hx0 : w2.cell? ⟨w.heap.size, 0, none⟩ = some (.slice A0 atv.length c0) := (blk_cell HK0.out 0).trans rfl; have hx1 : w2.cell? ⟨w.heap.size + 1, 0, none⟩ = some (.slice B0 btv.length d0) := (blk_cell HK1.out 0).trans rfl; clear hb2) | (go_at_call 36; (with_reducible refine (HSh.out _ HB2.out).mono ?_); clear HSh hx0 hx1; rintro e w3 ⟨v3, rfl, ho3, hb3⟩; obtain ⟨C3, e3, rfl, lC3, hC3⟩ := Kd.R_reads ho3; have HC3 := Aside0.mk hC3; have HL3 := Aside0.mk lC3; have HB3 : Aside0 (Below w.heap.size w w3) := ⟨below_step HB2.out hb3⟩; replace HK0 := Aside0.mk (blk_below HK0.out hb3); replace HK1 := Aside0.mk (blk_below HK1.out hb3); replace HK2 := Aside0.mk (blk_below HK2.out hb3); have hx0 : w3.cell? ⟨w.heap.size + 1, 0, none⟩ = some (.slice B0 btv.length d0) := (blk_cell HK1.out 0).trans rfl; have hx1 : w3.cell? ⟨w.heap.size + 1, 1, none⟩ = some (.slice B1 brows.length d1) := (blk_cell HK1.out 1).trans rfl; have hx2 : w3.cell? ⟨w.heap.size + 1, 2, none⟩ = some (.slice B2 bws.length d2) := (blk_cell HK1.out 2).trans rfl; clear ho3 hb3 hC3 lC3) | (go_at_call 28; (with_reducible refine (HPr.out _ _ _ HB3.out HC3.out HL3.out).mono ?_); clear HPr hx0 hx1 hx2; rintro e w4 ⟨v0, v1, v2, rfl, ht4, hb4⟩; obtain ⟨E0, g0, rfl⟩ := Kd.R_slice ht4.vars; obtain ⟨E1, g1, rfl, lE1, hE1⟩ := Kd.S_reads ht4.rows; obtain ⟨E2, g2, rfl⟩ := Kd.R_slice ht4.weights; have HE1 := Aside0.mk hE1; have HLE := Aside0.mk lE1; have HB4 : Aside0 (Below w.heap.size w w4) := ⟨below_step HB3.out hb4⟩; have HC4 := Aside0.mk (Kd.C_below HC3.out hb4); replace HK0 := Aside0.mk (blk_below HK0.out hb4); replace HK2 := Aside0.mk (blk_below HK2.out hb4); have hx0 : w4.cell? ⟨w.heap.size, 0, none⟩ = some (.slice A0 atv.length c0) := (blk_cell HK0.out 0).trans rfl; have hx1 : w4.cell? ⟨w.heap.size, 1, none⟩ = some (.slice A1 arows.length c1) := (blk_cell HK0.out 1).trans rfl; have hx2 : w4.cell? ⟨w.heap.size, 2, none⟩ = some (.slice A2 aws.length c2) := (blk_cell HK0.out 2).trans rfl; clear ht4 hb4 hE1 lE1 HC3) | (go_at_call 27; (with_reducible refine (HCo.out _ _ _ HB4.out HC4.out HL3.out).mono ?_); clear HCo hx0 hx1 hx2; rintro e w5 ⟨v5, rfl, ho5, hb5⟩; obtain ⟨C5, e5, rfl, lC5, hC5⟩ := Kd.R_reads ho5; have HC5 := Aside0.mk hC5; have HB5 : Aside0 (Below w.heap.size w w5) := ⟨below_step HB4.out hb5⟩; replace HE1 := Aside0.mk (Kd.C_below HE1.out hb5); replace HK0 := Aside0.mk (blk_below HK0.out hb5); replace HK2 := Aside0.mk (blk_below HK2.out hb5); have hx0 : w5.cell? ⟨w.heap.size, 0, none⟩ = some (.slice A0 atv.length c0) := (blk_cell HK0.out 0).trans rfl; clear ho5 hb5 hC5 lC5 HC4) | (go_at_call 37; have tk := tokC; (with_reducible refine (HCl.out _ HB5.out).mono ?_); clear HCl hx0 tk tokC; rintro e w6 ⟨v6, rfl, ho6, hb6⟩; obtain ⟨D6, f6, rfl⟩ := Kd.R_slice ho6; have HO6 := Aside0.mk (Kd.R_lower ho6 HB5.out.size); have HB6 : Aside0 (Below w.heap.size w w6) := ⟨below_step HB5.out hb6⟩; replace HC5 := Aside0.mk (Kd.C_below HC5.out hb6); replace HE1 := Aside0.mk (Kd.C_below HE1.out hb6); replace HK0 := Aside0.mk (blk_below HK0.out hb6); replace HK2 := Aside0.mk (blk_below HK2.out hb6); have hx1 : w6.cell? ⟨w.heap.size, 1, none⟩ = some (.slice A1 arows.length c1) := (blk_cell HK0.out 1).trans rfl; have hlt6 : w.heap.size < w6.heap.size := blk_lt HK0.out; clear ho6 hb6))
  have HB7 : Aside0 (Below w6.heap.size w6 (w6.alloc (.cells #[.slice D6 atv.length f6, .slice none 0 0, .slice none 0 0] 27))) := ⟨below_alloc (Below.refl _ _) _⟩
  have HK7 : Aside0 ((w6.alloc (.cells #[.slice D6 atv.length f6, .slice none 0 0, .slice none 0 0] 27)).heap[w6.heap.size]? = some (.cells #[.slice D6 atv.length f6, .slice none 0 0, .slice none 0 0] 27 (0, 0))) := ⟨blk_new w6 _⟩
  clear hx1
  generalize w6.alloc (.cells #[.slice D6 atv.length f6, .slice none 0 0, .slice none 0 0] 27) = w7 at *
  go_loopg [41] arows.length (fun G s41 wr => ∃ (i : Nat) (u1 u2 : Value), s41 = .int .i64 (i : Int) ∧ i ≤ arows.length ∧ arows.length - i ≤ G ∧ Aside0 (Below w6.heap.size w6 wr) ∧ Aside0 (wr.heap[w6.heap.size]? = some (.cells #[.slice D6 atv.length f6, u1, u2] 27 (0, 0))) ∧ Aside0 (Kd.S kRb 22 wr w6.heap.size (fun k => some k ≠ u2.ownBlock) u1 ((keptZ p arows aws i).map (·.1))) ∧ Aside0 (Kd.R (Kd.int .i64) 3 wr w6.heap.size (fun _ => True) u2 ((keptZ p arows aws i).map (·.2))))
  case atStart => exact ⟨0, .slice none 0 0, .slice none 0 0, rfl, Nat.zero_le _, by omega, HB7, HK7, ⟨Kd.S_nil _ _ _ _ _⟩, ⟨Kd.R_nil _ _ _ _ _⟩⟩
  case round =>
    obtain ⟨i, u1, u2, rfl, hi, hg, HBr, HK, HS, HW⟩ := hrel
    by_cases hlt : i < arows.length
    · obtain ⟨ad, A5, c5, e, hx5, hl5, hC5⟩ := row_at HRa.out i hlt
      cases e
      have hwt : i < aws.length := by rw [HWL.out]; exact hlt
      obtain ⟨ad2, e, hx6⟩ := Kd.at_int HWa.out (i : Int) (by omega) (by omega)
      cases e
      have HE : Aside0 (keptZ p arows aws (i + 1) = keptZ p arows aws i ++ (if p arows[i] = true then [(arows[i], aws[i])] else [])) := ⟨keptZ_succ hlt hwt⟩
      have HLz : Aside0 ((keptZ p arows aws i).length ≤ 1048576) := ⟨Nat.le_trans (keptZ_len _ _ _ _) b1⟩
      have HBw : Aside0 (Below w.heap.size w wr) := ⟨below_step HB6.out HBr.out⟩
      have HPk : Aside0 (Calls Try.prog 39 #[.slice A5 (arows[i]).length c5, .slice C5 cols.length e5] wr fun e w' => ∃ v, e = .returned v ∧ Kd.R (Kd.int .i64) 3 w' wr.heap.size (fun _ => True) v (cols.map (rd arows[i])) ∧ Below wr.heap.size wr w') := ⟨pick_walk A5 c5 arows[i] C5 e5 cols wr (Kd.C_below hC5 HBw.out) (Kd.C_below HC5.out HBr.out) (fun c hc => by rw [← HRL.out _ (List.getElem_mem hlt)]; exact HCB.out c hc) hcol⟩
      rw [HP.out _ (List.getElem_mem hlt)] at HPk
      have HBs : Aside0 (∀ W2 Au cu, Below wr.heap.size wr W2 → Kd.C (Kd.int .i64) W2 Au (pr arows[i]).length (pr arows[i]) → (pr arows[i]).length ≤ cu → Calls Try.prog 38 #[.slice E1 keys.length g1, .slice Au (pr arows[i]).length cu, .func (.func 40) #[] #[]] W2 fun e w' => (∃ q : Int, e = .returned (.tuple #[.int .i64 q, .bool (p arows[i])])) ∧ Drawn0 W2 w') := ⟨fun W2 Au cu hb hC hc => by
        rw [HSB.out]
        exact bsR_walk E1 g1 keys Au cu (pr arows[i]) W2 (Kd.C_below HE1.out (below_step HBr.out hb)) HLE.out hC hc HKS.out HKL.out.1 HKL.out.2⟩
      have hrl5 : (arows[i]).length ≤ 1048576 := by rw [← HRL.out _ (List.getElem_mem hlt)]; exact b0
      replace hx5 : wr.cell? (ad.add i) = some (.slice A5 (arows[i]).length c5) := (HBw.out.cell (World.block_lt_of_cell? w _ hx5)).trans hx5
      have HX6 : Aside0 (∀ W, Below w.heap.size w W → W.cell? (ad2.add i) = some (.int .i64 aws[i])) := ⟨fun W hb => (hb.cell (World.block_lt_of_cell? w _ hx6)).trans (by rw [hx6]; rw [rd_at hwt])⟩
      clear hx6
      have HC5r : Aside0 (Kd.C (Kd.int .i64) wr A5 (arows[i]).length arows[i]) := ⟨Kd.C_below hC5 HBw.out⟩
      clear hC5 hl5
      by_cases hp : p arows[i] = true
      · have HEa : Aside0 ((keptZ p arows aws (i + 1)).map (·.1) = (keptZ p arows aws i).map (·.1) ++ [arows[i]]) := ⟨by rw [HE.out, if_pos hp, List.map_append]; rfl⟩
        have HEb : Aside0 ((keptZ p arows aws (i + 1)).map (·.2) = (keptZ p arows aws i).map (·.2) ++ [aws[i]]) := ⟨by rw [HE.out, if_pos hp, List.map_append]; rfl⟩
        have HLa : Aside0 (((keptZ p arows aws i).map (·.1)).length ≤ 1048576 ∧ ((keptZ p arows aws i).map (·.2)).length ≤ 1048576) := ⟨by rw [List.length_map, List.length_map]; exact ⟨HLz.out, HLz.out⟩⟩
        have hb6 : (0 : Int) ≤ (i : Int) ∧ (i : Int) < (aws.length : Int) := ⟨by omega, by omega⟩
        rw [hp] at HBs
        clear HE HLz hp
        generalize (keptZ p arows aws i).map (·.1) = rws at *
        generalize (keptZ p arows aws i).map (·.2) = wts at *
        generalize arows[i] = row at *
        generalize aws[i] = wt at *
        clear hwt
        have hx7 := hx5
        go_wp2_with (first | (go_at_call 39; (with_reducible refine HPk.out.mono ?_); clear HPk; rintro e w8 ⟨v8, rfl, ho8, hb8⟩; obtain ⟨A8, c8, rfl, lC8, hC8⟩ := Kd.R_reads ho8; have HC8 := Aside0.mk hC8; have HL8 := Aside0.mk lC8; have HB8 := Aside0.mk hb8; clear ho8 hC8 lC8 hb8) | (go_at_call 38; (with_reducible refine (HBs.out _ _ _ HB8.out HC8.out HL8.out).mono ?_); clear HBs; rintro e w9 ⟨⟨q9, rfl⟩, ⟨n9, rfl⟩⟩))
        have HBn : Aside0 (Below wr.heap.size wr (w8.drewN n9)) := ⟨pw_below_drewN HB8.out n9⟩
        clear HC8 HB8 hx5 hx7
        generalize w8.drewN n9 = w9 at *
        have HBw9 := Aside0.mk (below_step HBw.out HBn.out)
        have HB9 : Aside0 (Below w6.heap.size w6 w9.drew) := ⟨below_drew (below_step HBr.out HBn.out)⟩
        have HC9 : Aside0 (Kd.C (Kd.int .i64) w9.drew A5 row.length row) := ⟨Kd.C_drew (Kd.C_below HC5r.out HBn.out)⟩
        have HS9 := Aside0.mk (Kd.S_drew (Kd.S_below HS.out HBn.out))
        have HW9 := Aside0.mk (Kd.R_drew (Kd.R_below HW.out HBn.out))
        have HK9 := Aside0.mk (blk_drew (blk_below HK.out HBn.out))
        clear HK HS HW HC5r HBr HBw HBn
        refine start_ (n := 8) (S := fun w' => w'.cell? ⟨w6.heap.size, 1, none⟩ = some u1) (ds := [7]) #[false, false, false, false, false, false, false, false] (by kernel_rfl) rfl rfl ((blk_cell HK9.out 1).trans rfl) (fun hHeld => ?_)
        generalize w9.drew = w10 at *
        refine pure_ (i := 0) (N := some 55) (v := ?_) (a' := ?_) #[true, false, false, false, false, false, false, false] rfl rfl (by kernel_rfl) (fun _ _ _ h => h) (Or.inl ⟨by rfl, ?_⟩) ?_ ?_
        rotate_left
        · intro w'
          go_simp
          with_reducible rfl
        rotate_left
        · simp only [Act.put, List.setIfInBounds_toArray, List.set_cons_zero, List.set_cons_succ, i64_w, i32_w]
          rfl
        refine pure_ (i := 2) (N := some 57) (v := ?_) (a' := ?_) #[true, false, true, false, false, false, false, false] rfl rfl (by kernel_rfl) (fun _ _ _ h => h) (Or.inl ⟨by rfl, ?_⟩) ?_ ?_
        rotate_left
        · intro w'
          go_simp
          with_reducible rfl
        rotate_left
        · simp only [Act.put, List.setIfInBounds_toArray, List.set_cons_zero, List.set_cons_succ, i64_w, i32_w]
          rfl
        refine take_ (i := 1) (N := some 56) (v := ?_) (a' := ?_) #[true, true, true, false, false, false, false, false] rfl rfl (by kernel_rfl) (fun _ _ _ h => h) (Or.inl ⟨by rfl, ?_⟩) hHeld ?_ ?_
        rotate_left
        · intro w' s0
          go_simp
          with_reducible rfl
        rotate_left
        · simp only [Act.put, List.setIfInBounds_toArray, List.set_cons_zero, List.set_cons_succ, i64_w, i32_w]
          rfl
        refine one_ (i := 3) (N := some 58) #[true, true, true, true, false, false, false, false] rfl rfl (by kernel_rfl) (by decide) (fun K hK => ?_)
        refine goes_ Try.func37 (by kernel_rfl) rfl #[.slice A5 row.length c5] (by rfl) rfl rfl (by (try simp only [List.map_toArray, List.map_cons, List.map_nil]); first | done | rfl) ?_
        refine (cloneI_walk A5 c5 row w10 HC9.out hrl5).mono ?_
        rintro e w11 ⟨v11, rfl, ho11, hb11⟩
        obtain ⟨A11, c11, rfl⟩ := Kd.R_slice ho11
        have HO11 := Aside0.mk (Kd.R_lower (Kd.R_mono (Kd.R_bound ho11) (ok' := fun k => w10.heap.size ≤ k) (fun k hk => hk.2.1)) HB9.out.size)
        have HU1 := Aside0.mk (Kd.S_lt HS9.out)
        have HU2 := Aside0.mk (Kd.R_lt HW9.out)
        have HS11 := Aside0.mk (Kd.S_below (Kd.S_mono (Kd.S_bound HS9.out) (ok' := fun k => some k ≠ u2.ownBlock ∧ ¬ w10.heap.size ≤ k) (fun k hk => ⟨hk.1, by have := hk.2.2.1; omega⟩)) hb11)
        have HW11 := Aside0.mk (Kd.R_below HW9.out hb11)
        have HK11 := Aside0.mk (blk_below HK9.out hb11)
        have HB11 := Aside0.mk (below_le_ (below_step HB9.out hb11) (Nat.le_refl _))
        have HZ11 := Aside0.mk hb11.size
        clear ho11 hb11 HS9 HW9 HK9 HB9
        refine ⟨_, rfl, ?_⟩
        refine hK.out _ _ ((blk_cell HK11.out 1).trans rfl) (fun hHeld => ?_)
        clear hK K
        refine norm_ (a' := ?_) ?_ ?_
        rotate_left
        · show Act.put _ (some 58) _ = _
          simp only [Act.put, List.setIfInBounds_toArray, List.set_cons_zero, List.set_cons_succ, i64_w, i32_w]
          rfl
        refine one_ (i := 4) (N := some 59) #[true, true, true, true, true, false, false, false] rfl rfl (by kernel_rfl) (by decide) (fun K hK => ?_)
        refine value_ (w1 := ?_) (v := ?_) (by rfl) rfl ?_ ?_
        rotate_left 2
        · go_simp
          constructor
          · rfl
          · rfl
        refine hK.out _ _ ((blk_cell (blk_alloc HK11.out _) 1).trans rfl) (fun hHeld => ?_)
        clear hK K
        refine norm_ (a' := ?_) ?_ ?_
        rotate_left
        · show Act.put _ (some 59) _ = _
          simp only [Act.put, List.setIfInBounds_toArray, List.set_cons_zero, List.set_cons_succ, i64_w, i32_w]
          rfl
        refine one_ (i := 5) (N := some 60) #[true, true, true, true, true, true, false, false] rfl rfl (by kernel_rfl) (by decide) (fun K hK => ?_)
        refine Kd.S_append_step kRb (w0 := w6) w6.heap.size (by rfl) (.tmp 56) (.tmp 59) 23 22 (.slice none 0 0) 24 rfl Try.underlying23 info22 rfl (by decide) (by omega) u1 rws row [.slice A11 row.length c11] (fun k => some k ≠ u2.ownBlock) (fun k => w10.heap.size ≤ k) rfl rfl ⟨_, rfl, HO11.out⟩ (fun k hk => ⟨fun e => by have := HU2.out k e.symm; omega, fun e => by have := HU1.out k e.symm; omega⟩) (fun k hk e => by have := HU2.out k e.symm; have := HZ11.out; omega) HS11.out HB11.out HB11.out.size (by have := HLa.out.1; omega) ?_
        intro v12 w12 hs12 hb12 hg12 hat12
        have HW12 := Aside0.mk (Kd.R_over' HW11.out (Kd.S_typed HS11.out) (by decide) hg12)
        have HK12 := Aside0.mk (blk_grown HK11.out hg12 (Kd.S_ne HS11.out HK11.out (by decide)))
        have HB12 := Aside0.mk hb12
        have hla := Aside0.mk (Eq.refl (rws ++ [row]))
        generalize hy : rws ++ [row] = rws' at hs12 HEa
        obtain ⟨A12, c12, rfl⟩ := Kd.S_slice hs12
        have HS12 := Aside0.mk hs12
        have HY := Aside0.mk hy
        clear hs12 hb12 hg12 hat12 HW11 HK11 HB11 HS11 HO11 hy
        refine hK.out _ _ ((blk_cell HK12.out 1).trans rfl) (fun hHeld => ?_)
        clear hK K
        refine norm_ (a' := ?_) ?_ ?_
        rotate_left
        · show Act.put _ (some 60) _ = _
          simp only [Act.put, List.setIfInBounds_toArray, List.set_cons_zero, List.set_cons_succ, i64_w, i32_w]
          rfl
        refine pure_ (i := 6) (N := some 61) (v := ?_) (a' := ?_) #[true, true, true, true, true, true, true, false] rfl rfl (by kernel_rfl) (fun _ _ _ h => h) (Or.inl ⟨by rfl, ?_⟩) ?_ ?_
        rotate_left
        · intro w'
          go_simp
          with_reducible rfl
        rotate_left
        · simp only [Act.put, List.setIfInBounds_toArray, List.set_cons_zero, List.set_cons_succ, i64_w, i32_w]
          rfl
        refine last_ (i := 7) (N := none) #[true, true, true, true, true, true, true, true] rfl rfl (by kernel_rfl) (by decide) (fun K hK => ?_)
        have hs12 : w12.cell? ⟨w6.heap.size, 1, none⟩ = some u1 := (blk_cell HK12.out 1).trans rfl
        have hf12 := blk_frozen HK12.out 1
        refine skip_ (w1 := ?_) (by rfl) rfl ?_ ?_
        rotate_left
        · go_simp
          rfl
        refine hK.out _ _ ?_
        clear hK K
        refine done_ (by kernel_rfl) ?_
        clear hs12 hf12
        have HK13 : Aside0 ((w12.setCell ⟨w6.heap.size, 1, none⟩ (.slice A12 rws'.length c12)).heap[w6.heap.size]? = some (.cells #[.slice D6 atv.length f6, .slice A12 rws'.length c12, u2] 27 (0, 0))) := ⟨blk_put HK12.out 1 _ rfl⟩
        have HS13 := Aside0.mk (Kd.S_mono (Kd.S_far (p := ⟨w6.heap.size, 1, none⟩) (Kd.S_types HS12.out HK12.out (by decide)) (fun k hk => hk.2) (.slice A12 rws'.length c12)) (fun k hk => hk.1))
        have HW13 := Aside0.mk (Kd.R_mono (Kd.R_far (p := ⟨w6.heap.size, 1, none⟩) (Kd.R_types HW12.out HK12.out (by decide)) (fun k hk => hk.2) (.slice A12 rws'.length c12)) (fun k hk => hk.1))
        have HB13 : Aside0 (Below w6.heap.size w6 (w12.setCell ⟨w6.heap.size, 1, none⟩ (.slice A12 rws'.length c12))) := ⟨below_set HB12.out (Nat.le_refl _)⟩
        clear HS12 HW12 HK12 HB12
        generalize w12.setCell ⟨w6.heap.size, 1, none⟩ (.slice A12 rws'.length c12) = w13 at *
        go_wp2
        have HB14 : Aside0 (Below w6.heap.size w6 w13.drew) := ⟨below_drew HB13.out⟩
        have HS14 := Aside0.mk (Kd.S_drew HS13.out)
        have HW14 := Aside0.mk (Kd.R_drew HW13.out)
        have HK14 := Aside0.mk (blk_drew HK13.out)
        have hx14 : w13.drew.cell? (ad2.add i) = some (.int .i64 wt) := HX6.out _ (below_step HB6.out HB14.out)
        have hk14 : w13.drew.cell? ⟨w.heap.size, 2, none⟩ = some (.slice (some ad2) aws.length c2) := (blk_cell (blk_below HK0.out HB14.out) 2).trans rfl
        clear HB13 HS13 HW13 HK13
        refine start_ (n := 11) (S := fun w' => w'.cell? ⟨w6.heap.size, 2, none⟩ = some u2 ∧ w'.cell? ⟨w.heap.size, 2, none⟩ = some (.slice (some ad2) aws.length c2) ∧ w'.cell? (ad2.add i) = some (.int .i64 wt)) (ds := [10]) #[false, false, false, false, false, false, false, false, false, false, false] (by kernel_rfl) rfl rfl ⟨(blk_cell HK14.out 2).trans rfl, hk14, hx14⟩ (fun hHeld => ?_)
        generalize w13.drew = w14 at *
        refine pure_ (i := 0) (N := some 62) (v := ?_) (a' := ?_) #[true, false, false, false, false, false, false, false, false, false, false] rfl rfl (by kernel_rfl) (fun _ _ _ h => h) (Or.inl ⟨by rfl, ?_⟩) ?_ ?_
        rotate_left
        · intro w'
          go_simp
          with_reducible rfl
        rotate_left
        · simp only [Act.put, List.setIfInBounds_toArray, List.set_cons_zero, List.set_cons_succ, i64_w, i32_w]
          rfl
        refine pure_ (i := 2) (N := some 64) (v := ?_) (a' := ?_) #[true, false, true, false, false, false, false, false, false, false, false] rfl rfl (by kernel_rfl) (fun _ _ _ h => h) (Or.inl ⟨by rfl, ?_⟩) ?_ ?_
        rotate_left
        · intro w'
          go_simp
          with_reducible rfl
        rotate_left
        · simp only [Act.put, List.setIfInBounds_toArray, List.set_cons_zero, List.set_cons_succ, i64_w, i32_w]
          rfl
        refine pure_ (i := 4) (N := some 66) (v := ?_) (a' := ?_) #[true, false, true, false, true, false, false, false, false, false, false] rfl rfl (by kernel_rfl) (fun _ _ _ h => h) (Or.inl ⟨by rfl, ?_⟩) ?_ ?_
        rotate_left
        · intro w'
          go_simp
          with_reducible rfl
        rotate_left
        · simp only [Act.put, List.setIfInBounds_toArray, List.set_cons_zero, List.set_cons_succ, i64_w, i32_w]
          rfl
        refine take_ (i := 1) (N := some 63) (v := ?_) (a' := ?_) #[true, true, true, false, true, false, false, false, false, false, false] rfl rfl (by kernel_rfl) (fun _ _ _ h => h) (Or.inl ⟨by rfl, ?_⟩) hHeld ?_ ?_
        rotate_left
        · rintro w' ⟨s0, s1, s2⟩
          go_simp
          with_reducible rfl
        rotate_left
        · simp only [Act.put, List.setIfInBounds_toArray, List.set_cons_zero, List.set_cons_succ, i64_w, i32_w]
          rfl
        refine take_ (i := 3) (N := some 65) (v := ?_) (a' := ?_) #[true, true, true, true, true, false, false, false, false, false, false] rfl rfl (by kernel_rfl) (fun _ _ _ h => h) (Or.inl ⟨by rfl, ?_⟩) hHeld ?_ ?_
        rotate_left
        · rintro w' ⟨s0, s1, s2⟩
          go_simp
          with_reducible rfl
        rotate_left
        · simp only [Act.put, List.setIfInBounds_toArray, List.set_cons_zero, List.set_cons_succ, i64_w, i32_w]
          rfl
        refine take_ (i := 5) (N := some 67) (v := ?_) (a' := ?_) #[true, true, true, true, true, true, false, false, false, false, false] rfl rfl (by kernel_rfl) (fun _ _ _ h => h) (Or.inl ⟨by rfl, ?_⟩) hHeld ?_ ?_
        rotate_left
        · rintro w' ⟨s0, s1, s2⟩
          go_simp
          with_reducible rfl
        rotate_left
        · simp only [Act.put, List.setIfInBounds_toArray, List.set_cons_zero, List.set_cons_succ, i64_w, i32_w]
          rfl
        refine take_ (i := 6) (N := some 68) (v := ?_) (a' := ?_) #[true, true, true, true, true, true, true, false, false, false, false] rfl rfl (by kernel_rfl) (fun _ _ _ h => h) (Or.inl ⟨by rfl, ?_⟩) hHeld ?_ ?_
        rotate_left
        · rintro w' ⟨s0, s1, s2⟩
          go_simp
          with_reducible rfl
        rotate_left
        · simp only [Act.put, List.setIfInBounds_toArray, List.set_cons_zero, List.set_cons_succ, i64_w, i32_w]
          rfl
        refine one_ (i := 7) (N := some 69) #[true, true, true, true, true, true, true, true, false, false, false] rfl rfl (by kernel_rfl) (by decide) (fun K hK => ?_)
        refine value_ (w1 := ?_) (v := ?_) (by rfl) rfl ?_ ?_
        rotate_left 2
        · go_simp
          constructor
          · rfl
          · rfl
        refine hK.out _ _ ⟨(blk_cell (blk_alloc HK14.out _) 2).trans rfl, (blk_cell (blk_alloc (blk_below HK0.out HB14.out) _) 2).trans rfl, HX6.out _ (below_alloc (below_step HB6.out HB14.out) _)⟩ (fun hHeld => ?_)
        clear hK K
        refine norm_ (a' := ?_) ?_ ?_
        rotate_left
        · show Act.put _ (some 69) _ = _
          simp only [Act.put, List.setIfInBounds_toArray, List.set_cons_zero, List.set_cons_succ, i64_w, i32_w]
          rfl
        refine one_ (i := 8) (N := some 70) #[true, true, true, true, true, true, true, true, true, false, false] rfl rfl (by kernel_rfl) (by decide) (fun K hK => ?_)
        refine Kd.R_append_step (Kd.int .i64) (w0 := w6) w6.heap.size (by rfl) (.tmp 63) (.tmp 69) 22 3 (.int .i64 0) 8 rfl Try.underlying22 info3 rfl (by decide) (by omega) u2 wts wt [.int .i64 wt] (fun _ => True) (fun _ => False) rfl rfl rfl (fun _ hk => hk.elim) (fun _ _ => trivial) HW14.out HB14.out HB14.out.size (by have := HLa.out.2; omega) ?_
        intro v15 w15 hr15 hb15 hg15 hat15
        have HS15 := Aside0.mk (Kd.S_after (ok := fun _ => True) (Kd.S_mono HS14.out (fun k hk => ⟨trivial, hk⟩)) hg15 hat15)
        have HK15 := Aside0.mk (blk_grown HK14.out hg15 (Kd.R_ne HW14.out HK14.out (by decide)))
        have HB15 := Aside0.mk hb15
        have HX15 := HX6.out _ (below_step HB6.out hb15)
        generalize hy : wts ++ [wt] = wts' at hr15 HEb
        obtain ⟨A15, c15, rfl⟩ := Kd.R_slice hr15
        have HR15 := Aside0.mk hr15
        have HY2 := Aside0.mk hy
        clear hr15 hb15 hg15 hat15 HW14 HK14 HB14 HS14 hx14 hk14 hy
        refine hK.out _ _ ⟨(blk_cell HK15.out 2).trans rfl, (blk_cell (blk_below HK0.out HB15.out) 2).trans rfl, HX15⟩ (fun hHeld => ?_)
        clear hK K HX15
        refine norm_ (a' := ?_) ?_ ?_
        rotate_left
        · show Act.put _ (some 70) _ = _
          simp only [Act.put, List.setIfInBounds_toArray, List.set_cons_zero, List.set_cons_succ, i64_w, i32_w]
          rfl
        refine pure_ (i := 9) (N := some 71) (v := ?_) (a' := ?_) #[true, true, true, true, true, true, true, true, true, true, false] rfl rfl (by kernel_rfl) (fun _ _ _ h => h) (Or.inl ⟨by rfl, ?_⟩) ?_ ?_
        rotate_left
        · intro w'
          go_simp
          with_reducible rfl
        rotate_left
        · simp only [Act.put, List.setIfInBounds_toArray, List.set_cons_zero, List.set_cons_succ, i64_w, i32_w]
          rfl
        refine last_ (i := 10) (N := none) #[true, true, true, true, true, true, true, true, true, true, true] rfl rfl (by kernel_rfl) (by decide) (fun K hK => ?_)
        have hs15 : w15.cell? ⟨w6.heap.size, 2, none⟩ = some u2 := (blk_cell HK15.out 2).trans rfl
        have hf15 := blk_frozen HK15.out 2
        refine skip_ (w1 := ?_) (by rfl) rfl ?_ ?_
        rotate_left
        · go_simp
          rfl
        refine hK.out _ _ ?_
        clear hK K
        refine done_ (by kernel_rfl) ?_
        clear hs15 hf15
        have HK16 : Aside0 ((w15.setCell ⟨w6.heap.size, 2, none⟩ (.slice A15 wts'.length c15)).heap[w6.heap.size]? = some (.cells #[.slice D6 atv.length f6, .slice A12 rws'.length c12, .slice A15 wts'.length c15] 27 (0, 0))) := ⟨blk_put HK15.out 2 _ rfl⟩
        have HS16 := Aside0.mk (Kd.S_mono (Kd.S_far (p := ⟨w6.heap.size, 2, none⟩) (Kd.S_types HS15.out HK15.out (by decide)) (fun k hk => hk.2) (.slice A15 wts'.length c15)) (ok' := fun k => some k ≠ (.slice A15 wts'.length c15 : Value).ownBlock) (fun k hk => hk.1.2))
        have HW16 := Aside0.mk (Kd.R_mono (Kd.R_far (p := ⟨w6.heap.size, 2, none⟩) (Kd.R_types HR15.out HK15.out (by decide)) (fun k hk => hk.2) (.slice A15 wts'.length c15)) (ok' := fun _ => True) (fun k hk => hk.1))
        have HB16 : Aside0 (Below w6.heap.size w6 (w15.setCell ⟨w6.heap.size, 2, none⟩ (.slice A15 wts'.length c15))) := ⟨below_set HB15.out (Nat.le_refl _)⟩
        clear HS15 HR15 HK15 HB15
        generalize w15.setCell ⟨w6.heap.size, 2, none⟩ (.slice A15 wts'.length c15) = w16 at *
        go_wp2
        go_roundg (arows.length - (i + 1))
        case measure => omega
        case rel => exact ⟨i + 1, .slice A12 rws'.length c12, .slice A15 wts'.length c15, by go_num, by omega, Nat.le_refl _, HB16, HK16, ⟨by rw [HEa.out]; exact HS16.out⟩, ⟨by rw [HEb.out]; exact HW16.out⟩⟩
      · have HEa : Aside0 (keptZ p arows aws (i + 1) = keptZ p arows aws i) := ⟨by rw [HE.out, if_neg hp, List.append_nil]⟩
        have hp2 : p arows[i] = false := by simpa using hp
        rw [hp2] at HBs
        clear HE HLz hp hp2 HX6
        generalize arows[i] = row at *
        clear hwt
        go_wp2_with (first | (go_at_call 39; (with_reducible refine HPk.out.mono ?_); clear HPk; rintro e w8 ⟨v8, rfl, ho8, hb8⟩; obtain ⟨A8, c8, rfl, lC8, hC8⟩ := Kd.R_reads ho8; have HC8 := Aside0.mk hC8; have HL8 := Aside0.mk lC8; have HB8 := Aside0.mk hb8; clear ho8 hC8 lC8 hb8) | (go_at_call 38; (with_reducible refine (HBs.out _ _ _ HB8.out HC8.out HL8.out).mono ?_); clear HBs; rintro e w9 ⟨⟨q9, rfl⟩, ⟨n9, rfl⟩⟩))
        have HBn : Aside0 (Below wr.heap.size wr (w8.drewN n9)) := ⟨pw_below_drewN HB8.out n9⟩
        go_roundg (arows.length - (i + 1))
        case measure => omega
        case rel => exact ⟨i + 1, u1, u2, by go_num, by omega, Nat.le_refl _, ⟨below_step HBr.out HBn.out⟩, ⟨blk_below HK.out HBn.out⟩, ⟨by rw [HEa.out]; exact Kd.S_below HS.out HBn.out⟩, ⟨by rw [HEa.out]; exact Kd.R_below HW.out HBn.out⟩⟩
    · have hie : i = arows.length := by omega
      subst hie
      have HLa : Aside0 (((keptZ p arows aws arows.length).map (·.1)).length ≤ 1048576 ∧ ((keptZ p arows aws arows.length).map (·.2)).length ≤ 1048576) := ⟨by
        have := keptZ_len p arows aws arows.length
        rw [List.length_map, List.length_map]; omega⟩
      generalize hr1 : (keptZ p arows aws arows.length).map (·.1) = rws at HS HLa
      generalize hr2 : (keptZ p arows aws arows.length).map (·.2) = wts at HW HLa
      have HR1 := Aside0.mk hr1
      have HR2 := Aside0.mk hr2
      clear hr1 hr2
      obtain ⟨F1, e1, rfl⟩ := Kd.S_slice HS.out
      obtain ⟨F2, e2, rfl⟩ := Kd.R_slice HW.out
      have HK3 : Aside0 (wr.heap[w.heap.size + 2]? = some (.cells #[.slice none 0 0, .slice none 0 0, .slice none 0 0] 27 (0, 0))) := ⟨blk_below HK2.out HBr.out⟩
      have HLT2 : Aside0 (w.heap.size + 2 < w6.heap.size) := ⟨blk_lt HK2.out⟩
      have HT : Aside0 (TabR wr w.heap.size (.slice D6 atv.length f6) (.slice F1 rws.length e1) (.slice F2 wts.length e2) (atv, rws, wts)) := ⟨by
        have f0 := Kd.R_lt HO6.out
        have f1 := Kd.R_base HW.out
        refine ⟨Kd.R_below (Kd.R_mono (Kd.R_bound HO6.out) (fun k hk e => ?_)) HBr.out, Kd.S_mono (Kd.S_bound HS.out) (ok' := fun k => some k ≠ (.slice D6 atv.length f6 : Value).ownBlock ∧ some k ≠ (.slice F2 wts.length e2 : Value).ownBlock) (fun k hk => ⟨fun e => ?_, hk.1⟩) |> fun h => Kd.S_lower h HB6.out.size, Kd.R_mono (Kd.R_bound HW.out) (ok' := fun k => some k ≠ (.slice D6 atv.length f6 : Value).ownBlock) (fun k hk e => ?_) |> fun h => Kd.R_lower h HB6.out.size⟩
        · have := f1 k e.symm; have := hk.2.2.1; omega
        · have := f0 k e.symm; have := hk.2.1; omega
        · have := f0 k e.symm; have := hk.2.1; omega⟩
      clear HS HW HO6 HK2
      have hx0 : wr.cell? ⟨w6.heap.size, 0, none⟩ = some (.slice D6 atv.length f6) := (blk_cell HK.out 0).trans rfl
      have hx1 : wr.cell? ⟨w6.heap.size, 1, none⟩ = some (.slice F1 rws.length e1) := (blk_cell HK.out 1).trans rfl
      have hx2 : wr.cell? ⟨w6.heap.size, 2, none⟩ = some (.slice F2 wts.length e2) := (blk_cell HK.out 2).trans rfl
      have hy0 : wr.cell? ⟨w.heap.size + 2, 0, none⟩ = some (.slice none 0 0) := (blk_cell HK3.out 0).trans rfl
      have hy1 : wr.cell? ⟨w.heap.size + 2, 1, none⟩ = some (.slice none 0 0) := (blk_cell HK3.out 1).trans rfl
      have hy2 : wr.cell? ⟨w.heap.size + 2, 2, none⟩ = some (.slice none 0 0) := (blk_cell HK3.out 2).trans rfl
      have hyf : ∀ j, wr.frozen? ⟨w.heap.size + 2, j, none⟩ = false := fun j => blk_frozen HK3.out j
      go_wp2
      obtain ⟨hb5, hk5⟩ := set3 HK3.out (.slice D6 atv.length f6) (.slice F1 rws.length e1) (.slice F2 wts.length e2)
      refine bodyPost_ret (results_cell_row rfl _ _ (w.heap.size + 2) 27 #[.slice D6 atv.length f6, .slice F1 rws.length e1, .slice F2 wts.length e2] (0, 0) _ rfl hb5 Try.underlying27 rfl (by kernel_rfl)) rfl ?_
      rw [HR1.out, HR2.out]
      have hl := hlt6
      exact ⟨_, _, _, rfl, TabR.past HT.out HK3.out hk5, below_set (below_set (below_set (below_step HB6.out HBr.out) (by omega)) (by omega)) (by omega)⟩
end Go.Proofs.Ytkohcdddgjaijaa.PT
namespace Go.Proofs.Ytkohcdddgjaijaa.PT
open Go.RowKit Go.Proofs.Ytkohcdddgjaijaa.P Go.Proofs.YtkohcdddgjaijaaW.PrintWords Go.Proofs.YtkohcdddgjaijaaW.PrintLast Go.Proofs.Ytkohcdddgjaijaa.EvKit
set_option linter.unusedVariables false
set_option linter.unusedSimpArgs false
set_option maxHeartbeats 1600000 in
set_option maxRecDepth 100000 in
theorem semiI_walk (A0 : Option Addr) (c0 : Nat) (atv : List Int) (A1 : Option Addr) (c1 : Nat) (arows : List (List Int)) (A2 : Option Addr) (c2 : Nat) (aws : List Int) (B0 : Option Addr) (d0 : Nat) (btv : List Int) (B1 : Option Addr) (d1 : Nat) (brows : List (List Int)) (B2 : Option Addr) (d2 : Nat) (bws : List Int) (w : World)
    (h0 : Kd.C (Kd.int .i64) w A0 atv.length atv) (l0 : atv.length ≤ c0) (h1 : Kd.C kRb w A1 arows.length arows) (l1 : arows.length ≤ c1) (h2 : Kd.C (Kd.int .i64) w A2 aws.length aws) (l2 : aws.length ≤ c2)
    (k0 : Kd.C (Kd.int .i64) w B0 btv.length btv) (m0 : btv.length ≤ d0) (k1 : Kd.C kRb w B1 brows.length brows) (m1 : brows.length ≤ d1) (k2 : Kd.C (Kd.int .i64) w B2 bws.length bws) (m2 : bws.length ≤ d2)
    (b0 : atv.length ≤ 1048576) (b1 : arows.length ≤ 1048576) (b1r : ∀ x, x ∈ arows → x.length ≤ 1048576) (b2 : btv.length ≤ 1048576) (b3 : brows.length ≤ 1048576) (b3r : ∀ x, x ∈ brows → x.length ≤ 1048576) :
    Calls Try.prog 16 #[.agg #[.slice A0 atv.length c0, .slice A1 arows.length c1, .slice A2 aws.length c2], .agg #[.slice B0 btv.length d0, .slice B1 brows.length d1, .slice B2 bws.length d2]] w (ProjPost w (semV atv arows aws btv brows bws)) := by
  by_cases ga : tableOKb atv arows aws = true
  · by_cases gb : tableOKb btv brows bws = true
    · exact semi_ok A0 c0 atv A1 c1 arows A2 c2 aws B0 d0 btv B1 d1 brows B2 d2 bws w h0 l0 h1 l1 h2 l2 k0 m0 k1 m1 k2 m2 ga gb b0 b1 b1r b2 b3 b3r
    · obtain ⟨kt, hkt⟩ := Ev.rounds (implTableOK_ev atv arows aws b0 b1 (fun x hx => by have := b1r x hx; omega))
      obtain ⟨ku, hku⟩ := Ev.rounds (implTableOK_ev btv brows bws b2 b3 (fun x hx => by have := b3r x hx; omega))
      rw [ga] at hkt
      rw [Bool.eq_false_iff.2 gb] at hku
      have HTa := Aside0.mk (fun W (hb : Below w.heap.size w W) => impl_TableOK.calls kt A0 c0 atv A1 c1 arows A2 c2 aws _ W (Kd.C_below h0 hb) l0 (Kd.C_below h1 hb) l1 (Kd.C_below h2 hb) l2 hkt)
      have HTb := Aside0.mk (fun W (hb : Below w.heap.size w W) => impl_TableOK.calls ku B0 d0 btv B1 d1 brows B2 d2 bws _ W (Kd.C_below k0 hb) m0 (Kd.C_below k1 hb) m1 (Kd.C_below k2 hb) m2 hku)
      have HB := Aside0.mk (Below.refl w.heap.size w)
      have hsv : semV atv arows aws btv brows bws = ([], [], []) := by
        unfold semV; rw [if_pos ga, if_neg gb]
      rw [hsv]
      have tokA : (1 : Nat) < 2 := by decide
      clear h0 h1 h2 k0 k1 k2 ga gb hkt hku hsv b1r b3r
      go_enter Try.func16, Try.ntmps16
      go_wp2_with (first | (go_at_call 24; have tk := tokA; (with_reducible refine (HTa.out _ (below_alloc (below_alloc (below_alloc HB.out _) _) _)).mono ?_); clear HTa tk tokA; rintro e w1 ⟨rfl, hb1⟩; have HK1 := Aside0.mk (three1 hb1); have HK2 := Aside0.mk (three2 hb1); have HB1 : Aside0 (Below w.heap.size w w1) := ⟨below_step (below_alloc (below_alloc (below_alloc HB.out _) _) _) hb1⟩; have hx0 : w1.cell? ⟨w.heap.size + 1, 0, none⟩ = some (.slice B0 btv.length d0) := (blk_cell HK1.out 0).trans rfl; have hx1 : w1.cell? ⟨w.heap.size + 1, 1, none⟩ = some (.slice B1 brows.length d1) := (blk_cell HK1.out 1).trans rfl; have hx2 : w1.cell? ⟨w.heap.size + 1, 2, none⟩ = some (.slice B2 bws.length d2) := (blk_cell HK1.out 2).trans rfl; clear hb1) | (go_at_call 24; (with_reducible refine (HTb.out _ HB1.out).mono ?_); clear HTb hx0 hx1 hx2; rintro e w2 ⟨rfl, hb2⟩; have HB2 : Aside0 (Below w.heap.size w w2) := ⟨below_step HB1.out hb2⟩; replace HK2 := Aside0.mk (blk_below HK2.out hb2); clear hb2; have hy0 : w2.cell? ⟨w.heap.size + 2, 0, none⟩ = some (.slice none 0 0) := (blk_cell HK2.out 0).trans rfl; have hy1 : w2.cell? ⟨w.heap.size + 2, 1, none⟩ = some (.slice none 0 0) := (blk_cell HK2.out 1).trans rfl; have hy2 : w2.cell? ⟨w.heap.size + 2, 2, none⟩ = some (.slice none 0 0) := (blk_cell HK2.out 2).trans rfl; have hyf : ∀ j, w2.frozen? ⟨w.heap.size + 2, j, none⟩ = false := fun j => blk_frozen HK2.out j))
      obtain ⟨hb5, hk5⟩ := set3 HK2.out (.slice none 0 0) (.slice none 0 0) (.slice none 0 0)
      refine bodyPost_ret (results_cell_row rfl _ _ (w.heap.size + 2) 27 #[.slice none 0 0, .slice none 0 0, .slice none 0 0] (0, 0) _ rfl hb5 Try.underlying27 rfl (by kernel_rfl)) rfl ?_
      exact ⟨_, _, _, rfl, TabR_nil _ _, below_set (below_set (below_set (HB2.out) (by omega)) (by omega)) (by omega)⟩
  · obtain ⟨kt, hkt⟩ := Ev.rounds (implTableOK_ev atv arows aws b0 b1 (fun x hx => by have := b1r x hx; omega))
    rw [Bool.eq_false_iff.2 ga] at hkt
    have HTa := Aside0.mk (fun W (hb : Below w.heap.size w W) => impl_TableOK.calls kt A0 c0 atv A1 c1 arows A2 c2 aws _ W (Kd.C_below h0 hb) l0 (Kd.C_below h1 hb) l1 (Kd.C_below h2 hb) l2 hkt)
    have HB := Aside0.mk (Below.refl w.heap.size w)
    have hsv : semV atv arows aws btv brows bws = ([], [], []) := by
      unfold semV; rw [if_neg ga]
    rw [hsv]
    have tokA : (1 : Nat) < 2 := by decide
    clear h0 h1 h2 k0 k1 k2 ga hkt hsv b1r b3r
    go_enter Try.func16, Try.ntmps16
    go_wp2_with (first | (go_at_call 24; have tk := tokA; (with_reducible refine (HTa.out _ (below_alloc (below_alloc (below_alloc HB.out _) _) _)).mono ?_); clear HTa tk tokA; rintro e w1 ⟨rfl, hb1⟩; have HK1 := Aside0.mk (three1 hb1); have HK2 := Aside0.mk (three2 hb1); have HB1 : Aside0 (Below w.heap.size w w1) := ⟨below_step (below_alloc (below_alloc (below_alloc HB.out _) _) _) hb1⟩; have hx0 : w1.cell? ⟨w.heap.size + 1, 0, none⟩ = some (.slice B0 btv.length d0) := (blk_cell HK1.out 0).trans rfl; have hx1 : w1.cell? ⟨w.heap.size + 1, 1, none⟩ = some (.slice B1 brows.length d1) := (blk_cell HK1.out 1).trans rfl; have hx2 : w1.cell? ⟨w.heap.size + 1, 2, none⟩ = some (.slice B2 bws.length d2) := (blk_cell HK1.out 2).trans rfl; clear hb1; have hy0 : w1.cell? ⟨w.heap.size + 2, 0, none⟩ = some (.slice none 0 0) := (blk_cell HK2.out 0).trans rfl; have hy1 : w1.cell? ⟨w.heap.size + 2, 1, none⟩ = some (.slice none 0 0) := (blk_cell HK2.out 1).trans rfl; have hy2 : w1.cell? ⟨w.heap.size + 2, 2, none⟩ = some (.slice none 0 0) := (blk_cell HK2.out 2).trans rfl; have hyf : ∀ j, w1.frozen? ⟨w.heap.size + 2, j, none⟩ = false := fun j => blk_frozen HK2.out j))
    obtain ⟨hb5, hk5⟩ := set3 HK2.out (.slice none 0 0) (.slice none 0 0) (.slice none 0 0)
    refine bodyPost_ret (results_cell_row rfl _ _ (w.heap.size + 2) 27 #[.slice none 0 0, .slice none 0 0, .slice none 0 0] (0, 0) _ rfl hb5 Try.underlying27 rfl (by kernel_rfl)) rfl ?_
    exact ⟨_, _, _, rfl, TabR_nil _ _, below_set (below_set (below_set (HB1.out) (by omega)) (by omega)) (by omega)⟩
end Go.Proofs.Ytkohcdddgjaijaa.PT
namespace Go.Proofs.Ytkohcdddgjaijaa.P
open Go.RowKit Go.Proofs.YtkohcdddgjaijaaW.PrintWords Go.Proofs.YtkohcdddgjaijaaW.PrintLast Go.Proofs.YtkohcdddgjaijaaW.PrintMore
attribute [local go_sem] max2_int min2_int max_two min_two max_three min_three max_four min_four
set_option linter.unusedVariables false
set_option linter.unusedSimpArgs false
def spec_l2Seek.l0 : Nat → List (List Int) → List Int → Int → Int → Option (Int)
 | 0, _, _, _, _ => none
 | k + 1, x0, x1, x5, x6 => if x5 < x6 then (if 0 ≤ (wrap64 (Int.tdiv (wrap64 (x5 + x6)) 2)) then (if (wrap64 (Int.tdiv (wrap64 (x5 + x6)) 2)) < (x0.length : Int) then (if 0 ≤ (x1.length : Int) then (if (x1.length : Int) ≤ ((rd_L1 x0 (wrap64 (Int.tdiv (wrap64 (x5 + x6)) 2))).length : Int) then ((spec_l2Compare.f k ((rd_L1 x0 (wrap64 (Int.tdiv (wrap64 (x5 + x6)) 2))).take ((x1.length : Int) : Int).toNat) x1).bind fun t350 => (if t350 < 0 then (spec_l2Seek.l0 k x0 x1 (wrap64 ((wrap64 (Int.tdiv (wrap64 (x5 + x6)) 2)) + 1)) x6) else (spec_l2Seek.l0 k x0 x1 x5 (wrap64 (Int.tdiv (wrap64 (x5 + x6)) 2))))) else (none)) else (none)) else (none)) else (none)) else (some x5)
def spec_l2Seek.f (k : Nat) (l0 : List (List Int)) (l1 : List Int) : Option (Int) := spec_l2Seek.l0 k l0 l1 0 (l0.length : Int)
theorem spec_l2Seek.mono_l : ∀ k, (∀ y0 y1 y2 y3, LeO (spec_l2Seek.l0 k y0 y1 y2 y3) (spec_l2Seek.l0 (k + 1) y0 y1 y2 y3))
 | 0 => fun _ _ _ _ r h => by simp [spec_l2Seek.l0] at h
 | k + 1 => by
  have ih0 := spec_l2Seek.mono_l k
  ·intro y0 y1 y2 y3
   unfold spec_l2Seek.l0
   repeat' first
   | (with_reducible exact ih0 _ _ _ _)
   | (with_reducible exact spec_l2Compare.mono _ _ _)
   | (with_reducible exact LeO.refl _)
   | (with_reducible exact LeO.none _)
   | (with_reducible refine LeO.ite ?_ ?_)
   | (with_reducible refine LeO.bind ?_ (fun _ => ?_))
   | exact ih0 _ _ _ _
   | exact spec_l2Compare.mono _ _ _
   | exact LeO.none _
   | refine LeO.ite ?_ ?_
   | refine LeO.bind ?_ (fun _ => ?_)
theorem spec_l2Seek.mono : ∀ a0 a1 k, LeO (spec_l2Seek.f k a0 a1) (spec_l2Seek.f (k + 1) a0 a1) := by
 intro a0 a1 k
 have ih0 := spec_l2Seek.mono_l k
 unfold spec_l2Seek.f
 repeat' first
   | (with_reducible exact ih0 _ _ _ _)
   | (with_reducible exact spec_l2Compare.mono _ _ _)
   | (with_reducible exact LeO.refl _)
   | (with_reducible exact LeO.none _)
   | (with_reducible refine LeO.ite ?_ ?_)
   | (with_reducible refine LeO.bind ?_ (fun _ => ?_))
   | exact ih0 _ _ _ _
   | exact spec_l2Compare.mono _ _ _
   | exact LeO.none _
   | refine LeO.ite ?_ ?_
   | refine LeO.bind ?_ (fun _ => ?_)
set_option maxHeartbeats 8000000 in
set_option maxRecDepth 100000 in
theorem spec_l2Seek.calls (k : Nat) (A0 : Option Addr) (c0 : Nat) (l0 : List (List Int)) (A1 : Option Addr) (c1 : Nat) (l1 : List Int) (r : Int) (w : World) (hr0 : Kd.C (Kd.slice 3 (Kd.int .i64)) w A0 l0.length l0) (hc0 : l0.length ≤ c0) (hr1 : Kd.C (Kd.int .i64) w A1 l1.length l1) (hc1 : l1.length ≤ c1) (h : spec_l2Seek.f k l0 l1 = some r) :
  Calls Try.prog 49 #[.slice A0 l0.length c0, .slice A1 l1.length c1] w fun e w' => e = .returned (.int .i64 r) ∧ Drawn0 w w' := by
 have HR0 := Aside0.mk hr0
 have HC0 := Aside0.mk hc0
 clear hr0 hc0
 have HR1 := Aside0.mk hr1
 have HC1 := Aside0.mk hc1
 clear hr1 hc1
 have H : (spec_l2Seek.l0 k l0 l1 0 (l0.length : Int)) = some r := h
 clear h
 have H' := Aside0.mk H
 clear H
 go_enter Try.func49, Try.ntmps49
 go_wp2
 go_loopg [5, 6] k (fun kq v5 v6 w' => ∃ (x5_1 : Int) (x6_1 : Int), v5 = .int .i64 x5_1 ∧ v6 = .int .i64 x6_1 ∧ Aside0 (spec_l2Seek.l0 kq l0 l1 x5_1 x6_1 = some r) ∧ Aside0 (kq ≤ k) ∧ Drawn0 w w')
 case atStart => exact ⟨(0), ((l0.length : Int)), (by first | rfl | (simp; done) | (simp [*]; done)), (by first | rfl | (simp; done) | (simp [*]; done)), H', ⟨Nat.le_refl _⟩, by repeat (first | exact Drawn0.refl _ | apply Drawn0.step)⟩
 case round =>
  clear H'
  try clear c1
  try clear p2
  obtain ⟨x5_1, x6_1, rfl, rfl, HA, HK1, ⟨m1, rfl⟩⟩ := hrel
  cases gk with
  | zero => exact absurd HA.out (by simp [spec_l2Seek.l0])
  | succ k1 =>
   have H := HA.out
   clear HA
   simp only [spec_l2Seek.l0] at H
   by_cases c3 : x5_1 < x6_1
   ·rw [if_pos c3] at H
    have c3b0 : decide (x5_1 < x6_1) = true := decide_eq_true c3
    clear c3
    obtain ⟨ji4, hji4⟩ : ∃ j_ : Int, (wrap64 (Int.tdiv (wrap64 (x5_1 + x6_1)) 2)) = j_ := ⟨_, rfl⟩
    replace H : (if 0 ≤ (ji4) then (if (ji4) < (l0.length : Int) then (if 0 ≤ (l1.length : Int) then (if (l1.length : Int) ≤ ((rd_L1 l0 (ji4)).length : Int) then ((spec_l2Compare.f k1 ((rd_L1 l0 (ji4)).take ((l1.length : Int) : Int).toNat) l1).bind fun t350 => (if t350 < 0 then (spec_l2Seek.l0 k1 l0 l1 (wrap64 ((ji4) + 1)) x6_1) else (spec_l2Seek.l0 k1 l0 l1 x5_1 ji4))) else (none)) else (none)) else (none)) else (none)) = some r := by first | (rw [hji4] at H; exact H) | (simp only [hji4] at H ⊢; exact H)
    have hji4w : (IntKind.i64.wrap (Int.tdiv (wrap64 (x5_1 + x6_1)) 2)) = ji4 := (i64_w _).trans hji4
    by_cases c5 : 0 ≤ (ji4)
    ·rw [if_pos c5] at H
     have c5b0 : decide (0 ≤ (ji4)) = true := decide_eq_true c5
     clear c5
     by_cases c6 : (ji4) < (l0.length : Int)
     ·rw [if_pos c6] at H
      have c6b0 : decide ((ji4) < (l0.length : Int)) = true := decide_eq_true c6
      clear c6
      by_cases c7 : 0 ≤ (l1.length : Int)
      ·rw [if_pos c7] at H
       have c7b0 := eq_true c7
       have c7b1 : decide (0 ≤ (l1.length : Int)) = true := decide_eq_true c7
       clear c7
       by_cases c8 : (l1.length : Int) ≤ ((rd_L1 l0 (ji4)).length : Int)
       ·rw [if_pos c8] at H
        have c8b0 := eq_true c8
        have c8b1 : decide ((l1.length : Int) ≤ ((rd_L1 l0 (ji4)).length : Int)) = true := decide_eq_true c8
        clear c8
        replace H := Option.bind_eq_some_iff.mp H
        obtain ⟨t350, A90, H⟩ := H
        replace H : (if t350 < 0 then (spec_l2Seek.l0 k1 l0 l1 (wrap64 ((ji4) + 1)) x6_1) else (spec_l2Seek.l0 k1 l0 l1 x5_1 ji4)) = some r := H
        have A9 := Aside0.mk A90
        clear A90
        by_cases c10 : t350 < 0
        ·rw [if_pos c10] at H
         have c10b0 : decide (t350 < 0) = true := decide_eq_true c10
         clear c10
         have H' := Aside0.mk H
         clear H
         have p348 : 0 ≤ ((ji4) : Int) := of_decide_eq_true (by first | (with_reducible assumption) | assumption)
         have q348 : (ji4) < (l0.length : Int) := of_decide_eq_true (by first | (with_reducible assumption) | assumption)
         obtain ⟨ad348, A348_0, c348_0, e348, hx348_0, hl348_0, hi348_0⟩ := at_L1 HR0.out (ji4) p348 q348
         cases e348
         have HR348_0 := Aside0.mk hi348_0
         have HC348_0 := Aside0.mk hl348_0
         clear hi348_0 hl348_0
         replace p348 := eq_true p348
         replace q348 := eq_true q348
         obtain ⟨i011, hi011, _, hsz11, _⟩ := info_parts info3
         obtain ⟨hcut11, hA11, hC11⟩ := print_take_of (P := Try.prog) (Value.int .i64) 0 22 3 .i64 Try.underlying22 hi011 hsz11 A348_0 c348_0 (rd_L1 l0 (ji4)) (l1.length : Int) (of_decide_eq_true (by first | (with_reducible assumption) | assumption)) (of_decide_eq_true (by first | (with_reducible assumption) | assumption)) HC348_0.out
         have HR349 := Aside0.mk (Kd.C_of_reads (h1 := fun _ => rfl) (hA11 _ (Kd.reads_of_C HR348_0.out)))
         have HC349 := Aside0.mk hC11
         clear hA11 hC11 hi011 hsz11
         go_wp2_with (first | ((with_reducible refine gate_callee (f := 50) rfl ?_); refine goesL_ (some 25) rfl rfl Try.func50 (by kernel_rfl) rfl #[.slice A348_0 ((rd_L1 l0 (ji4)).take ((l1.length : Int) : Int).toNat).length c348_0, .slice A1 l1.length c1] rfl (by (try simp only [List.map_toArray, List.map_cons, List.map_nil]); first | done | (rw [show ((rd_L1 l0 (ji4)).take ((l1.length : Int) : Int).toNat).length = (l1.length : Int).toNat from (by rw [List.length_take]; have h_ : ((l1.length : Int) : Int) ≤ ((rd_L1 l0 (ji4)).length : Int) := of_decide_eq_true (by first | (with_reducible assumption) | assumption); omega)] <;> rfl) | (simp only [hji4]; rfl) | rfl | (simp only [List.length_drop, List.length_take]; rfl)) ?_; (with_reducible refine (spec_l2Compare.calls k1 _ _ ((rd_L1 l0 (ji4)).take ((l1.length : Int) : Int).toNat) _ _ l1 t350 _ ?side1 ?side2 ?side3 ?side4 A9.out).mono ?_); (case side1 => repeat (first | exact HR349.out | (with_reducible refine Kd.C_alloc ?_ _) | (with_reducible refine Kd.C_drewN ?_ _) | (with_reducible refine Kd.C_drew ?_))); (case side2 => exact HC349.out); (case side3 => repeat (first | exact HR1.out | (with_reducible refine Kd.C_alloc ?_ _) | (with_reducible refine Kd.C_drewN ?_ _) | (with_reducible refine Kd.C_drew ?_))); (case side4 => exact HC1.out); rintro e w' ⟨rfl, ⟨nd, rfl⟩⟩; refine ⟨_, rfl, ?_⟩))
         go_roundg k1
         case measure => have := HK1.out; omega
         case rel => exact ⟨(wrap64 ((ji4) + 1)), (x6_1), (by first | rfl | (simp; done) | (simp only [← hji4] <;> (first | rfl | simp)) | (simp [*]; done)), (by first | rfl | (simp; done) | (simp [*]; done)), H', ⟨by have := HK1.out; omega⟩, by repeat (first | exact Drawn0.refl _ | apply Drawn0.step)⟩
        ·rw [if_neg c10] at H
         have c10b0 : decide (t350 < 0) = false := decide_eq_false c10
         clear c10
         have H' := Aside0.mk H
         clear H
         have p348 : 0 ≤ ((ji4) : Int) := of_decide_eq_true (by first | (with_reducible assumption) | assumption)
         have q348 : (ji4) < (l0.length : Int) := of_decide_eq_true (by first | (with_reducible assumption) | assumption)
         obtain ⟨ad348, A348_0, c348_0, e348, hx348_0, hl348_0, hi348_0⟩ := at_L1 HR0.out (ji4) p348 q348
         cases e348
         have HR348_0 := Aside0.mk hi348_0
         have HC348_0 := Aside0.mk hl348_0
         clear hi348_0 hl348_0
         replace p348 := eq_true p348
         replace q348 := eq_true q348
         obtain ⟨i012, hi012, _, hsz12, _⟩ := info_parts info3
         obtain ⟨hcut12, hA12, hC12⟩ := print_take_of (P := Try.prog) (Value.int .i64) 0 22 3 .i64 Try.underlying22 hi012 hsz12 A348_0 c348_0 (rd_L1 l0 (ji4)) (l1.length : Int) (of_decide_eq_true (by first | (with_reducible assumption) | assumption)) (of_decide_eq_true (by first | (with_reducible assumption) | assumption)) HC348_0.out
         have HR349 := Aside0.mk (Kd.C_of_reads (h1 := fun _ => rfl) (hA12 _ (Kd.reads_of_C HR348_0.out)))
         have HC349 := Aside0.mk hC12
         clear hA12 hC12 hi012 hsz12
         go_wp2_with (first | ((with_reducible refine gate_callee (f := 50) rfl ?_); refine goesL_ (some 25) rfl rfl Try.func50 (by kernel_rfl) rfl #[.slice A348_0 ((rd_L1 l0 (ji4)).take ((l1.length : Int) : Int).toNat).length c348_0, .slice A1 l1.length c1] rfl (by (try simp only [List.map_toArray, List.map_cons, List.map_nil]); first | done | (rw [show ((rd_L1 l0 (ji4)).take ((l1.length : Int) : Int).toNat).length = (l1.length : Int).toNat from (by rw [List.length_take]; have h_ : ((l1.length : Int) : Int) ≤ ((rd_L1 l0 (ji4)).length : Int) := of_decide_eq_true (by first | (with_reducible assumption) | assumption); omega)] <;> rfl) | (simp only [hji4]; rfl) | rfl | (simp only [List.length_drop, List.length_take]; rfl)) ?_; (with_reducible refine (spec_l2Compare.calls k1 _ _ ((rd_L1 l0 (ji4)).take ((l1.length : Int) : Int).toNat) _ _ l1 t350 _ ?side1 ?side2 ?side3 ?side4 A9.out).mono ?_); (case side1 => repeat (first | exact HR349.out | (with_reducible refine Kd.C_alloc ?_ _) | (with_reducible refine Kd.C_drewN ?_ _) | (with_reducible refine Kd.C_drew ?_))); (case side2 => exact HC349.out); (case side3 => repeat (first | exact HR1.out | (with_reducible refine Kd.C_alloc ?_ _) | (with_reducible refine Kd.C_drewN ?_ _) | (with_reducible refine Kd.C_drew ?_))); (case side4 => exact HC1.out); rintro e w' ⟨rfl, ⟨nd, rfl⟩⟩; refine ⟨_, rfl, ?_⟩))
         go_roundg k1
         case measure => have := HK1.out; omega
         case rel => exact ⟨(x5_1), (ji4), (by first | rfl | (simp; done) | (simp [*]; done)), (by first | rfl | (simp; done) | (simp only [← hji4] <;> (first | rfl | simp)) | (simp [*]; done)), H', ⟨by have := HK1.out; omega⟩, by repeat (first | exact Drawn0.refl _ | apply Drawn0.step)⟩
       ·rw [if_neg c8] at H
        exact absurd H (by simp)
      ·rw [if_neg c7] at H
       exact absurd H (by simp)
     ·rw [if_neg c6] at H
      exact absurd H (by simp)
    ·rw [if_neg c5] at H
     exact absurd H (by simp)
   ·rw [if_neg c3] at H
    have c3b0 : decide (x5_1 < x6_1) = false := decide_eq_false c3
    clear c3
    obtain rfl := Option.some.inj H
    go_wp2
    go_ret
    exact ⟨by first | rfl | (simp; done) | (simp [*]; done), by repeat (first | exact Drawn0.refl _ | apply Drawn0.step)⟩
end Go.Proofs.Ytkohcdddgjaijaa.P
namespace Go.Proofs.Ytkohcdddgjaijaa.P
open Go.RowKit Go.Proofs.YtkohcdddgjaijaaW.PrintWords Go.Proofs.YtkohcdddgjaijaaW.PrintLast Go.Proofs.YtkohcdddgjaijaaW.PrintMore
attribute [local go_sem] max2_int min2_int max_two min_two max_three min_three max_four min_four
set_option linter.unusedVariables false
set_option linter.unusedSimpArgs false
def spec_l2Begins.f (k : Nat) (l0 : List (List Int)) (l1 : List Int) : Option (Bool) := (spec_l2Seek.f k l0 l1).bind fun t351 => (if t351 < (l0.length : Int) then (if 0 ≤ t351 then (if 0 ≤ (l1.length : Int) then (if (l1.length : Int) ≤ ((rd_L1 l0 t351).length : Int) then ((spec_l2Compare.f k ((rd_L1 l0 t351).take ((l1.length : Int) : Int).toNat) l1).bind fun t354 => (some (t354 == 0))) else (none)) else (none)) else (none)) else (some false))
theorem spec_l2Begins.mono : ∀ a0 a1 k, LeO (spec_l2Begins.f k a0 a1) (spec_l2Begins.f (k + 1) a0 a1) := by
 intro a0 a1 k
 unfold spec_l2Begins.f
 repeat' first
   | (with_reducible exact spec_l2Compare.mono _ _ _)
   | (with_reducible exact spec_l2Seek.mono _ _ _)
   | (with_reducible exact LeO.refl _)
   | (with_reducible exact LeO.none _)
   | (with_reducible refine LeO.ite ?_ ?_)
   | (with_reducible refine LeO.bind ?_ (fun _ => ?_))
   | exact spec_l2Compare.mono _ _ _
   | exact spec_l2Seek.mono _ _ _
   | exact LeO.none _
   | refine LeO.ite ?_ ?_
   | refine LeO.bind ?_ (fun _ => ?_)
set_option maxHeartbeats 8000000 in
set_option maxRecDepth 100000 in
theorem spec_l2Begins.calls (k : Nat) (A0 : Option Addr) (c0 : Nat) (l0 : List (List Int)) (A1 : Option Addr) (c1 : Nat) (l1 : List Int) (r : Bool) (w : World) (hr0 : Kd.C (Kd.slice 3 (Kd.int .i64)) w A0 l0.length l0) (hc0 : l0.length ≤ c0) (hr1 : Kd.C (Kd.int .i64) w A1 l1.length l1) (hc1 : l1.length ≤ c1) (h : spec_l2Begins.f k l0 l1 = some r) :
  Calls Try.prog 34 #[.slice A0 l0.length c0, .slice A1 l1.length c1] w fun e w' => e = .returned (.bool r) ∧ Drawn0 w w' := by
 have HR0 := Aside0.mk hr0
 have HC0 := Aside0.mk hc0
 clear hr0 hc0
 have HR1 := Aside0.mk hr1
 have HC1 := Aside0.mk hc1
 clear hr1 hc1
 have H : ((spec_l2Seek.f k l0 l1).bind fun t351 => (if t351 < (l0.length : Int) then (if 0 ≤ t351 then (if 0 ≤ (l1.length : Int) then (if (l1.length : Int) ≤ ((rd_L1 l0 t351).length : Int) then ((spec_l2Compare.f k ((rd_L1 l0 t351).take ((l1.length : Int) : Int).toNat) l1).bind fun t354 => (some (t354 == 0))) else (none)) else (none)) else (none)) else (some false))) = some r := h
 clear h
 replace H := Option.bind_eq_some_iff.mp H
 obtain ⟨t351, A30, H⟩ := H
 replace H : (if t351 < (l0.length : Int) then (if 0 ≤ t351 then (if 0 ≤ (l1.length : Int) then (if (l1.length : Int) ≤ ((rd_L1 l0 t351).length : Int) then ((spec_l2Compare.f k ((rd_L1 l0 t351).take ((l1.length : Int) : Int).toNat) l1).bind fun t354 => (some (t354 == 0))) else (none)) else (none)) else (none)) else (some false)) = some r := H
 have A3 := Aside0.mk A30
 clear A30
 by_cases c4 : t351 < (l0.length : Int)
 ·rw [if_pos c4] at H
  have c4b0 : decide (t351 < (l0.length : Int)) = true := decide_eq_true c4
  clear c4
  by_cases c5 : 0 ≤ t351
  ·rw [if_pos c5] at H
   have c5b0 : decide (0 ≤ t351) = true := decide_eq_true c5
   clear c5
   by_cases c6 : 0 ≤ (l1.length : Int)
   ·rw [if_pos c6] at H
    have c6b0 := eq_true c6
    have c6b1 : decide (0 ≤ (l1.length : Int)) = true := decide_eq_true c6
    clear c6
    by_cases c7 : (l1.length : Int) ≤ ((rd_L1 l0 t351).length : Int)
    ·rw [if_pos c7] at H
     have c7b0 := eq_true c7
     have c7b1 : decide ((l1.length : Int) ≤ ((rd_L1 l0 t351).length : Int)) = true := decide_eq_true c7
     clear c7
     replace H := Option.bind_eq_some_iff.mp H
     obtain ⟨t354, A80, H⟩ := H
     replace H : (some (t354 == 0)) = some r := H
     have A8 := Aside0.mk A80
     clear A80
     obtain rfl := Option.some.inj H
     go_enter Try.func34, Try.ntmps34
     go_wp2_with (first | ((with_reducible refine gate_callee (f := 49) rfl ?_); refine goesL_ (some 8) rfl rfl Try.func49 (by kernel_rfl) rfl #[.slice A0 l0.length c0, .slice A1 l1.length c1] rfl (by (try simp only [List.map_toArray, List.map_cons, List.map_nil]); first | done | rfl | (simp only [List.length_drop, List.length_take]; rfl)) ?_; (with_reducible refine (spec_l2Seek.calls k _ _ l0 _ _ l1 t351 _ ?side1 ?side2 ?side3 ?side4 A3.out).mono ?_); (case side1 => repeat (first | exact HR0.out | (with_reducible refine Kd.C_alloc ?_ _) | (with_reducible refine Kd.C_drewN ?_ _) | (with_reducible refine Kd.C_drew ?_))); (case side2 => exact HC0.out); (case side3 => repeat (first | exact HR1.out | (with_reducible refine Kd.C_alloc ?_ _) | (with_reducible refine Kd.C_drewN ?_ _) | (with_reducible refine Kd.C_drew ?_))); (case side4 => exact HC1.out); rintro e w' ⟨rfl, ⟨nd, rfl⟩⟩; refine ⟨_, rfl, ?_⟩; have p352 : 0 ≤ (t351 : Int) := of_decide_eq_true (by first | (with_reducible assumption) | assumption); have q352 : t351 < (l0.length : Int) := of_decide_eq_true (by first | (with_reducible assumption) | assumption); obtain ⟨ad352, A352_0, c352_0, e352, hx352_0, hl352_0, hi352_0⟩ := at_L1 HR0.out t351 p352 q352; cases e352; have HR352_0 := Aside0.mk hi352_0; have HC352_0 := Aside0.mk hl352_0; clear hi352_0 hl352_0; replace p352 := eq_true p352; replace q352 := eq_true q352; obtain ⟨i09, hi09, _, hsz9, _⟩ := info_parts info3; obtain ⟨hcut9, hA9, hC9⟩ := print_take_of (P := Try.prog) (Value.int .i64) 0 22 3 .i64 Try.underlying22 hi09 hsz9 A352_0 c352_0 (rd_L1 l0 t351) (l1.length : Int) (of_decide_eq_true (by first | (with_reducible assumption) | assumption)) (of_decide_eq_true (by first | (with_reducible assumption) | assumption)) HC352_0.out; have HR353 := Aside0.mk (Kd.C_of_reads (h1 := fun _ => rfl) (hA9 _ (Kd.reads_of_C HR352_0.out))); have HC353 := Aside0.mk hC9; clear hA9 hC9 hi09 hsz9) | (go_at_call 50; (rw [show min l1.length (rd_L1 l0 t351).length = ((rd_L1 l0 t351).take ((l1.length : Int) : Int).toNat).length from by rw [List.length_take]; omega]); (with_reducible refine (spec_l2Compare.calls k _ _ ((rd_L1 l0 t351).take ((l1.length : Int) : Int).toNat) _ _ l1 t354 _ ?side1 ?side2 ?side3 ?side4 A8.out).mono ?_); (case side1 => repeat (first | exact HR353.out | (with_reducible refine Kd.C_alloc ?_ _) | (with_reducible refine Kd.C_drewN ?_ _) | (with_reducible refine Kd.C_drew ?_))); (case side2 => exact HC353.out); (case side3 => repeat (first | exact HR1.out | (with_reducible refine Kd.C_alloc ?_ _) | (with_reducible refine Kd.C_drewN ?_ _) | (with_reducible refine Kd.C_drew ?_))); (case side4 => exact HC1.out); rintro e w' ⟨rfl, ⟨nd, rfl⟩⟩))
     go_ret
     exact ⟨by first | rfl | (simp; done) | (simp [*]; done), by repeat (first | exact Drawn0.refl _ | apply Drawn0.step)⟩
    ·rw [if_neg c7] at H
     exact absurd H (by simp)
   ·rw [if_neg c6] at H
    exact absurd H (by simp)
  ·rw [if_neg c5] at H
   exact absurd H (by simp)
 ·rw [if_neg c4] at H
  have c4b0 : decide (t351 < (l0.length : Int)) = false := decide_eq_false c4
  clear c4
  obtain rfl := Option.some.inj H
  go_enter Try.func34, Try.ntmps34
  go_wp2_with (first | ((with_reducible refine gate_callee (f := 49) rfl ?_); refine goesL_ (some 8) rfl rfl Try.func49 (by kernel_rfl) rfl #[.slice A0 l0.length c0, .slice A1 l1.length c1] rfl (by (try simp only [List.map_toArray, List.map_cons, List.map_nil]); first | done | rfl | (simp only [List.length_drop, List.length_take]; rfl)) ?_; (with_reducible refine (spec_l2Seek.calls k _ _ l0 _ _ l1 t351 _ ?side1 ?side2 ?side3 ?side4 A3.out).mono ?_); (case side1 => repeat (first | exact HR0.out | (with_reducible refine Kd.C_alloc ?_ _) | (with_reducible refine Kd.C_drewN ?_ _) | (with_reducible refine Kd.C_drew ?_))); (case side2 => exact HC0.out); (case side3 => repeat (first | exact HR1.out | (with_reducible refine Kd.C_alloc ?_ _) | (with_reducible refine Kd.C_drewN ?_ _) | (with_reducible refine Kd.C_drew ?_))); (case side4 => exact HC1.out); rintro e w' ⟨rfl, ⟨nd, rfl⟩⟩; refine ⟨_, rfl, ?_⟩))
  go_ret
  exact ⟨by first | rfl | (simp; done) | (simp [*]; done), by repeat (first | exact Drawn0.refl _ | apply Drawn0.step)⟩
end Go.Proofs.Ytkohcdddgjaijaa.P
namespace Go.Proofs.Ytkohcdddgjaijaa.PT
open Go.RowKit Go.Proofs.Ytkohcdddgjaijaa.P Go.Proofs.YtkohcdddgjaijaaW.PrintWords Go.Proofs.YtkohcdddgjaijaaW.PrintLast Go.Proofs.Ytkohcdddgjaijaa.EvKit
set_option linter.unusedSimpArgs false
set_option linter.unusedVariables false
theorem rdL_at' {l : List (List Int)} {i : Nat} (h : i < l.length) : rd_L1 l (i : Int) = l[i] := getD_at _ h
theorem mid_eq (lo hi : Nat) (h : lo + hi ≤ 4194304) : wrap64 (Int.tdiv (wrap64 ((lo : Int) + (hi : Int))) 2) = (((lo + hi) / 2 : Nat) : Int) := by
  have e : (lo : Int) + (hi : Int) = ((lo + hi : Nat) : Int) := by omega
  have h1 : wrap64 ((lo + hi : Nat) : Int) = ((lo + hi : Nat) : Int) := w64 (by omega) (by omega)
  rw [e, h1, Int.tdiv_eq_ediv_of_nonneg (by omega), w64 (by omega) (by omega)]
  omega
theorem seek_l0 (keys : List (List Int)) (row : List Int) (hk : keys.length ≤ 1048576) (hrow : row.length ≤ 1048576) (hs : Strict keys) (hl : ∀ x, x ∈ keys → x.length = row.length) :
    ∀ d lo hi, hi - lo ≤ d → lo ≤ hi → hi ≤ keys.length → (∀ j, ∀ h : j < keys.length, j < lo → cmpL keys[j] row < 0) → (∀ j, ∀ h : j < keys.length, hi ≤ j → ¬ cmpL keys[j] row < 0) →
      ∃ p : Nat, p ≤ keys.length ∧ Ev (fun k => spec_l2Seek.l0 k keys row (lo : Int) (hi : Int)) (p : Int) ∧ (∀ j, ∀ h : j < keys.length, j < p → cmpL keys[j] row < 0) ∧ (∀ j, ∀ h : j < keys.length, p ≤ j → ¬ cmpL keys[j] row < 0) := by
  intro d
  induction d with
  | zero =>
    intro lo hi hd h1 h2 ha hb
    refine ⟨lo, by omega, ?_, ha, fun j h hj => hb j h (by omega)⟩
    refine Ev.succ ?_
    simp only [spec_l2Seek.l0]
    exact Ev.neg (by omega) (Ev.now _)
  | succ d ih =>
    intro lo hi hd h1 h2 ha hb
    by_cases c : lo < hi
    · have em := mid_eq lo hi (by omega)
      have hm : (lo + hi) / 2 < keys.length := by omega
      obtain ⟨mid, hmm⟩ : ∃ mid, mid = (lo + hi) / 2 := ⟨_, rfl⟩
      rw [← hmm] at em hm
      have hmlo : lo ≤ mid := by omega
      have hmhi : mid < hi := by omega
      clear hmm
      have hml := hl _ (List.getElem_mem hm)
      have htk : (keys[mid]).take row.length = keys[mid] := List.take_of_length_le (by omega)
      have hcmp := l2Compare_ev keys[mid] row (by omega)
      have wm := w64n (show mid ≤ 9223372036854775806 by omega)
      by_cases c2 : cmpL keys[mid] row < 0
      · obtain ⟨p, hp, hev, q1, q2⟩ := ih (mid + 1) hi (by omega) (by omega) h2 (fun j h hj => by
          rcases Nat.lt_or_ge j mid with e | e
          · unfold Strict at hs
            exact cmpL_trans _ _ _ (List.pairwise_iff_getElem.1 hs j mid h hm e) c2
          · have : j = mid := by omega
            subst this; exact c2) hb
        refine ⟨p, hp, ?_, q1, q2⟩
        refine Ev.succ ?_
        simp only [spec_l2Seek.l0, em, rdL_at' hm, Int.toNat_natCast, htk, wm]
        exact Ev.pos (by omega) (Ev.pos (by omega) (Ev.pos (by omega) (Ev.pos (by omega) (Ev.pos (by omega) (Ev.bind hcmp (Ev.pos c2 hev))))))
      · obtain ⟨p, hp, hev, q1, q2⟩ := ih lo mid (by omega) (by omega) (by omega) ha (fun j h hj => by
          rcases Nat.lt_or_ge mid j with e | e
          · intro h5
            unfold Strict at hs
            exact c2 (cmpL_trans _ _ _ (List.pairwise_iff_getElem.1 hs mid j hm h e) h5)
          · have : j = mid := by omega
            subst this; exact c2)
        refine ⟨p, hp, ?_, q1, q2⟩
        refine Ev.succ ?_
        simp only [spec_l2Seek.l0, em, rdL_at' hm, Int.toNat_natCast, htk, wm]
        exact Ev.pos (by omega) (Ev.pos (by omega) (Ev.pos (by omega) (Ev.pos (by omega) (Ev.pos (by omega) (Ev.bind hcmp (Ev.neg c2 hev))))))
    · refine ⟨lo, by omega, ?_, ha, fun j h hj => hb j h (by omega)⟩
      refine Ev.succ ?_
      simp only [spec_l2Seek.l0]
      exact Ev.neg (by omega) (Ev.now _)
theorem begins_ev (keys : List (List Int)) (row : List Int) (hk : keys.length ≤ 1048576) (hrow : row.length ≤ 1048576) (hs : Strict keys) (hl : ∀ x, x ∈ keys → x.length = row.length) : Ev (fun k => spec_l2Begins.f k keys row) (decide (row ∈ keys)) := by
  obtain ⟨p, hp, hev, q1, q2⟩ := seek_l0 keys row hk hrow hs hl keys.length 0 keys.length (by omega) (Nat.zero_le _) (Nat.le_refl _) (fun j h hj => by omega) (fun j h hj => by omega)
  have key : row ∈ keys ↔ ∃ h : p < keys.length, keys[p] = row := by
    constructor
    · intro hm
      obtain ⟨q, hq, he⟩ := List.getElem_of_mem hm
      have e : p = q := by
        rcases Nat.lt_trichotomy p q with e | e | e
        · have h1 := q2 p (by omega) (Nat.le_refl _)
          unfold Strict at hs
          have h2 := List.pairwise_iff_getElem.1 hs p q (by omega) hq e
          rw [he] at h2; exact absurd h2 h1
        · exact e
        · have h1 := q1 q hq e
          rw [he, cmpL_self] at h1; omega
      subst e
      exact ⟨hq, he⟩
    · rintro ⟨h, he⟩
      rw [← he]; exact List.getElem_mem h
  unfold spec_l2Begins.f
  refine Ev.bind hev ?_
  by_cases c : p < keys.length
  · have hml := hl _ (List.getElem_mem c)
    have htk : (keys[p]).take row.length = keys[p] := List.take_of_length_le (by omega)
    simp only [rdL_at' c, Int.toNat_natCast, htk]
    refine Ev.pos (by omega) (Ev.pos (by omega) (Ev.pos (by omega) (Ev.pos (by omega) (Ev.bind (l2Compare_ev keys[p] row (by omega)) (Ev.to (Ev.now _) ?_)))))
    rw [Bool.eq_iff_iff, beq_iff_eq, decide_eq_true_eq, key]
    constructor
    · intro h; exact ⟨c, cmpL_eq _ _ h⟩
    · rintro ⟨_, h⟩; rw [h]; exact cmpL_self _
  · refine Ev.neg (by omega) (Ev.to (Ev.now _) ?_)
    symm
    apply decide_eq_false
    rw [key]
    rintro ⟨h, _⟩; exact c h
end Go.Proofs.Ytkohcdddgjaijaa.PT
