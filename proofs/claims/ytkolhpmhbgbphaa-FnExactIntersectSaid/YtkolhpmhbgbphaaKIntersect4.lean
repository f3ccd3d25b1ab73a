/-
  The law FnExactIntersect answers true at every argument.
-/
import Derived.Test.YtkolhpmhbgbphaaRows
import Derived.Test.YtkolhpmhbgbphaaKIntersect1
import Derived.Test.YtkolhpmhbgbphaaKIntersect2
import Derived.Test.YtkolhpmhbgbphaaKIntersect3
import Derived.Deep.RegionHeld3
import Derived.WalkKit
import Derived.ProofKit
import Derived.OpenShut
import Derived.ShutString
import Derived.ChangeOld
import Derived.Below
import Derived.SizedLaws
import Derived.Lib.SmallJoins
namespace Go.Proofs.Ytkolhpmhbgbphaa.P
open Go.RowKit Go.Proofs.YtkolhpmhbgbphaaW.PrintWords Go.Proofs.YtkolhpmhbgbphaaW.PrintLast Go.Proofs.YtkolhpmhbgbphaaW.PrintMore
attribute [local go_sem] max2_int min2_int max_two min_two max_three min_three max_four min_four
set_option linter.unusedVariables false
set_option linter.unusedSimpArgs false
def laws_szIntSS.l0 : Nat → List (List Int) → Int → Int → Option (Int)
 | 0, _, _, _ => none
 | k + 1, x0, x1, x5 => if x5 < (x0.length : Int) then (if 0 ≤ x5 then ((laws_szIntS.f (rd_L1 x0 x5) x1).bind fun t102 => (if t102 < 0 then (some (-1)) else (laws_szIntSS.l0 k x0 t102 (wrap64 (x5 + 1))))) else (none)) else (some x1)
def laws_szIntSS.f (k : Nat) (l0 : List (List Int)) (a1 : Int) : Option (Int) := if (wrap64 (a1 - (l0.length : Int))) < 0 then (some (-1)) else (laws_szIntSS.l0 k l0 (wrap64 (a1 - (l0.length : Int))) 0)
theorem laws_szIntSS.mono_l : ∀ k, (∀ y0 y1 y2, LeO (laws_szIntSS.l0 k y0 y1 y2) (laws_szIntSS.l0 (k + 1) y0 y1 y2))
 | 0 => fun _ _ _ r h => by simp [laws_szIntSS.l0] at h
 | k + 1 => by
  have ih0 := laws_szIntSS.mono_l k
  ·intro y0 y1 y2
   unfold laws_szIntSS.l0
   repeat' first
   | (with_reducible exact ih0 _ _ _)
   | (with_reducible exact LeO.refl _)
   | (with_reducible exact LeO.none _)
   | (with_reducible refine LeO.ite ?_ ?_)
   | (with_reducible refine LeO.bind ?_ (fun _ => ?_))
   | exact ih0 _ _ _
   | exact LeO.none _
   | refine LeO.ite ?_ ?_
   | refine LeO.bind ?_ (fun _ => ?_)
theorem laws_szIntSS.mono : ∀ a0 a1 k, LeO (laws_szIntSS.f k a0 a1) (laws_szIntSS.f (k + 1) a0 a1) := by
 intro a0 a1 k
 have ih0 := laws_szIntSS.mono_l k
 unfold laws_szIntSS.f
 repeat' first
   | (with_reducible exact ih0 _ _ _)
   | (with_reducible exact LeO.refl _)
   | (with_reducible exact LeO.none _)
   | (with_reducible refine LeO.ite ?_ ?_)
   | (with_reducible refine LeO.bind ?_ (fun _ => ?_))
   | exact ih0 _ _ _
   | exact LeO.none _
   | refine LeO.ite ?_ ?_
   | refine LeO.bind ?_ (fun _ => ?_)
set_option maxHeartbeats 8000000 in
set_option maxRecDepth 100000 in
theorem laws_szIntSS.calls (k : Nat) (A0 : Option Addr) (c0 : Nat) (l0 : List (List Int)) (a1 : Int) (r : Int) (w : World) (hr0 : Kd.C (Kd.slice 3 (Kd.int .i64)) w A0 l0.length l0) (hc0 : l0.length ≤ c0) (h : laws_szIntSS.f k l0 a1 = some r) :
  Calls Try.prog 12 #[.slice A0 l0.length c0, .int .i64 a1] w fun e w' => e = .returned (.int .i64 r) ∧ Drawn0 w w' := by
 have HR0 := Aside0.mk hr0
 have HC0 := Aside0.mk hc0
 clear hr0 hc0
 have H : (if (wrap64 (a1 - (l0.length : Int))) < 0 then (some (-1)) else (laws_szIntSS.l0 k l0 (wrap64 (a1 - (l0.length : Int))) 0)) = some r := h
 clear h
 by_cases c3 : (wrap64 (a1 - (l0.length : Int))) < 0
 ·rw [if_pos c3] at H
  have c3b0 : decide ((wrap64 (a1 - (l0.length : Int))) < 0) = true := decide_eq_true c3
  clear c3
  obtain rfl := Option.some.inj H
  go_enter Try.func12, Try.ntmps12
  go_wp2
  go_ret
  exact ⟨by first | rfl | (simp; done) | (simp [*]; done), by repeat (first | exact Drawn0.refl _ | apply Drawn0.step)⟩
 ·rw [if_neg c3] at H
  have c3b0 : decide ((wrap64 (a1 - (l0.length : Int))) < 0) = false := decide_eq_false c3
  clear c3
  have H' := Aside0.mk H
  clear H
  go_enter Try.func12, Try.ntmps12
  go_wp2
  go_loopg [1, 5] k (fun kq v1 v5 w' => ∃ (x1_1 : Int) (x5_1 : Int), v1 = .int .i64 x1_1 ∧ v5 = .int .i64 x5_1 ∧ Aside0 (laws_szIntSS.l0 kq l0 x1_1 x5_1 = some r) ∧ Aside0 (kq ≤ k) ∧ Drawn0 w w')
  case atStart => exact ⟨(wrap64 (a1 - (l0.length : Int))), (0), (by first | rfl | (simp; done) | (simp [*]; done)), (by first | rfl | (simp; done) | (simp [*]; done)), H', ⟨Nat.le_refl _⟩, by repeat (first | exact Drawn0.refl _ | apply Drawn0.step)⟩
  case round =>
   clear H'
   try clear c1
   try clear p2
   try clear c3
   try clear c3b0
   obtain ⟨x1_1, x5_1, rfl, rfl, HA, HK1, ⟨m1, rfl⟩⟩ := hrel
   cases gk with
   | zero => exact absurd HA.out (by simp [laws_szIntSS.l0])
   | succ k1 =>
    have H := HA.out
    clear HA
    simp only [laws_szIntSS.l0] at H
    by_cases c4 : x5_1 < (l0.length : Int)
    ·rw [if_pos c4] at H
     have c4b0 : decide (x5_1 < (l0.length : Int)) = true := decide_eq_true c4
     clear c4
     by_cases c5 : 0 ≤ x5_1
     ·rw [if_pos c5] at H
      have c5b0 : decide (0 ≤ x5_1) = true := decide_eq_true c5
      clear c5
      replace H := Option.bind_eq_some_iff.mp H
      obtain ⟨t102, A60, H⟩ := H
      replace H : (if t102 < 0 then (some (-1)) else (laws_szIntSS.l0 k1 l0 t102 (wrap64 (x5_1 + 1)))) = some r := H
      have A6 := Aside0.mk A60
      clear A60
      by_cases c7 : t102 < 0
      ·rw [if_pos c7] at H
       have c7b0 : decide (t102 < 0) = true := decide_eq_true c7
       clear c7
       obtain rfl := Option.some.inj H
       have p101 : 0 ≤ (x5_1 : Int) := of_decide_eq_true (by first | (with_reducible assumption) | assumption)
       have q101 : x5_1 < (l0.length : Int) := of_decide_eq_true (by first | (with_reducible assumption) | assumption)
       obtain ⟨ad101, A101_0, c101_0, e101, hx101_0, hl101_0, hi101_0⟩ := at_L1 HR0.out x5_1 p101 q101
       cases e101
       have HR101_0 := Aside0.mk hi101_0
       have HC101_0 := Aside0.mk hl101_0
       clear hi101_0 hl101_0
       replace p101 := eq_true p101
       replace q101 := eq_true q101
       go_wp2_with (first | ((with_reducible refine gate_callee (f := 63) rfl ?_); refine goesL_ (some 23) rfl rfl Try.func63 (by kernel_rfl) rfl #[.slice A101_0 (rd_L1 l0 x5_1).length c101_0, .int .i64 x1_1] rfl (by (try simp only [List.map_toArray, List.map_cons, List.map_nil]); first | done | rfl | (simp only [List.length_drop, List.length_take]; rfl)) ?_; (with_reducible refine (laws_szIntS.calls _ _ (rd_L1 l0 x5_1) x1_1 t102 _ ?side1 ?side2 A6.out).mono ?_); (case side1 => repeat (first | exact HR101_0.out | (with_reducible refine Kd.C_alloc ?_ _) | (with_reducible refine Kd.C_drewN ?_ _) | (with_reducible refine Kd.C_drew ?_))); (case side2 => exact HC101_0.out); rintro e w' ⟨rfl, ⟨nd, rfl⟩⟩; refine ⟨_, rfl, ?_⟩))
       go_ret
       exact ⟨by first | rfl | (simp; done) | (simp [*]; done), by repeat (first | exact Drawn0.refl _ | apply Drawn0.step)⟩
      ·rw [if_neg c7] at H
       have c7b0 : decide (t102 < 0) = false := decide_eq_false c7
       clear c7
       have H' := Aside0.mk H
       clear H
       have p101 : 0 ≤ (x5_1 : Int) := of_decide_eq_true (by first | (with_reducible assumption) | assumption)
       have q101 : x5_1 < (l0.length : Int) := of_decide_eq_true (by first | (with_reducible assumption) | assumption)
       obtain ⟨ad101, A101_0, c101_0, e101, hx101_0, hl101_0, hi101_0⟩ := at_L1 HR0.out x5_1 p101 q101
       cases e101
       have HR101_0 := Aside0.mk hi101_0
       have HC101_0 := Aside0.mk hl101_0
       clear hi101_0 hl101_0
       replace p101 := eq_true p101
       replace q101 := eq_true q101
       go_wp2_with (first | ((with_reducible refine gate_callee (f := 63) rfl ?_); refine goesL_ (some 23) rfl rfl Try.func63 (by kernel_rfl) rfl #[.slice A101_0 (rd_L1 l0 x5_1).length c101_0, .int .i64 x1_1] rfl (by (try simp only [List.map_toArray, List.map_cons, List.map_nil]); first | done | rfl | (simp only [List.length_drop, List.length_take]; rfl)) ?_; (with_reducible refine (laws_szIntS.calls _ _ (rd_L1 l0 x5_1) x1_1 t102 _ ?side1 ?side2 A6.out).mono ?_); (case side1 => repeat (first | exact HR101_0.out | (with_reducible refine Kd.C_alloc ?_ _) | (with_reducible refine Kd.C_drewN ?_ _) | (with_reducible refine Kd.C_drew ?_))); (case side2 => exact HC101_0.out); rintro e w' ⟨rfl, ⟨nd, rfl⟩⟩; refine ⟨_, rfl, ?_⟩))
       go_roundg k1
       case measure => have := HK1.out; omega
       case rel => exact ⟨(t102), (wrap64 (x5_1 + 1)), (by first | rfl | (simp; done) | (simp [*]; done)), (by first | rfl | (simp; done) | (simp [*]; done)), H', ⟨by have := HK1.out; omega⟩, by repeat (first | exact Drawn0.refl _ | apply Drawn0.step)⟩
     ·rw [if_neg c5] at H
      exact absurd H (by simp)
    ·rw [if_neg c4] at H
     have c4b0 : decide (x5_1 < (l0.length : Int)) = false := decide_eq_false c4
     clear c4
     obtain rfl := Option.some.inj H
     go_wp2
     go_ret
     exact ⟨by first | rfl | (simp; done) | (simp [*]; done), by repeat (first | exact Drawn0.refl _ | apply Drawn0.step)⟩
end Go.Proofs.Ytkolhpmhbgbphaa.P
namespace Go.Proofs.Ytkolhpmhbgbphaa.P
open Go.RowKit Go.Proofs.YtkolhpmhbgbphaaW.PrintWords Go.Proofs.YtkolhpmhbgbphaaW.PrintLast Go.Proofs.YtkolhpmhbgbphaaW.PrintMore
attribute [local go_sem] max2_int min2_int max_two min_two max_three min_three max_four min_four
set_option linter.unusedVariables false
set_option linter.unusedSimpArgs false
def laws_toIntS.l0 : Nat → List Int → List Int → Int → Option (List Int)
 | 0, _, _, _ => none
 | k + 1, x0, x3, x4 => if x4 < (x0.length : Int) then (if 0 ≤ x4 then (if x4 < (x3.length : Int) then (laws_toIntS.l0 k x0 (x3.set (x4 : Int).toNat (rd x0 x4)) (wrap64 (x4 + 1))) else (none)) else (none)) else (some x3)
def laws_toIntS.f (k : Nat) (l0 : List Int) : Option (List Int) := if 0 ≤ (l0.length : Int) then (if ((l0.length : Int) : Int).toNat ≤ 35184372088832 then (laws_toIntS.l0 k l0 (List.replicate ((l0.length : Int) : Int).toNat 0) 0) else (none)) else (none)
theorem laws_toIntS.mono_l : ∀ k, (∀ y0 y1 y2, LeO (laws_toIntS.l0 k y0 y1 y2) (laws_toIntS.l0 (k + 1) y0 y1 y2))
 | 0 => fun _ _ _ r h => by simp [laws_toIntS.l0] at h
 | k + 1 => by
  have ih0 := laws_toIntS.mono_l k
  ·intro y0 y1 y2
   unfold laws_toIntS.l0
   repeat' first
   | (with_reducible exact ih0 _ _ _)
   | (with_reducible exact LeO.refl _)
   | (with_reducible exact LeO.none _)
   | (with_reducible refine LeO.ite ?_ ?_)
   | (with_reducible refine LeO.bind ?_ (fun _ => ?_))
   | exact ih0 _ _ _
   | exact LeO.none _
   | refine LeO.ite ?_ ?_
   | refine LeO.bind ?_ (fun _ => ?_)
theorem laws_toIntS.mono : ∀ a0 k, LeO (laws_toIntS.f k a0) (laws_toIntS.f (k + 1) a0) := by
 intro a0 k
 have ih0 := laws_toIntS.mono_l k
 unfold laws_toIntS.f
 repeat' first
   | (with_reducible exact ih0 _ _ _)
   | (with_reducible exact LeO.refl _)
   | (with_reducible exact LeO.none _)
   | (with_reducible refine LeO.ite ?_ ?_)
   | (with_reducible refine LeO.bind ?_ (fun _ => ?_))
   | exact ih0 _ _ _
   | exact LeO.none _
   | refine LeO.ite ?_ ?_
   | refine LeO.bind ?_ (fun _ => ?_)
set_option maxHeartbeats 8000000 in
set_option maxRecDepth 100000 in
theorem laws_toIntS.calls (k : Nat) (A0 : Option Addr) (c0 : Nat) (l0 : List Int) (r : List Int) (w : World) (hr0 : Kd.C (Kd.int .i64) w A0 l0.length l0) (hc0 : l0.length ≤ c0) (h : laws_toIntS.f k l0 = some r) :
  Calls Try.prog 31 #[.slice A0 l0.length c0] w fun e w' => ∃ v0_ : Value, e = .returned (v0_) ∧ Kd.R (Kd.int .i64) 3 w' w.heap.size (fun _ => True) v0_ r ∧ Below w.heap.size w w' := by
 have HR0 := Aside0.mk hr0
 have HC0 := Aside0.mk hc0
 clear hr0 hc0
 have HB := Aside0.mk (Below.refl w.heap.size w)
 have H : (if 0 ≤ (l0.length : Int) then (if ((l0.length : Int) : Int).toNat ≤ 35184372088832 then (laws_toIntS.l0 k l0 (List.replicate ((l0.length : Int) : Int).toNat 0) 0) else (none)) else (none)) = some r := h
 clear h
 by_cases c2 : 0 ≤ (l0.length : Int)
 ·rw [if_pos c2] at H
  have c2b0 := eq_true c2
  have c2b1 : decide (0 ≤ (l0.length : Int)) = true := decide_eq_true c2
  clear c2
  by_cases c3 : ((l0.length : Int) : Int).toNat ≤ 35184372088832
  ·rw [if_pos c3] at H
   have c3b0 := eq_true c3
   have c3b1 : decide (((l0.length : Int) : Int).toNat ≤ 35184372088832) = true := decide_eq_true c3
   clear c3
   obtain ⟨y118, hy118⟩ : ∃ y_ : List Int, y_ = (List.replicate ((l0.length : Int) : Int).toNat 0) := ⟨_, rfl⟩
   replace H : (laws_toIntS.l0 k l0 y118 0) = some r := by first | (rw [hy118]; with_reducible exact H) | (have H2_ := (Option.bind_some _ _).symm.trans H; rw [hy118]; with_reducible exact H2_) | (have H2_ := (Option.bind_some _ _).symm.trans H; with_reducible exact H2_) | with_reducible exact H | (rw [hy118]; exact H) | exact H
   have Ny118 := Aside0.mk hy118
   clear hy118
   have H' := Aside0.mk H
   clear H
   go_enter Try.func31, Try.ntmps31
   go_wp2_with (first | ((with_reducible refine gate_dst (N := 7) rfl ?_); refine Kd.R_make (Kd.int .i64) _ 3 rfl (N := 7) rfl 24 _ _ rfl (l0.length : Int) rfl rfl Try.underlying24 (.int .i64 0) 8 info3 rfl (by decide) (by omega) 0 (ok := fun _ => True) (okp := fun _ => True) rfl (fun _ hk => hk) trivial (of_decide_eq_true (by first | (with_reducible assumption) | assumption)) (Nat.le_trans (Nat.mul_le_mul_right _ (of_decide_eq_true (by first | (with_reducible assumption) | assumption) : (l0.length : Int).toNat ≤ 35184372088832)) (by omega)) (Below.refl _ _) (Nat.le_refl _) ?_; intro v119 w4 ho5 hb hg_ hnew_; clear hg_ hnew_; (first | rw [← Ny118.out] at ho5 | (simp only [Int.reduceToNat] at ho5; rw [← Ny118.out] at ho5)); have n0_ := Aside0.mk (Kd.R_lower ho5 (below_size (by repeat (first | (with_reducible first | exact HB.out | apply below_alloc | apply pw_below_drewN | apply below_drew1) | exact HB.out)))); have n1_ := Aside0.mk (below_step (by repeat (first | (with_reducible first | exact HB.out | apply below_alloc | apply pw_below_drewN | apply below_drew1) | exact HB.out)) hb); clear HB; have HO120 := n0_; have HB := n1_; clear n0_ n1_; clear hb ho5))
   go_loopg [4] k (fun kq v4 w' => ∃ (x3_1 : List Int) (x4_1 : Int), v4 = .int .i64 x4_1 ∧ Aside0 (laws_toIntS.l0 kq l0 x3_1 x4_1 = some r) ∧ Aside0 (kq ≤ k) ∧ Aside0 (Kd.R (Kd.int .i64) 3 w' w.heap.size (fun _ => True) v119 x3_1) ∧ Aside0 (Below w.heap.size w w'))
   case atStart => exact ⟨(y118), (0), (by first | rfl | (simp; done) | (simp [*]; done)), H', ⟨Nat.le_refl _⟩, ⟨by (with_reducible repeat (first | apply Kd.R_alloc | apply Kd.R_drewN | apply Kd.R_drew)); exact HO120.out⟩, ⟨by repeat (first | (with_reducible first | exact HB.out | apply below_alloc | apply pw_below_drewN | apply below_drew1) | exact HB.out)⟩⟩
   case round =>
    clear H'
    try clear c2
    try clear c2b0
    try clear c2b1
    try clear p2
    try clear c3
    try clear c3b0
    try clear c3b1
    obtain ⟨x3_1, x4_1, rfl, HA, HK1, HO_3, HB⟩ := hrel
    cases gk with
    | zero => exact absurd HA.out (by simp [laws_toIntS.l0])
    | succ k1 =>
     have H := HA.out
     clear HA
     simp only [laws_toIntS.l0] at H
     by_cases c6 : x4_1 < (l0.length : Int)
     ·rw [if_pos c6] at H
      have c6b0 : decide (x4_1 < (l0.length : Int)) = true := decide_eq_true c6
      clear c6
      by_cases c7 : 0 ≤ x4_1
      ·rw [if_pos c7] at H
       have c7b0 : decide (0 ≤ x4_1) = true := decide_eq_true c7
       clear c7
       by_cases c8 : x4_1 < (x3_1.length : Int)
       ·rw [if_pos c8] at H
        have c8b0 : decide (x4_1 < (x3_1.length : Int)) = true := decide_eq_true c8
        clear c8
        obtain ⟨y122, hy122⟩ : ∃ y_ : List Int, y_ = (x3_1.set (x4_1 : Int).toNat (rd l0 x4_1)) := ⟨_, rfl⟩
        replace H : (laws_toIntS.l0 k1 l0 y122 (wrap64 (x4_1 + 1))) = some r := by first | (rw [hy122]; with_reducible exact H) | (have H2_ := (Option.bind_some _ _).symm.trans H; rw [hy122]; with_reducible exact H2_) | (have H2_ := (Option.bind_some _ _).symm.trans H; with_reducible exact H2_) | with_reducible exact H | (rw [hy122]; exact H) | exact H
        have Ny122 := Aside0.mk hy122
        clear hy122
        have H' := Aside0.mk H
        clear H
        have p121 : 0 ≤ (x4_1 : Int) := of_decide_eq_true (by first | (with_reducible assumption) | assumption)
        have q121 : x4_1 < (l0.length : Int) := of_decide_eq_true (by first | (with_reducible assumption) | assumption)
        obtain ⟨ad121, e121, hx121_0⟩ := Kd.at_int HR0.out x4_1 p121 q121
        cases e121
        replace hx121_0 := (HB.out.cell (World.block_lt_of_cell? w _ hx121_0)).trans hx121_0
        replace p121 := eq_true p121
        replace q121 := eq_true q121
        have p9 : 0 ≤ (x4_1 : Int) := of_decide_eq_true (by first | (with_reducible assumption) | assumption)
        have q9 : (x4_1 : Int) < ((x3_1.length : Int) : Int) := of_decide_eq_true (by first | (with_reducible assumption) | assumption)
        obtain ⟨go9, co9, eo9, gb9, gl9, cl9, HG9⟩ := Kd.R_form HO_3.out (by omega)
        (first | cases eo9 | (injection eo9 with ea_ en_ ec_; (first | subst ea_ | (injection ea_ with ea_; subst ea_)); subst ec_; clear en_))
        have GB9 := Aside0.mk gb9
        have GG9 := Aside0.mk HG9
        clear gb9 gl9 HG9
        obtain ⟨hx9_0, hf9_0⟩ := Kd.R_celln 0 HO_3.out (x4_1 : Int) p9 q9
        replace p9 := eq_true p9
        replace q9 := eq_true q9
        have HP10 := Kd.R_putg HO_3.out (x4_1 : Int) (rd l0 x4_1)
        go_wp2_with (first | ((with_reducible refine gate_store (t := 3) (p := 20) rfl ?_); refine store_event (t := 3) (p := 20) (v := ?vo_w11) (w1 := (wr.setCell ⟨go9, (x4_1 : Int).toNat, none⟩ (.int .i64 (rd l0 x4_1)))) ?hg ?ho ?hn ?hr ?_; (case ho => rfl); (case hg => rfl); (case hn => rfl); (case hr => first | (go_simp; done) | (go_simp; rfl) | ((try (obtain ⟨_, _, e_⟩ := Kd.R_slice HO_3.out; rw [e_])); (try (obtain ⟨_, _, e_⟩ := Kd.S_slice HO_3.out; rw [e_])); (try (obtain ⟨_, _, e_⟩ := Kd.N_slice HO_3.out; rw [e_])); (try (obtain ⟨_, _, e_⟩ := Kd.V_slice HO_3.out; rw [e_])); go_simp; first | done | rfl)); intro w11 hw; have hg : wr.grownBy w11 (some go9) := (by rw [hw]; exact HP10.2); have hp_ : Kd.R (Kd.int .i64) 3 w11 w.heap.size (fun _ => True) (.slice (some ⟨go9, 0, none⟩) x3_1.length co9) y122 := (by rw [hw, Ny122.out]; exact HP10.1); clear HP10; have n0_ := Aside0.mk (hp_); have n1_ := Aside0.mk ((by rw [hw]; exact below_set (HB.out) GB9.out : Below w.heap.size w w11)); clear HO_3; clear HB; have HO_3 := n0_; have HB := n1_; clear n0_ n1_; clear hg hw hp_))
        go_roundg k1
        case measure => have := HK1.out; omega
        case rel => exact ⟨(y122), (wrap64 (x4_1 + 1)), (by first | rfl | (simp; done) | (simp [*]; done)), H', ⟨by have := HK1.out; omega⟩, ⟨by (with_reducible repeat (first | apply Kd.R_alloc | apply Kd.R_drewN | apply Kd.R_drew)); exact HO_3.out⟩, ⟨by repeat (first | (with_reducible first | exact HB.out | apply below_alloc | apply pw_below_drewN | apply below_drew1) | exact HB.out)⟩⟩
       ·rw [if_neg c8] at H
        exact absurd H (by simp)
      ·rw [if_neg c7] at H
       exact absurd H (by simp)
     ·rw [if_neg c6] at H
      have c6b0 : decide (x4_1 < (l0.length : Int)) = false := decide_eq_false c6
      clear c6
      obtain rfl := Option.some.inj H
      go_wp2
      go_ret
      exact ⟨_, by first | rfl | (simp [errW_none, errW_some] <;> rfl) | (simp [*, errW_none, errW_some] <;> rfl), by (with_reducible repeat (first | apply Kd.R_alloc | apply Kd.R_drewN | apply Kd.R_drew)); exact HO_3.out, by repeat (first | (with_reducible first | exact HB.out | apply below_alloc | apply pw_below_drewN | apply below_drew1) | exact HB.out)⟩
  ·rw [if_neg c3] at H
   exact absurd H (by simp)
 ·rw [if_neg c2] at H
  exact absurd H (by simp)
end Go.Proofs.Ytkolhpmhbgbphaa.P
namespace Go.Proofs.Ytkolhpmhbgbphaa.P
open Go.RowKit Go.Proofs.YtkolhpmhbgbphaaW.PrintWords Go.Proofs.YtkolhpmhbgbphaaW.PrintLast Go.Proofs.YtkolhpmhbgbphaaW.PrintMore
attribute [local go_sem] max2_int min2_int max_two min_two max_three min_three max_four min_four
set_option linter.unusedVariables false
set_option linter.unusedSimpArgs false
def laws_toIntSS.l0 : Nat → List (List Int) → List (List Int) → Int → Option ((List (List Int)))
 | 0, _, _, _ => none
 | k + 1, x0, x3, x4 => if x4 < (x0.length : Int) then (if 0 ≤ x4 then ((laws_toIntS.f k (rd_L1 x0 x4)).bind fun t127 => (if x4 < (x3.length : Int) then (laws_toIntSS.l0 k x0 (x3.set (x4 : Int).toNat t127) (wrap64 (x4 + 1))) else (none))) else (none)) else (some x3)
def laws_toIntSS.f (k : Nat) (l0 : List (List Int)) : Option ((List (List Int))) := if 0 ≤ (l0.length : Int) then (if ((l0.length : Int) : Int).toNat ≤ 11728124029610 then (laws_toIntSS.l0 k l0 (List.replicate ((l0.length : Int) : Int).toNat []) 0) else (none)) else (none)
theorem laws_toIntSS.mono_l : ∀ k, (∀ y0 y1 y2, LeO (laws_toIntSS.l0 k y0 y1 y2) (laws_toIntSS.l0 (k + 1) y0 y1 y2))
 | 0 => fun _ _ _ r h => by simp [laws_toIntSS.l0] at h
 | k + 1 => by
  have ih0 := laws_toIntSS.mono_l k
  ·intro y0 y1 y2
   unfold laws_toIntSS.l0
   repeat' first
   | (with_reducible exact ih0 _ _ _)
   | (with_reducible exact laws_toIntS.mono _ _)
   | (with_reducible exact LeO.refl _)
   | (with_reducible exact LeO.none _)
   | (with_reducible refine LeO.ite ?_ ?_)
   | (with_reducible refine LeO.bind ?_ (fun _ => ?_))
   | exact ih0 _ _ _
   | exact laws_toIntS.mono _ _
   | exact LeO.none _
   | refine LeO.ite ?_ ?_
   | refine LeO.bind ?_ (fun _ => ?_)
theorem laws_toIntSS.mono : ∀ a0 k, LeO (laws_toIntSS.f k a0) (laws_toIntSS.f (k + 1) a0) := by
 intro a0 k
 have ih0 := laws_toIntSS.mono_l k
 unfold laws_toIntSS.f
 repeat' first
   | (with_reducible exact ih0 _ _ _)
   | (with_reducible exact laws_toIntS.mono _ _)
   | (with_reducible exact LeO.refl _)
   | (with_reducible exact LeO.none _)
   | (with_reducible refine LeO.ite ?_ ?_)
   | (with_reducible refine LeO.bind ?_ (fun _ => ?_))
   | exact ih0 _ _ _
   | exact laws_toIntS.mono _ _
   | exact LeO.none _
   | refine LeO.ite ?_ ?_
   | refine LeO.bind ?_ (fun _ => ?_)
set_option maxHeartbeats 8000000 in
set_option maxRecDepth 100000 in
theorem laws_toIntSS.calls (k : Nat) (A0 : Option Addr) (c0 : Nat) (l0 : List (List Int)) (r : List (List Int)) (w : World) (hr0 : Kd.C (Kd.slice 3 (Kd.int .i64)) w A0 l0.length l0) (hc0 : l0.length ≤ c0) (h : laws_toIntSS.f k l0 = some r) :
  Calls Try.prog 14 #[.slice A0 l0.length c0] w fun e w' => ∃ v0_ : Value, e = .returned (v0_) ∧ Kd.S (Kd.slice 3 (Kd.int .i64)) 24 w' w.heap.size (fun _ => True) v0_ r ∧ Below w.heap.size w w' := by
 have HR0 := Aside0.mk hr0
 have HC0 := Aside0.mk hc0
 clear hr0 hc0
 have HB := Aside0.mk (Below.refl w.heap.size w)
 have H : (if 0 ≤ (l0.length : Int) then (if ((l0.length : Int) : Int).toNat ≤ 11728124029610 then (laws_toIntSS.l0 k l0 (List.replicate ((l0.length : Int) : Int).toNat []) 0) else (none)) else (none)) = some r := h
 clear h
 by_cases c2 : 0 ≤ (l0.length : Int)
 ·rw [if_pos c2] at H
  have c2b0 := eq_true c2
  have c2b1 : decide (0 ≤ (l0.length : Int)) = true := decide_eq_true c2
  clear c2
  by_cases c3 : ((l0.length : Int) : Int).toNat ≤ 11728124029610
  ·rw [if_pos c3] at H
   have c3b0 := eq_true c3
   have c3b1 : decide (((l0.length : Int) : Int).toNat ≤ 11728124029610) = true := decide_eq_true c3
   clear c3
   obtain ⟨y123, hy123⟩ : ∃ y_ : List (List Int), y_ = (List.replicate ((l0.length : Int) : Int).toNat []) := ⟨_, rfl⟩
   replace H : (laws_toIntSS.l0 k l0 y123 0) = some r := by first | (rw [hy123]; with_reducible exact H) | (have H2_ := (Option.bind_some _ _).symm.trans H; rw [hy123]; with_reducible exact H2_) | (have H2_ := (Option.bind_some _ _).symm.trans H; with_reducible exact H2_) | with_reducible exact H | (rw [hy123]; exact H) | exact H
   have Ny123 := Aside0.mk hy123
   clear hy123
   have H' := Aside0.mk H
   clear H
   go_enter Try.func14, Try.ntmps14
   go_wp2_with (first | ((with_reducible refine gate_dst (N := 7) rfl ?_); refine Kd.S_make (Kd.slice 3 (Kd.int .i64)) _ 24 rfl (N := 7) rfl 22 _ _ rfl (l0.length : Int) rfl rfl Try.underlying22 (.slice none 0 0) 24 info24 rfl (by decide) (by omega) [] (ok := fun _ => True) (okp := fun _ => True) ⟨_, rfl, Kd.R_nil _ _ _ _ _⟩ (fun _ hk => hk) trivial (of_decide_eq_true (by first | (with_reducible assumption) | assumption)) (Nat.le_trans (Nat.mul_le_mul_right _ (of_decide_eq_true (by first | (with_reducible assumption) | assumption) : (l0.length : Int).toNat ≤ 11728124029610)) (by omega)) (Below.refl _ _) (Nat.le_refl _) ?_; intro v124 w4 ho5 hb hg_ hnew_; clear hg_ hnew_; (first | rw [← Ny123.out] at ho5 | (simp only [Int.reduceToNat] at ho5; rw [← Ny123.out] at ho5)); have n0_ := Aside0.mk (Kd.S_lower ho5 (below_size (by repeat (first | (with_reducible first | exact HB.out | apply below_alloc | apply pw_below_drewN | apply below_drew1) | exact HB.out)))); have n1_ := Aside0.mk (below_step (by repeat (first | (with_reducible first | exact HB.out | apply below_alloc | apply pw_below_drewN | apply below_drew1) | exact HB.out)) hb); clear HB; have HO125 := n0_; have HB := n1_; clear n0_ n1_; clear hb ho5))
   go_loopg [4] k (fun kq v4 w' => ∃ (x3_1 : List (List Int)) (x4_1 : Int), v4 = .int .i64 x4_1 ∧ Aside0 (laws_toIntSS.l0 kq l0 x3_1 x4_1 = some r) ∧ Aside0 (kq ≤ k) ∧ Aside0 (Kd.S (Kd.slice 3 (Kd.int .i64)) 24 w' w.heap.size (fun _ => True) v124 x3_1) ∧ Aside0 (Below w.heap.size w w'))
   case atStart => exact ⟨(y123), (0), (by first | rfl | (simp; done) | (simp [*]; done)), H', ⟨Nat.le_refl _⟩, ⟨by (with_reducible repeat (first | apply Kd.S_alloc | apply Kd.S_drewN | apply Kd.S_drew)); exact HO125.out⟩, ⟨by repeat (first | (with_reducible first | exact HB.out | apply below_alloc | apply pw_below_drewN | apply below_drew1) | exact HB.out)⟩⟩
   case round =>
    clear H'
    try clear c1
    try clear c2
    try clear c2b0
    try clear c2b1
    try clear p2
    try clear c3
    try clear c3b0
    try clear c3b1
    obtain ⟨x3_1, x4_1, rfl, HA, HK1, HO_3, HB⟩ := hrel
    cases gk with
    | zero => exact absurd HA.out (by simp [laws_toIntSS.l0])
    | succ k1 =>
     have H := HA.out
     clear HA
     simp only [laws_toIntSS.l0] at H
     by_cases c6 : x4_1 < (l0.length : Int)
     ·rw [if_pos c6] at H
      have c6b0 : decide (x4_1 < (l0.length : Int)) = true := decide_eq_true c6
      clear c6
      by_cases c7 : 0 ≤ x4_1
      ·rw [if_pos c7] at H
       have c7b0 : decide (0 ≤ x4_1) = true := decide_eq_true c7
       clear c7
       replace H := Option.bind_eq_some_iff.mp H
       obtain ⟨t127, A80, H⟩ := H
       replace H : (if x4_1 < (x3_1.length : Int) then (laws_toIntSS.l0 k1 l0 (x3_1.set (x4_1 : Int).toNat t127) (wrap64 (x4_1 + 1))) else (none)) = some r := H
       have A8 := Aside0.mk A80
       clear A80
       by_cases c9 : x4_1 < (x3_1.length : Int)
       ·rw [if_pos c9] at H
        have c9b0 : decide (x4_1 < (x3_1.length : Int)) = true := decide_eq_true c9
        clear c9
        obtain ⟨y130, hy130⟩ : ∃ y_ : List (List Int), y_ = (x3_1.set (x4_1 : Int).toNat t127) := ⟨_, rfl⟩
        replace H : (laws_toIntSS.l0 k1 l0 y130 (wrap64 (x4_1 + 1))) = some r := by first | (rw [hy130]; with_reducible exact H) | (have H2_ := (Option.bind_some _ _).symm.trans H; rw [hy130]; with_reducible exact H2_) | (have H2_ := (Option.bind_some _ _).symm.trans H; with_reducible exact H2_) | with_reducible exact H | (rw [hy130]; exact H) | exact H
        have Ny130 := Aside0.mk hy130
        clear hy130
        have H' := Aside0.mk H
        clear H
        have p126 : 0 ≤ (x4_1 : Int) := of_decide_eq_true (by first | (with_reducible assumption) | assumption)
        have q126 : x4_1 < (l0.length : Int) := of_decide_eq_true (by first | (with_reducible assumption) | assumption)
        obtain ⟨ad126, A126_0, c126_0, e126, hx126_0, hl126_0, hi126_0⟩ := at_L1 HR0.out x4_1 p126 q126
        cases e126
        replace hx126_0 := (HB.out.cell (World.block_lt_of_cell? w _ hx126_0)).trans hx126_0
        have HR126_0 := Aside0.mk hi126_0
        have HC126_0 := Aside0.mk hl126_0
        clear hi126_0 hl126_0
        replace p126 := eq_true p126
        replace q126 := eq_true q126
        go_wp2_with (first | ((with_reducible refine gate_callee (f := 31) rfl ?_); refine goesL_ (some 20) rfl rfl Try.func31 (by kernel_rfl) rfl #[.slice A126_0 (rd_L1 l0 x4_1).length c126_0] rfl (by (try simp only [List.map_toArray, List.map_cons, List.map_nil]); first | done | rfl | (simp only [List.length_drop, List.length_take]; rfl)) ?_; (with_reducible refine (laws_toIntS.calls k1 _ _ (rd_L1 l0 x4_1) t127 _ ?side1 ?side2 A8.out).mono ?_); (case side1 => repeat (first | exact (Kd.C_below HR126_0.out HB.out) | (with_reducible refine Kd.C_alloc ?_ _) | (with_reducible refine Kd.C_drewN ?_ _) | (with_reducible refine Kd.C_drew ?_))); (case side2 => exact HC126_0.out); rintro e w11 ⟨v128, rfl, ho0, hb⟩; refine ⟨_, rfl, ?_⟩; have n0_ := Aside0.mk (Kd.S_elder' (by (with_reducible repeat (first | apply Kd.S_alloc | apply Kd.S_drewN | apply Kd.S_drew)); exact HO_3.out) (Kd.R_base ho0) hb); have n1_ := Aside0.mk (Kd.R_lower ho0 (below_size (by repeat (first | (with_reducible first | exact HB.out | apply below_alloc | apply pw_below_drewN | apply below_drew1) | exact HB.out)))); have n2_ := Aside0.mk (below_step (by repeat (first | (with_reducible first | exact HB.out | apply below_alloc | apply pw_below_drewN | apply below_drew1) | exact HB.out)) hb); clear HO_3; clear HB; have HO_3 := n0_; have HO129 := n1_; have HB := n2_; clear n0_ n1_ n2_; (try clear hb); (try clear hb2); (try clear hk); (try clear hi); (try clear ho0); have p10 : 0 ≤ (x4_1 : Int) := of_decide_eq_true (by first | (with_reducible assumption) | assumption); have q10 : (x4_1 : Int) < ((x3_1.length : Int) : Int) := of_decide_eq_true (by first | (with_reducible assumption) | assumption); obtain ⟨go10, co10, eo10, gb10, gl10, cl10, HG10⟩ := Kd.S_form HO_3.out (by omega); (first | cases eo10 | (injection eo10 with ea_ en_ ec_; (first | subst ea_ | (injection ea_ with ea_; subst ea_)); subst ec_; clear en_)); have GB10 := Aside0.mk gb10; have GG10 := Aside0.mk HG10; clear gb10 gl10 HG10; obtain ⟨_, ce10, hcl10, hM10, hcc10, hfr10, _, _⟩ := Kd.S_elem HO_3.out [] (x4_1 : Int) p10 q10; obtain ⟨ve10_0, rfl, ge10_0⟩ := hM10; have hx10_0 := hcc10 0 _ rfl; have hf10_0 := hfr10 0; (try simp only [show ((Kd.slice 3 (Kd.int .i64))).sz = 1 from rfl, Nat.mul_one, Nat.add_zero] at hx10_0); (try simp only [show ((Kd.slice 3 (Kd.int .i64))).sz = 1 from rfl, Nat.mul_one, Nat.add_zero] at hf10_0); clear hcl10 hcc10 hfr10; (try clear hM10); replace p10 := eq_true p10; replace q10 := eq_true q10; have n_ := Aside0.mk (Kd.S_mono (ok' := (fun k_ => some k_ ≠ (v128 : Value).ownBlock)) HO_3.out (fun k_ hk => hk.2)); clear HO_3; have HO_3 := n_; clear n_; have HX12 := Aside0.mk (show Kd.S (Kd.slice 3 (Kd.int .i64)) 24 w11 w.heap.size (fun k_ => ((fun _ => True)) k_ ∧ ¬ ((fun k_ => some k_ = (v128 : Value).ownBlock)) k_) (.slice (some ⟨go10, 0, none⟩) x3_1.length co10) x3_1 from (by (with_reducible repeat (first | apply Kd.S_alloc | apply Kd.S_drewN | apply Kd.S_drew)); exact Kd.S_mono HO_3.out (fun k_ hk => ⟨trivial, fun e_ => hk e_⟩))); obtain ⟨oki12, ce12, hcl12, hM12, hcc12, hfr12, hoki12, hH12⟩ := Kd.S_elem HX12.out [] (x4_1 : Int) (of_decide_eq_true (by first | (with_reducible assumption) | assumption)) (by have h_ : (x4_1 : Int) < ((x3_1.length : Int) : Int) := of_decide_eq_true (by first | (with_reducible assumption) | assumption); first | exact h_ | (have e_ := (Kd.S_reads' HO_3.out).1; omega) | simpa using h_); obtain ⟨ve12_0, rfl, ge12_0⟩ := hM12; have HP12 := Kd.S_seg hH12 (of_decide_eq_true (by first | (with_reducible assumption) | assumption)) (by have h_ : (x4_1 : Int) < ((x3_1.length : Int) : Int) := of_decide_eq_true (by first | (with_reducible assumption) | assumption); first | exact h_ | (have e_ := (Kd.S_reads' HO_3.out).1; omega) | simpa using h_) (seg := [v128]) (j := 0) (show 1 ≤ 1 from by decide) (x' := t127) (Kd.M_row (Kd.R_mono (Kd.R_tight rfl (Kd.R_mono (ok' := fun k_ => ((fun _ => True)) k_ ∧ k_ ≠ go10) (Kd.R_apart' (HO129.out) (Kd.S_typed HO_3.out) (by decide)) (fun k_ hk => ⟨trivial, fun e_ => (hk.2) (by rw [e_]; rfl)⟩))) (fun _ h_ => Or.inr (h_)))) (fun _ hk => hk) (fun k_ hk_ => ((Kd.R_mono (ok' := fun k_ => ((fun _ => True)) k_ ∧ k_ ≠ go10) (Kd.R_apart' (HO129.out) (Kd.S_typed HO_3.out) (by decide)) (fun k_ hk => ⟨trivial, fun e_ => (hk.2) (by rw [e_]; rfl)⟩))).1 k_ hk_.symm); have hx12_0 := hcc12 0 _ rfl; (try simp only [show ((Kd.slice 3 (Kd.int .i64))).sz = 1 from rfl, Nat.mul_one, Nat.add_zero] at hx12_0); have hf12_0 := hfr12 0; (try simp only [show ((Kd.slice 3 (Kd.int .i64))).sz = 1 from rfl, Nat.mul_one, Nat.add_zero] at hf12_0); clear hcl12 hcc12 hfr12; (try clear hM12); clear hoki12 hH12; (try simp only [show ((Kd.slice 3 (Kd.int .i64))).sz = 1 from rfl, Nat.mul_one, Nat.add_zero] at HP12)) | ((with_reducible refine gate_store (t := 24) (p := 21) rfl ?_); refine store_event (t := 24) (p := 21) (v := ?vo_w13) (w1 := (w11.setCell ⟨go10, (x4_1 : Int).toNat, none⟩ (v128))) ?hg ?ho ?hn ?hr ?_; (case ho => rfl); (case hg => rfl); (case hn => rfl); (case hr => first | (go_simp; done) | (go_simp; rfl) | ((try (obtain ⟨_, _, e_⟩ := Kd.R_slice HO_3.out; rw [e_])); (try (obtain ⟨_, _, e_⟩ := Kd.S_slice HO_3.out; rw [e_])); (try (obtain ⟨_, _, e_⟩ := Kd.N_slice HO_3.out; rw [e_])); (try (obtain ⟨_, _, e_⟩ := Kd.V_slice HO_3.out; rw [e_])); (try (obtain ⟨_, _, e_⟩ := Kd.R_slice HO129.out; rw [e_])); (try (obtain ⟨_, _, e_⟩ := Kd.S_slice HO129.out; rw [e_])); (try (obtain ⟨_, _, e_⟩ := Kd.N_slice HO129.out; rw [e_])); (try (obtain ⟨_, _, e_⟩ := Kd.V_slice HO129.out; rw [e_])); go_simp; first | done | rfl)); intro w13 hw; have hg : w11.grownBy w13 (some go10) := (by rw [hw]; exact HP12.2); have hp_ : Kd.S (Kd.slice 3 (Kd.int .i64)) 24 w13 w.heap.size (fun _ => True) (.slice (some ⟨go10, 0, none⟩) x3_1.length co10) y130 := (by rw [hw, Ny130.out]; exact HP12.1); clear HP12; have n0_ := Aside0.mk (hp_); have n1_ := Aside0.mk ((by rw [hw]; exact below_set (HB.out) GB10.out : Below w.heap.size w w13)); clear HO_3; clear HB; clear HO129; have HO_3 := n0_; have HB := n1_; clear n0_ n1_; clear hg hw hp_))
        go_roundg k1
        case measure => have := HK1.out; omega
        case rel => exact ⟨(y130), (wrap64 (x4_1 + 1)), (by first | rfl | (simp; done) | (simp [*]; done)), H', ⟨by have := HK1.out; omega⟩, ⟨by (with_reducible repeat (first | apply Kd.S_alloc | apply Kd.S_drewN | apply Kd.S_drew)); exact HO_3.out⟩, ⟨by repeat (first | (with_reducible first | exact HB.out | apply below_alloc | apply pw_below_drewN | apply below_drew1) | exact HB.out)⟩⟩
       ·rw [if_neg c9] at H
        exact absurd H (by simp)
      ·rw [if_neg c7] at H
       exact absurd H (by simp)
     ·rw [if_neg c6] at H
      have c6b0 : decide (x4_1 < (l0.length : Int)) = false := decide_eq_false c6
      clear c6
      obtain rfl := Option.some.inj H
      go_wp2
      go_ret
      exact ⟨_, by first | rfl | (simp [errW_none, errW_some] <;> rfl) | (simp [*, errW_none, errW_some] <;> rfl), by (with_reducible repeat (first | apply Kd.S_alloc | apply Kd.S_drewN | apply Kd.S_drew)); exact HO_3.out, by repeat (first | (with_reducible first | exact HB.out | apply below_alloc | apply pw_below_drewN | apply below_drew1) | exact HB.out)⟩
  ·rw [if_neg c3] at H
   exact absurd H (by simp)
 ·rw [if_neg c2] at H
  exact absurd H (by simp)
end Go.Proofs.Ytkolhpmhbgbphaa.P
namespace Go.Proofs.Ytkolhpmhbgbphaa.P
open Go.RowKit Go.Proofs.YtkolhpmhbgbphaaW.PrintWords Go.Proofs.YtkolhpmhbgbphaaW.PrintLast Go.Proofs.YtkolhpmhbgbphaaW.PrintMore
attribute [local go_sem] max2_int min2_int max_two min_two max_three min_three max_four min_four
set_option linter.unusedVariables false
set_option linter.unusedSimpArgs false
def laws_eqIntS.l0 : Nat → List Int → List Int → Int → Option (Bool)
 | 0, _, _, _ => none
 | k + 1, x0, x1, x5 => if x5 < (x0.length : Int) then (if 0 ≤ x5 then (if x5 < (x1.length : Int) then (if (rd x0 x5) = (rd x1 x5) then (laws_eqIntS.l0 k x0 x1 (wrap64 (x5 + 1))) else (some false)) else (none)) else (none)) else (some true)
def laws_eqIntS.f (k : Nat) (l0 : List Int) (l1 : List Int) : Option (Bool) := if (l0.length : Int) = (l1.length : Int) then (laws_eqIntS.l0 k l0 l1 0) else (some false)
theorem laws_eqIntS.mono_l : ∀ k, (∀ y0 y1 y2, LeO (laws_eqIntS.l0 k y0 y1 y2) (laws_eqIntS.l0 (k + 1) y0 y1 y2))
 | 0 => fun _ _ _ r h => by simp [laws_eqIntS.l0] at h
 | k + 1 => by
  have ih0 := laws_eqIntS.mono_l k
  ·intro y0 y1 y2
   unfold laws_eqIntS.l0
   repeat' first
   | (with_reducible exact ih0 _ _ _)
   | (with_reducible exact LeO.refl _)
   | (with_reducible exact LeO.none _)
   | (with_reducible refine LeO.ite ?_ ?_)
   | (with_reducible refine LeO.bind ?_ (fun _ => ?_))
   | exact ih0 _ _ _
   | exact LeO.none _
   | refine LeO.ite ?_ ?_
   | refine LeO.bind ?_ (fun _ => ?_)
theorem laws_eqIntS.mono : ∀ a0 a1 k, LeO (laws_eqIntS.f k a0 a1) (laws_eqIntS.f (k + 1) a0 a1) := by
 intro a0 a1 k
 have ih0 := laws_eqIntS.mono_l k
 unfold laws_eqIntS.f
 repeat' first
   | (with_reducible exact ih0 _ _ _)
   | (with_reducible exact LeO.refl _)
   | (with_reducible exact LeO.none _)
   | (with_reducible refine LeO.ite ?_ ?_)
   | (with_reducible refine LeO.bind ?_ (fun _ => ?_))
   | exact ih0 _ _ _
   | exact LeO.none _
   | refine LeO.ite ?_ ?_
   | refine LeO.bind ?_ (fun _ => ?_)
set_option maxHeartbeats 8000000 in
set_option maxRecDepth 100000 in
theorem laws_eqIntS.calls (k : Nat) (A0 : Option Addr) (c0 : Nat) (l0 : List Int) (A1 : Option Addr) (c1 : Nat) (l1 : List Int) (r : Bool) (w : World) (hr0 : Kd.C (Kd.int .i64) w A0 l0.length l0) (hc0 : l0.length ≤ c0) (hr1 : Kd.C (Kd.int .i64) w A1 l1.length l1) (hc1 : l1.length ≤ c1) (h : laws_eqIntS.f k l0 l1 = some r) :
  Calls Try.prog 16 #[.slice A0 l0.length c0, .slice A1 l1.length c1] w fun e w' => e = .returned (.bool r) ∧ Drawn0 w w' := by
 have HR0 := Aside0.mk hr0
 have HC0 := Aside0.mk hc0
 clear hr0 hc0
 have HR1 := Aside0.mk hr1
 have HC1 := Aside0.mk hc1
 clear hr1 hc1
 have H : (if (l0.length : Int) = (l1.length : Int) then (laws_eqIntS.l0 k l0 l1 0) else (some false)) = some r := h
 clear h
 by_cases c3 : (l0.length : Int) = (l1.length : Int)
 ·rw [if_pos c3] at H
  have c3b0 : ((l0.length : Int) == (l1.length : Int)) = true := beq_iff_eq.mpr c3
  have c3b1 : ((l0.length : Int) != (l1.length : Int)) = false := bne_eq_false_iff_eq.mpr c3
  have c3b2 : (l0.length == l1.length) = true := by first | simpa using c3 | (simp at c3 ⊢; omega)
  clear c3
  have H' := Aside0.mk H
  clear H
  go_enter Try.func16, Try.ntmps16
  go_wp2
  repeat (go_quiet (fail); try go_wp2)
  go_loopg [5] k (fun kq v5 w' => ∃ (x5_1 : Int), v5 = .int .i64 x5_1 ∧ Aside0 (laws_eqIntS.l0 kq l0 l1 x5_1 = some r) ∧ Aside0 (kq ≤ k) ∧ Drawn0 w w')
  case atStart => exact ⟨(0), (by first | rfl | (simp; done) | (simp [*]; done)), H', ⟨Nat.le_refl _⟩, by repeat (first | exact Drawn0.refl _ | apply Drawn0.step)⟩
  case round =>
   clear H'
   try clear c1
   try clear p2
   try clear c3
   try clear c3b0
   try clear c3b1
   try clear c3b2
   obtain ⟨x5_1, rfl, HA, HK1, ⟨m1, rfl⟩⟩ := hrel
   cases gk with
   | zero => exact absurd HA.out (by simp [laws_eqIntS.l0])
   | succ k1 =>
    have H := HA.out
    clear HA
    simp only [laws_eqIntS.l0] at H
    by_cases c4 : x5_1 < (l0.length : Int)
    ·rw [if_pos c4] at H
     have c4b0 : decide (x5_1 < (l0.length : Int)) = true := decide_eq_true c4
     clear c4
     by_cases c5 : 0 ≤ x5_1
     ·rw [if_pos c5] at H
      have c5b0 : decide (0 ≤ x5_1) = true := decide_eq_true c5
      clear c5
      by_cases c6 : x5_1 < (l1.length : Int)
      ·rw [if_pos c6] at H
       have c6b0 : decide (x5_1 < (l1.length : Int)) = true := decide_eq_true c6
       clear c6
       by_cases c7 : (rd l0 x5_1) = (rd l1 x5_1)
       ·rw [if_pos c7] at H
        have c7b0 : ((rd l0 x5_1) == (rd l1 x5_1)) = true := beq_iff_eq.mpr c7
        have c7b1 : ((rd l0 x5_1) != (rd l1 x5_1)) = false := bne_eq_false_iff_eq.mpr c7
        clear c7
        have H' := Aside0.mk H
        clear H
        have p135 : 0 ≤ (x5_1 : Int) := of_decide_eq_true (by first | (with_reducible assumption) | assumption)
        have q135 : x5_1 < (l0.length : Int) := of_decide_eq_true (by first | (with_reducible assumption) | assumption)
        obtain ⟨ad135, e135, hx135_0⟩ := Kd.at_int HR0.out x5_1 p135 q135
        cases e135
        replace p135 := eq_true p135
        replace q135 := eq_true q135
        have p136 : 0 ≤ (x5_1 : Int) := of_decide_eq_true (by first | (with_reducible assumption) | assumption)
        have q136 : x5_1 < (l1.length : Int) := of_decide_eq_true (by first | (with_reducible assumption) | assumption)
        obtain ⟨ad136, e136, hx136_0⟩ := Kd.at_int HR1.out x5_1 p136 q136
        cases e136
        replace p136 := eq_true p136
        replace q136 := eq_true q136
        go_wp2
        repeat (go_quiet (fail); try go_wp2)
        go_roundg k1
        case measure => have := HK1.out; omega
        case rel => exact ⟨(wrap64 (x5_1 + 1)), (by first | rfl | (simp; done) | (simp [*]; done)), H', ⟨by have := HK1.out; omega⟩, by repeat (first | exact Drawn0.refl _ | apply Drawn0.step)⟩
       ·rw [if_neg c7] at H
        have c7b0 : ((rd l0 x5_1) == (rd l1 x5_1)) = false := beq_eq_false_iff_ne.mpr c7
        have c7b1 : ((rd l0 x5_1) != (rd l1 x5_1)) = true := bne_iff_ne.mpr c7
        obtain rfl := Option.some.inj H
        have p135 : 0 ≤ (x5_1 : Int) := of_decide_eq_true (by first | (with_reducible assumption) | assumption)
        have q135 : x5_1 < (l0.length : Int) := of_decide_eq_true (by first | (with_reducible assumption) | assumption)
        obtain ⟨ad135, e135, hx135_0⟩ := Kd.at_int HR0.out x5_1 p135 q135
        cases e135
        replace p135 := eq_true p135
        replace q135 := eq_true q135
        have p136 : 0 ≤ (x5_1 : Int) := of_decide_eq_true (by first | (with_reducible assumption) | assumption)
        have q136 : x5_1 < (l1.length : Int) := of_decide_eq_true (by first | (with_reducible assumption) | assumption)
        obtain ⟨ad136, e136, hx136_0⟩ := Kd.at_int HR1.out x5_1 p136 q136
        cases e136
        replace p136 := eq_true p136
        replace q136 := eq_true q136
        go_wp2
        repeat (go_quiet (fail); try go_wp2)
        go_ret
        exact ⟨by first | rfl | (simp; done) | (simp [*]; done), by repeat (first | exact Drawn0.refl _ | apply Drawn0.step)⟩
      ·rw [if_neg c6] at H
       exact absurd H (by simp)
     ·rw [if_neg c5] at H
      exact absurd H (by simp)
    ·rw [if_neg c4] at H
     have c4b0 : decide (x5_1 < (l0.length : Int)) = false := decide_eq_false c4
     clear c4
     obtain rfl := Option.some.inj H
     go_wp2
     repeat (go_quiet (fail); try go_wp2)
     go_ret
     exact ⟨by first | rfl | (simp; done) | (simp [*]; done), by repeat (first | exact Drawn0.refl _ | apply Drawn0.step)⟩
 ·rw [if_neg c3] at H
  have c3b0 : ((l0.length : Int) == (l1.length : Int)) = false := beq_eq_false_iff_ne.mpr c3
  have c3b1 : ((l0.length : Int) != (l1.length : Int)) = true := bne_iff_ne.mpr c3
  have c3b2 : (l0.length == l1.length) = false := by first | simpa using c3 | (simp at c3 ⊢; omega)
  obtain rfl := Option.some.inj H
  go_enter Try.func16, Try.ntmps16
  go_wp2
  repeat (go_quiet (fail); try go_wp2)
  go_ret
  exact ⟨by first | rfl | (simp; done) | (simp [*]; done), by repeat (first | exact Drawn0.refl _ | apply Drawn0.step)⟩
end Go.Proofs.Ytkolhpmhbgbphaa.P
namespace Go.Proofs.Ytkolhpmhbgbphaa.P
open Go.RowKit Go.Proofs.YtkolhpmhbgbphaaW.PrintWords Go.Proofs.YtkolhpmhbgbphaaW.PrintLast Go.Proofs.YtkolhpmhbgbphaaW.PrintMore
attribute [local go_sem] max2_int min2_int max_two min_two max_three min_three max_four min_four
set_option linter.unusedVariables false
set_option linter.unusedSimpArgs false
def laws_eqIntSS.l0 : Nat → List (List Int) → List (List Int) → Int → Option (Bool)
 | 0, _, _, _ => none
 | k + 1, x0, x1, x5 => if x5 < (x0.length : Int) then (if 0 ≤ x5 then (if x5 < (x1.length : Int) then ((laws_eqIntS.f k (rd_L1 x0 x5) (rd_L1 x1 x5)).bind fun t139 => (if t139 = true then (laws_eqIntSS.l0 k x0 x1 (wrap64 (x5 + 1))) else (some false))) else (none)) else (none)) else (some true)
def laws_eqIntSS.f (k : Nat) (l0 : List (List Int)) (l1 : List (List Int)) : Option (Bool) := if (l0.length : Int) = (l1.length : Int) then (laws_eqIntSS.l0 k l0 l1 0) else (some false)
theorem laws_eqIntSS.mono_l : ∀ k, (∀ y0 y1 y2, LeO (laws_eqIntSS.l0 k y0 y1 y2) (laws_eqIntSS.l0 (k + 1) y0 y1 y2))
 | 0 => fun _ _ _ r h => by simp [laws_eqIntSS.l0] at h
 | k + 1 => by
  have ih0 := laws_eqIntSS.mono_l k
  ·intro y0 y1 y2
   unfold laws_eqIntSS.l0
   repeat' first
   | (with_reducible exact ih0 _ _ _)
   | (with_reducible exact laws_eqIntS.mono _ _ _)
   | (with_reducible exact LeO.refl _)
   | (with_reducible exact LeO.none _)
   | (with_reducible refine LeO.ite ?_ ?_)
   | (with_reducible refine LeO.bind ?_ (fun _ => ?_))
   | exact ih0 _ _ _
   | exact laws_eqIntS.mono _ _ _
   | exact LeO.none _
   | refine LeO.ite ?_ ?_
   | refine LeO.bind ?_ (fun _ => ?_)
theorem laws_eqIntSS.mono : ∀ a0 a1 k, LeO (laws_eqIntSS.f k a0 a1) (laws_eqIntSS.f (k + 1) a0 a1) := by
 intro a0 a1 k
 have ih0 := laws_eqIntSS.mono_l k
 unfold laws_eqIntSS.f
 repeat' first
   | (with_reducible exact ih0 _ _ _)
   | (with_reducible exact laws_eqIntS.mono _ _ _)
   | (with_reducible exact LeO.refl _)
   | (with_reducible exact LeO.none _)
   | (with_reducible refine LeO.ite ?_ ?_)
   | (with_reducible refine LeO.bind ?_ (fun _ => ?_))
   | exact ih0 _ _ _
   | exact laws_eqIntS.mono _ _ _
   | exact LeO.none _
   | refine LeO.ite ?_ ?_
   | refine LeO.bind ?_ (fun _ => ?_)
set_option maxHeartbeats 8000000 in
set_option maxRecDepth 100000 in
theorem laws_eqIntSS.calls (k : Nat) (A0 : Option Addr) (c0 : Nat) (l0 : List (List Int)) (A1 : Option Addr) (c1 : Nat) (l1 : List (List Int)) (r : Bool) (w : World) (hr0 : Kd.C (Kd.slice 3 (Kd.int .i64)) w A0 l0.length l0) (hc0 : l0.length ≤ c0) (hr1 : Kd.C (Kd.slice 3 (Kd.int .i64)) w A1 l1.length l1) (hc1 : l1.length ≤ c1) (h : laws_eqIntSS.f k l0 l1 = some r) :
  Calls Try.prog 17 #[.slice A0 l0.length c0, .slice A1 l1.length c1] w fun e w' => e = .returned (.bool r) ∧ Drawn0 w w' := by
 have HR0 := Aside0.mk hr0
 have HC0 := Aside0.mk hc0
 clear hr0 hc0
 have HR1 := Aside0.mk hr1
 have HC1 := Aside0.mk hc1
 clear hr1 hc1
 have H : (if (l0.length : Int) = (l1.length : Int) then (laws_eqIntSS.l0 k l0 l1 0) else (some false)) = some r := h
 clear h
 by_cases c3 : (l0.length : Int) = (l1.length : Int)
 ·rw [if_pos c3] at H
  have c3b0 : ((l0.length : Int) == (l1.length : Int)) = true := beq_iff_eq.mpr c3
  have c3b1 : ((l0.length : Int) != (l1.length : Int)) = false := bne_eq_false_iff_eq.mpr c3
  have c3b2 : (l0.length == l1.length) = true := by first | simpa using c3 | (simp at c3 ⊢; omega)
  clear c3
  have H' := Aside0.mk H
  clear H
  go_enter Try.func17, Try.ntmps17
  go_wp2
  repeat (go_quiet (fail); try go_wp2)
  go_loopg [5] k (fun kq v5 w' => ∃ (x5_1 : Int), v5 = .int .i64 x5_1 ∧ Aside0 (laws_eqIntSS.l0 kq l0 l1 x5_1 = some r) ∧ Aside0 (kq ≤ k) ∧ Drawn0 w w')
  case atStart => exact ⟨(0), (by first | rfl | (simp; done) | (simp [*]; done)), H', ⟨Nat.le_refl _⟩, by repeat (first | exact Drawn0.refl _ | apply Drawn0.step)⟩
  case round =>
   clear H'
   try clear c1
   try clear p2
   try clear c3
   try clear c3b0
   try clear c3b1
   try clear c3b2
   obtain ⟨x5_1, rfl, HA, HK1, ⟨m1, rfl⟩⟩ := hrel
   cases gk with
   | zero => exact absurd HA.out (by simp [laws_eqIntSS.l0])
   | succ k1 =>
    have H := HA.out
    clear HA
    simp only [laws_eqIntSS.l0] at H
    by_cases c4 : x5_1 < (l0.length : Int)
    ·rw [if_pos c4] at H
     have c4b0 : decide (x5_1 < (l0.length : Int)) = true := decide_eq_true c4
     clear c4
     by_cases c5 : 0 ≤ x5_1
     ·rw [if_pos c5] at H
      have c5b0 : decide (0 ≤ x5_1) = true := decide_eq_true c5
      clear c5
      by_cases c6 : x5_1 < (l1.length : Int)
      ·rw [if_pos c6] at H
       have c6b0 : decide (x5_1 < (l1.length : Int)) = true := decide_eq_true c6
       clear c6
       replace H := Option.bind_eq_some_iff.mp H
       obtain ⟨t139, A70, H⟩ := H
       replace H : (if t139 = true then (laws_eqIntSS.l0 k1 l0 l1 (wrap64 (x5_1 + 1))) else (some false)) = some r := H
       have A7 := Aside0.mk A70
       clear A70
       by_cases c8 : t139 = true
       ·subst c8
        have H1 : (laws_eqIntSS.l0 k1 l0 l1 (wrap64 (x5_1 + 1))) = some r := by rw [if_pos rfl] at H; exact H
        clear H
        have H := H1
        clear H1
        have H' := Aside0.mk H
        clear H
        have p137 : 0 ≤ (x5_1 : Int) := of_decide_eq_true (by first | (with_reducible assumption) | assumption)
        have q137 : x5_1 < (l0.length : Int) := of_decide_eq_true (by first | (with_reducible assumption) | assumption)
        obtain ⟨ad137, A137_0, c137_0, e137, hx137_0, hl137_0, hi137_0⟩ := at_L1 HR0.out x5_1 p137 q137
        cases e137
        have HR137_0 := Aside0.mk hi137_0
        have HC137_0 := Aside0.mk hl137_0
        clear hi137_0 hl137_0
        replace p137 := eq_true p137
        replace q137 := eq_true q137
        have p138 : 0 ≤ (x5_1 : Int) := of_decide_eq_true (by first | (with_reducible assumption) | assumption)
        have q138 : x5_1 < (l1.length : Int) := of_decide_eq_true (by first | (with_reducible assumption) | assumption)
        obtain ⟨ad138, A138_0, c138_0, e138, hx138_0, hl138_0, hi138_0⟩ := at_L1 HR1.out x5_1 p138 q138
        cases e138
        have HR138_0 := Aside0.mk hi138_0
        have HC138_0 := Aside0.mk hl138_0
        clear hi138_0 hl138_0
        replace p138 := eq_true p138
        replace q138 := eq_true q138
        go_wp2_with (first | (go_at_call 16; (with_reducible refine (laws_eqIntS.calls k1 _ _ (rd_L1 l0 x5_1) _ _ (rd_L1 l1 x5_1) true _ ?side1 ?side2 ?side3 ?side4 A7.out).mono ?_); (case side1 => repeat (first | exact HR137_0.out | (with_reducible refine Kd.C_alloc ?_ _) | (with_reducible refine Kd.C_drewN ?_ _) | (with_reducible refine Kd.C_drew ?_))); (case side2 => exact HC137_0.out); (case side3 => repeat (first | exact HR138_0.out | (with_reducible refine Kd.C_alloc ?_ _) | (with_reducible refine Kd.C_drewN ?_ _) | (with_reducible refine Kd.C_drew ?_))); (case side4 => exact HC138_0.out); rintro e w' ⟨rfl, ⟨nd, rfl⟩⟩; (try first | exact ⟨rfl, _, World.drewN_drewN _ _ _⟩ | exact ⟨rfl, _, Eq.trans (World.drewN_drewN _ _ _) (congrArg (World.drewN _) (Nat.add_assoc _ _ _))⟩)))
        repeat (go_quiet (first | (go_at_call 16; (with_reducible refine (laws_eqIntS.calls k1 _ _ (rd_L1 l0 x5_1) _ _ (rd_L1 l1 x5_1) true _ ?side1 ?side2 ?side3 ?side4 A7.out).mono ?_); (case side1 => repeat (first | exact HR137_0.out | (with_reducible refine Kd.C_alloc ?_ _) | (with_reducible refine Kd.C_drewN ?_ _) | (with_reducible refine Kd.C_drew ?_))); (case side2 => exact HC137_0.out); (case side3 => repeat (first | exact HR138_0.out | (with_reducible refine Kd.C_alloc ?_ _) | (with_reducible refine Kd.C_drewN ?_ _) | (with_reducible refine Kd.C_drew ?_))); (case side4 => exact HC138_0.out); rintro e w' ⟨rfl, ⟨nd, rfl⟩⟩; (try first | exact ⟨rfl, _, World.drewN_drewN _ _ _⟩ | exact ⟨rfl, _, Eq.trans (World.drewN_drewN _ _ _) (congrArg (World.drewN _) (Nat.add_assoc _ _ _))⟩))); try go_wp2_with (first | (go_at_call 16; (with_reducible refine (laws_eqIntS.calls k1 _ _ (rd_L1 l0 x5_1) _ _ (rd_L1 l1 x5_1) true _ ?side1 ?side2 ?side3 ?side4 A7.out).mono ?_); (case side1 => repeat (first | exact HR137_0.out | (with_reducible refine Kd.C_alloc ?_ _) | (with_reducible refine Kd.C_drewN ?_ _) | (with_reducible refine Kd.C_drew ?_))); (case side2 => exact HC137_0.out); (case side3 => repeat (first | exact HR138_0.out | (with_reducible refine Kd.C_alloc ?_ _) | (with_reducible refine Kd.C_drewN ?_ _) | (with_reducible refine Kd.C_drew ?_))); (case side4 => exact HC138_0.out); rintro e w' ⟨rfl, ⟨nd, rfl⟩⟩; (try first | exact ⟨rfl, _, World.drewN_drewN _ _ _⟩ | exact ⟨rfl, _, Eq.trans (World.drewN_drewN _ _ _) (congrArg (World.drewN _) (Nat.add_assoc _ _ _))⟩))))
        go_roundg k1
        case measure => have := HK1.out; omega
        case rel => exact ⟨(wrap64 (x5_1 + 1)), (by first | rfl | (simp; done) | (simp [*]; done)), H', ⟨by have := HK1.out; omega⟩, by repeat (first | exact Drawn0.refl _ | apply Drawn0.step)⟩
       ·replace c8 := Bool.eq_false_iff.mpr c8
        subst c8
        have H1 : (some false) = some r := by rw [if_neg (show ¬ (false = true) by decide)] at H; exact H
        clear H
        have H := H1
        clear H1
        obtain rfl := Option.some.inj H
        have p137 : 0 ≤ (x5_1 : Int) := of_decide_eq_true (by first | (with_reducible assumption) | assumption)
        have q137 : x5_1 < (l0.length : Int) := of_decide_eq_true (by first | (with_reducible assumption) | assumption)
        obtain ⟨ad137, A137_0, c137_0, e137, hx137_0, hl137_0, hi137_0⟩ := at_L1 HR0.out x5_1 p137 q137
        cases e137
        have HR137_0 := Aside0.mk hi137_0
        have HC137_0 := Aside0.mk hl137_0
        clear hi137_0 hl137_0
        replace p137 := eq_true p137
        replace q137 := eq_true q137
        have p138 : 0 ≤ (x5_1 : Int) := of_decide_eq_true (by first | (with_reducible assumption) | assumption)
        have q138 : x5_1 < (l1.length : Int) := of_decide_eq_true (by first | (with_reducible assumption) | assumption)
        obtain ⟨ad138, A138_0, c138_0, e138, hx138_0, hl138_0, hi138_0⟩ := at_L1 HR1.out x5_1 p138 q138
        cases e138
        have HR138_0 := Aside0.mk hi138_0
        have HC138_0 := Aside0.mk hl138_0
        clear hi138_0 hl138_0
        replace p138 := eq_true p138
        replace q138 := eq_true q138
        go_wp2_with (first | (go_at_call 16; (with_reducible refine (laws_eqIntS.calls k1 _ _ (rd_L1 l0 x5_1) _ _ (rd_L1 l1 x5_1) false _ ?side1 ?side2 ?side3 ?side4 A7.out).mono ?_); (case side1 => repeat (first | exact HR137_0.out | (with_reducible refine Kd.C_alloc ?_ _) | (with_reducible refine Kd.C_drewN ?_ _) | (with_reducible refine Kd.C_drew ?_))); (case side2 => exact HC137_0.out); (case side3 => repeat (first | exact HR138_0.out | (with_reducible refine Kd.C_alloc ?_ _) | (with_reducible refine Kd.C_drewN ?_ _) | (with_reducible refine Kd.C_drew ?_))); (case side4 => exact HC138_0.out); rintro e w' ⟨rfl, ⟨nd, rfl⟩⟩; (try first | exact ⟨rfl, _, World.drewN_drewN _ _ _⟩ | exact ⟨rfl, _, Eq.trans (World.drewN_drewN _ _ _) (congrArg (World.drewN _) (Nat.add_assoc _ _ _))⟩)))
        repeat (go_quiet (first | (go_at_call 16; (with_reducible refine (laws_eqIntS.calls k1 _ _ (rd_L1 l0 x5_1) _ _ (rd_L1 l1 x5_1) false _ ?side1 ?side2 ?side3 ?side4 A7.out).mono ?_); (case side1 => repeat (first | exact HR137_0.out | (with_reducible refine Kd.C_alloc ?_ _) | (with_reducible refine Kd.C_drewN ?_ _) | (with_reducible refine Kd.C_drew ?_))); (case side2 => exact HC137_0.out); (case side3 => repeat (first | exact HR138_0.out | (with_reducible refine Kd.C_alloc ?_ _) | (with_reducible refine Kd.C_drewN ?_ _) | (with_reducible refine Kd.C_drew ?_))); (case side4 => exact HC138_0.out); rintro e w' ⟨rfl, ⟨nd, rfl⟩⟩; (try first | exact ⟨rfl, _, World.drewN_drewN _ _ _⟩ | exact ⟨rfl, _, Eq.trans (World.drewN_drewN _ _ _) (congrArg (World.drewN _) (Nat.add_assoc _ _ _))⟩))); try go_wp2_with (first | (go_at_call 16; (with_reducible refine (laws_eqIntS.calls k1 _ _ (rd_L1 l0 x5_1) _ _ (rd_L1 l1 x5_1) false _ ?side1 ?side2 ?side3 ?side4 A7.out).mono ?_); (case side1 => repeat (first | exact HR137_0.out | (with_reducible refine Kd.C_alloc ?_ _) | (with_reducible refine Kd.C_drewN ?_ _) | (with_reducible refine Kd.C_drew ?_))); (case side2 => exact HC137_0.out); (case side3 => repeat (first | exact HR138_0.out | (with_reducible refine Kd.C_alloc ?_ _) | (with_reducible refine Kd.C_drewN ?_ _) | (with_reducible refine Kd.C_drew ?_))); (case side4 => exact HC138_0.out); rintro e w' ⟨rfl, ⟨nd, rfl⟩⟩; (try first | exact ⟨rfl, _, World.drewN_drewN _ _ _⟩ | exact ⟨rfl, _, Eq.trans (World.drewN_drewN _ _ _) (congrArg (World.drewN _) (Nat.add_assoc _ _ _))⟩))))
        go_ret
        exact ⟨by first | rfl | (simp; done) | (simp [*]; done), by repeat (first | exact Drawn0.refl _ | apply Drawn0.step)⟩
      ·rw [if_neg c6] at H
       exact absurd H (by simp)
     ·rw [if_neg c5] at H
      exact absurd H (by simp)
    ·rw [if_neg c4] at H
     have c4b0 : decide (x5_1 < (l0.length : Int)) = false := decide_eq_false c4
     clear c4
     obtain rfl := Option.some.inj H
     go_wp2
     repeat (go_quiet (fail); try go_wp2)
     go_ret
     exact ⟨by first | rfl | (simp; done) | (simp [*]; done), by repeat (first | exact Drawn0.refl _ | apply Drawn0.step)⟩
 ·rw [if_neg c3] at H
  have c3b0 : ((l0.length : Int) == (l1.length : Int)) = false := beq_eq_false_iff_ne.mpr c3
  have c3b1 : ((l0.length : Int) != (l1.length : Int)) = true := bne_iff_ne.mpr c3
  have c3b2 : (l0.length == l1.length) = false := by first | simpa using c3 | (simp at c3 ⊢; omega)
  obtain rfl := Option.some.inj H
  go_enter Try.func17, Try.ntmps17
  go_wp2
  repeat (go_quiet (fail); try go_wp2)
  go_ret
  exact ⟨by first | rfl | (simp; done) | (simp [*]; done), by repeat (first | exact Drawn0.refl _ | apply Drawn0.step)⟩
end Go.Proofs.Ytkolhpmhbgbphaa.P
namespace Go.Proofs.Ytkolhpmhbgbphaa.PT
set_option linter.unusedSimpArgs false
open Go.RowKit Go.Proofs.Ytkolhpmhbgbphaa.P Go.Proofs.YtkolhpmhbgbphaaW.PrintWords Go.Proofs.YtkolhpmhbgbphaaW.PrintLast Go.Proofs.Ytkolhpmhbgbphaa.EvKit
theorem szIntS_ev (l : List Int) (a : Int) (hl : l.length ≤ 9223372036854775807) (h1 : -1 ≤ a) (h2 : a ≤ 1048576) : laws_szIntS.f l a = some (if a - l.length < 0 then -1 else a - l.length) := by
  unfold laws_szIntS.f
  rw [w64 (by omega) (by omega)]
  split <;> rfl
def szSS (a : Int) : List (List Int) → Int
  | [] => a
  | l :: r => if a - l.length < 0 then -1 else szSS (a - l.length) r
def szIntSSv (l : List (List Int)) (a : Int) : Int := if a - l.length < 0 then -1 else szSS (a - l.length) l
theorem szIntSS_l0 (l : List (List Int)) (hl : l.length ≤ 9223372036854775806) (hll : ∀ x, x ∈ l → x.length ≤ 9223372036854775807) : ∀ d i, i + d = l.length → ∀ a : Int, 0 ≤ a → a ≤ 1048576 → Ev (fun k => laws_szIntSS.l0 k l a (i : Int)) (szSS a (l.drop i)) := by
  intro d
  induction d with
  | zero =>
    intro i hi a h0 h1
    refine Ev.succ ?_
    simp only [laws_szIntSS.l0, if_neg (show ¬ ((i : Int) < (l.length : Int)) by omega)]
    rw [List.drop_of_length_le (by omega)]
    exact Ev.now _
  | succ d ih =>
    intro i hi a h0 h1
    have hlt : i < l.length := by omega
    refine Ev.succ ?_
    have hr : rd_L1 l (i : Int) = l[i] := getD_at _ hlt
    simp only [laws_szIntSS.l0, if_pos (show ((i : Int) < (l.length : Int)) by omega), if_pos (show (0 : Int) ≤ (i : Int) by omega), hr, w64n (show i ≤ 9223372036854775806 by omega)]
    rw [drop_at hlt]
    simp only [szSS, szIntS_ev l[i] a (hll _ (List.getElem_mem hlt)) (by omega) h1, Option.bind_some]
    by_cases h : a - l[i].length < 0
    · simp only [if_pos h, show ((-1 : Int) < 0) from by omega, if_true]
      exact Ev.now _
    · simp only [if_neg h]
      exact ih (i + 1) (by omega) _ (by omega) (by omega)
theorem szIntSS_ev (l : List (List Int)) (a : Int) (hl : l.length ≤ 9223372036854775807) (hll : ∀ x, x ∈ l → x.length ≤ 9223372036854775807) (h1 : -1 ≤ a) (h2 : a ≤ 1048576) : Ev (fun k => laws_szIntSS.f k l a) (szIntSSv l a) := by
  unfold laws_szIntSS.f szIntSSv
  simp only [w64 (n := a - (l.length : Int)) (by omega) (by omega)]
  by_cases h : a - (l.length : Int) < 0
  · simp only [if_pos h]; exact Ev.now _
  · simp only [if_neg h]
    exact szIntSS_l0 l (by omega) hll l.length 0 (by omega) _ (by omega) (by omega)
theorem toIntS_l0 (l : List Int) (hl : l.length ≤ 35184372088832) : ∀ d i, i + d = l.length → Ev (fun k => laws_toIntS.l0 k l (l.take i ++ List.replicate d 0) (i : Int)) l := by
  intro d
  induction d with
  | zero =>
    intro i hi
    refine Ev.succ ?_
    simp only [laws_toIntS.l0, if_neg (show ¬ ((i : Int) < (l.length : Int)) by omega)]
    have : l.take i ++ List.replicate 0 0 = l := by rw [List.take_of_length_le (by omega)]; simp
    rw [this]; exact Ev.now _
  | succ d ih =>
    intro i hi
    have hlt : i < l.length := by omega
    refine Ev.succ ?_
    have hlen : (l.take i ++ List.replicate (d + 1) (0 : Int)).length = l.length := by simp; omega
    simp only [laws_toIntS.l0, if_pos (show ((i : Int) < (l.length : Int)) by omega), if_pos (show (0 : Int) ≤ (i : Int) by omega), hlen, rd_at hlt, w64n (show i ≤ 9223372036854775806 by omega)]
    have hs : (l.take i ++ List.replicate (d + 1) (0 : Int)).set (i : Int).toNat l[i] = l.take (i + 1) ++ List.replicate d 0 := by
      rw [Int.toNat_natCast, List.set_append_right _ _ (by simp; omega), List.take_succ_eq_append_getElem hlt]
      have : i - (l.take i).length = 0 := by simp; omega
      rw [this, List.replicate_succ]
      simp only [List.set_cons_zero, List.append_assoc, List.singleton_append]
    rw [hs]
    exact ih (i + 1) (by omega)
theorem toIntS_ev (l : List Int) (hl : l.length ≤ 35184372088832) : Ev (fun k => laws_toIntS.f k l) l := by
  unfold laws_toIntS.f
  simp only [if_pos (show (0 : Int) ≤ (l.length : Int) by omega), Int.toNat_natCast, if_pos hl]
  have := toIntS_l0 l hl l.length 0 (by omega)
  simpa using this
theorem toIntSS_l0 (l : List (List Int)) (hl : l.length ≤ 11728124029610) (hll : ∀ x, x ∈ l → x.length ≤ 35184372088832) : ∀ d i, i + d = l.length → Ev (fun k => laws_toIntSS.l0 k l (l.take i ++ List.replicate d []) (i : Int)) l := by
  intro d
  induction d with
  | zero =>
    intro i hi
    refine Ev.succ ?_
    simp only [laws_toIntSS.l0, if_neg (show ¬ ((i : Int) < (l.length : Int)) by omega)]
    have : l.take i ++ List.replicate 0 [] = l := by rw [List.take_of_length_le (by omega)]; simp
    rw [this]; exact Ev.now _
  | succ d ih =>
    intro i hi
    have hlt : i < l.length := by omega
    refine Ev.succ ?_
    have hlen : (l.take i ++ List.replicate (d + 1) ([] : List Int)).length = l.length := by simp; omega
    have hr : rd_L1 l (i : Int) = l[i] := getD_at _ hlt
    simp only [laws_toIntSS.l0, if_pos (show ((i : Int) < (l.length : Int)) by omega), if_pos (show (0 : Int) ≤ (i : Int) by omega), hlen, hr, w64n (show i ≤ 9223372036854775806 by omega)]
    refine Ev.bind (toIntS_ev l[i] (hll _ (List.getElem_mem hlt))) ?_
    have hs : (l.take i ++ List.replicate (d + 1) ([] : List Int)).set (i : Int).toNat l[i] = l.take (i + 1) ++ List.replicate d [] := by
      rw [Int.toNat_natCast, List.set_append_right _ _ (by simp; omega), List.take_succ_eq_append_getElem hlt]
      have : i - (l.take i).length = 0 := by simp; omega
      rw [this, List.replicate_succ]
      simp only [List.set_cons_zero, List.append_assoc, List.singleton_append]
    simp only [hs]
    exact ih (i + 1) (by omega)
theorem toIntSS_ev (l : List (List Int)) (hl : l.length ≤ 11728124029610) (hll : ∀ x, x ∈ l → x.length ≤ 35184372088832) : Ev (fun k => laws_toIntSS.f k l) l := by
  unfold laws_toIntSS.f
  simp only [if_pos (show (0 : Int) ≤ (l.length : Int) by omega), Int.toNat_natCast, if_pos hl]
  have := toIntSS_l0 l hl hll l.length 0 (by omega)
  simpa using this
theorem eqIntS_l0 (a b : List Int) (hab : a.length = b.length) (hl : a.length ≤ 9223372036854775806) : ∀ i, i ≤ a.length → Ev (fun k => laws_eqIntS.l0 k a b (i : Int)) (decide (a.drop i = b.drop i)) := by
  refine Ev.loop (g := fun k i => laws_eqIntS.l0 k a b (i : Int)) (n := a.length) ?_ ?_
  · refine Ev.succ ?_
    simp only [laws_eqIntS.l0, if_neg (show ¬ ((a.length : Int) < (a.length : Int)) by omega)]
    have : decide (a.drop a.length = b.drop a.length) = true := by simp [hab]
    rw [this]; exact Ev.now _
  · intro i hi ih
    have hi' : i < b.length := by omega
    refine Ev.succ ?_
    simp only [laws_eqIntS.l0, if_pos (show ((i : Int) < (a.length : Int)) by omega), if_pos (show ((i : Int) < (b.length : Int)) by omega), if_pos (show (0 : Int) ≤ (i : Int) by omega), rd_at hi, rd_at hi', w64n (show i ≤ 9223372036854775806 by omega)]
    rw [drop_at hi, drop_at hi']
    by_cases h : a[i] = b[i]
    · simp only [if_pos h, List.cons.injEq, h, true_and]; exact ih
    · simp only [if_neg h, List.cons.injEq, h, false_and, decide_false]; exact Ev.now _
theorem eqIntS_ev (a b : List Int) (hl : a.length ≤ 9223372036854775806) : Ev (fun k => laws_eqIntS.f k a b) (decide (a = b)) := by
  unfold laws_eqIntS.f
  by_cases h : a.length = b.length
  · simp only [if_pos (show (a.length : Int) = (b.length : Int) by omega)]
    have := eqIntS_l0 a b h hl 0 (by omega)
    simpa using this
  · simp only [if_neg (show ¬ (a.length : Int) = (b.length : Int) by omega)]
    have : decide (a = b) = false := by simp; intro e; exact h (by rw [e])
    rw [this]; exact Ev.now _
theorem eqIntSS_l0 (a b : List (List Int)) (hab : a.length = b.length) (hl : a.length ≤ 9223372036854775806) (hll : ∀ x, x ∈ a → x.length ≤ 9223372036854775806) : ∀ i, i ≤ a.length → Ev (fun k => laws_eqIntSS.l0 k a b (i : Int)) (decide (a.drop i = b.drop i)) := by
  refine Ev.loop (g := fun k i => laws_eqIntSS.l0 k a b (i : Int)) (n := a.length) ?_ ?_
  · refine Ev.succ ?_
    simp only [laws_eqIntSS.l0, if_neg (show ¬ ((a.length : Int) < (a.length : Int)) by omega)]
    have : decide (a.drop a.length = b.drop a.length) = true := by simp [hab]
    rw [this]; exact Ev.now _
  · intro i hi ih
    have hi' : i < b.length := by omega
    refine Ev.succ ?_
    have ha : rd_L1 a (i : Int) = a[i] := getD_at _ hi
    have hb : rd_L1 b (i : Int) = b[i] := getD_at _ hi'
    simp only [laws_eqIntSS.l0, if_pos (show ((i : Int) < (a.length : Int)) by omega), if_pos (show ((i : Int) < (b.length : Int)) by omega), if_pos (show (0 : Int) ≤ (i : Int) by omega), ha, hb, w64n (show i ≤ 9223372036854775806 by omega)]
    rw [drop_at hi, drop_at hi']
    refine Ev.bind (eqIntS_ev a[i] b[i] (hll _ (List.getElem_mem hi))) ?_
    by_cases h : a[i] = b[i]
    · simp only [h, decide_true, if_true, List.cons.injEq, true_and]; exact ih
    · simp only [h, decide_false, Bool.false_eq_true, if_false, List.cons.injEq, false_and]; exact Ev.now _
theorem eqIntSS_ev (a b : List (List Int)) (hl : a.length ≤ 9223372036854775806) (hll : ∀ x, x ∈ a → x.length ≤ 9223372036854775806) : Ev (fun k => laws_eqIntSS.f k a b) (decide (a = b)) := by
  unfold laws_eqIntSS.f
  by_cases h : a.length = b.length
  · simp only [if_pos (show (a.length : Int) = (b.length : Int) by omega)]
    have := eqIntSS_l0 a b h hl hll 0 (by omega)
    simpa using this
  · simp only [if_neg (show ¬ (a.length : Int) = (b.length : Int) by omega)]
    have : decide (a = b) = false := by simp; intro e; exact h (by rw [e])
    rw [this]; exact Ev.now _
theorem szSS_le : ∀ (l : List (List Int)) (a : Int), 0 ≤ szSS a l → 0 ≤ a ∧ szSS a l ≤ a ∧ ∀ x, x ∈ l → (x.length : Int) ≤ a
  | [], a, h => ⟨h, Int.le_refl _, fun x hx => by simp at hx⟩
  | y :: r, a, h => by
    simp only [szSS] at h ⊢
    by_cases h1 : a - y.length < 0
    · rw [if_pos h1] at h; omega
    · rw [if_neg h1] at h ⊢
      obtain ⟨h2, h3, h4⟩ := szSS_le r _ h
      refine ⟨by omega, by omega, fun x hx => ?_⟩
      rcases List.mem_cons.1 hx with rfl | hx
      · omega
      · have := h4 x hx; omega
theorem szIntSSv_le (r : List (List Int)) (a : Int) (h : 0 ≤ szIntSSv r a) : (r.length : Int) ≤ a ∧ szIntSSv r a ≤ a ∧ ∀ x, x ∈ r → (x.length : Int) ≤ a := by
  unfold szIntSSv at h ⊢
  by_cases h1 : a - r.length < 0
  · rw [if_pos h1] at h; omega
  · rw [if_neg h1] at h ⊢
    obtain ⟨h2, h3, h4⟩ := szSS_le r _ h
    exact ⟨by omega, by omega, fun x hx => by have := h4 x hx; omega⟩
theorem szIntSSv_lo (r : List (List Int)) (a : Int) : -1 ≤ szIntSSv r a := by
  have key : ∀ (l : List (List Int)) (a : Int), 0 ≤ a → -1 ≤ szSS a l := by
    intro l
    induction l with
    | nil => intro a ha; simp only [szSS]; omega
    | cons y r ih =>
      intro a ha
      simp only [szSS]
      split
      · omega
      · exact ih _ (by omega)
  unfold szIntSSv
  split
  · omega
  · exact key _ _ (by omega)
end Go.Proofs.Ytkolhpmhbgbphaa.PT
namespace Go.Proofs.Ytkolhpmhbgbphaa.P
open Go.RowKit Go.Proofs.YtkolhpmhbgbphaaW.PrintWords Go.Proofs.YtkolhpmhbgbphaaW.PrintLast Go.Proofs.YtkolhpmhbgbphaaW.PrintMore
attribute [local go_sem] max2_int min2_int max_two min_two max_three min_three max_four min_four
set_option linter.unusedVariables false
set_option linter.unusedSimpArgs false
def laws_markIntS.l0 : Nat → List Int → Int → Int → Option (Int × List Int)
 | 0, _, _, _ => none
 | k + 1, x0, x1, x5 => if x5 < (x0.length : Int) then (if 0 ≤ x5 then (laws_markIntS.l0 k (x0.set (x5 : Int).toNat x1) (wrap64 (x1 + 1)) (wrap64 (x5 + 1))) else (none)) else (some (x1, x0))
def laws_markIntS.f (k : Nat) (l0 : List Int) (a1 : Int) : Option (Int × List Int) := laws_markIntS.l0 k l0 a1 0
theorem laws_markIntS.mono_l : ∀ k, (∀ y0 y1 y2, LeO (laws_markIntS.l0 k y0 y1 y2) (laws_markIntS.l0 (k + 1) y0 y1 y2))
 | 0 => fun _ _ _ r h => by simp [laws_markIntS.l0] at h
 | k + 1 => by
  have ih0 := laws_markIntS.mono_l k
  ·intro y0 y1 y2
   unfold laws_markIntS.l0
   repeat' first
   | (with_reducible exact ih0 _ _ _)
   | (with_reducible exact LeO.refl _)
   | (with_reducible exact LeO.none _)
   | (with_reducible refine LeO.ite ?_ ?_)
   | (with_reducible refine LeO.bind ?_ (fun _ => ?_))
   | exact ih0 _ _ _
   | exact LeO.none _
   | refine LeO.ite ?_ ?_
   | refine LeO.bind ?_ (fun _ => ?_)
theorem laws_markIntS.mono : ∀ a0 a1 k, LeO (laws_markIntS.f k a0 a1) (laws_markIntS.f (k + 1) a0 a1) := by
 intro a0 a1 k
 have ih0 := laws_markIntS.mono_l k
 unfold laws_markIntS.f
 repeat' first
   | (with_reducible exact ih0 _ _ _)
   | (with_reducible exact LeO.refl _)
   | (with_reducible exact LeO.none _)
   | (with_reducible refine LeO.ite ?_ ?_)
   | (with_reducible refine LeO.bind ?_ (fun _ => ?_))
   | exact ih0 _ _ _
   | exact LeO.none _
   | refine LeO.ite ?_ ?_
   | refine LeO.bind ?_ (fun _ => ?_)
set_option maxHeartbeats 8000000 in
set_option maxRecDepth 100000 in
theorem laws_markIntS.calls (k : Nat) (P0_ : Nat → Prop) (u9000_ : Value) (l0 : List Int) (a1 : Int) (r1 : Int) (r2 : List Int) (w0 w : World) (hB : Below w0.heap.size w0 w) (ho0 : Kd.R (Kd.int .i64) 3 w w0.heap.size P0_ u9000_ l0) (h : laws_markIntS.f k l0 a1 = some (r1, r2)) :
  Calls Try.prog 19 #[u9000_, .int .i64 a1] w fun e w' => e = .returned (.int .i64 r1) ∧ Kd.R (Kd.int .i64) 3 w' w0.heap.size (fun k_ => (P0_ k_ ∨ w.heap.size ≤ k_)) u9000_ r2 ∧ Below w0.heap.size w0 w' ∧ Kept w w' (fun k_ => P0_ k_) := by
 have HO0 := Aside0.mk (show Kd.R (Kd.int .i64) 3 w w0.heap.size (fun k_ => (P0_ k_ ∨ w.heap.size ≤ k_)) u9000_ l0 from Kd.R_mono ho0 (fun k_ hk => (.inl hk)))
 have HK := Aside0.mk (Kept.refl w (fun k_ => P0_ k_))
 have HW0 := Aside0.mk hB.size
 have HB := Aside0.mk hB
 clear hB
 have H : (laws_markIntS.l0 k l0 a1 0) = some (r1, r2) := h
 clear h
 have H' := Aside0.mk H
 clear H
 go_enter Try.func19, Try.ntmps19
 go_wp2
 go_loopg [1, 5] k (fun kq v1 v5 w' => ∃ (x0_1 : List Int) (x1_1 : Int) (x5_1 : Int), v1 = .int .i64 x1_1 ∧ v5 = .int .i64 x5_1 ∧ Aside0 (laws_markIntS.l0 kq x0_1 x1_1 x5_1 = some (r1, r2)) ∧ Aside0 (kq ≤ k) ∧ Aside0 (Kd.R (Kd.int .i64) 3 w' w0.heap.size (fun k_ => (P0_ k_ ∨ w.heap.size ≤ k_)) u9000_ x0_1) ∧ Aside0 (Kept w w' (fun k_ => P0_ k_)) ∧ Aside0 (Below w0.heap.size w0 w'))
 case atStart => exact ⟨(l0), (a1), (0), (by first | rfl | (simp; done) | (simp [*]; done)), (by first | rfl | (simp; done) | (simp [*]; done)), H', ⟨Nat.le_refl _⟩, ⟨by (with_reducible repeat (first | apply Kd.R_alloc | apply Kd.R_drewN | apply Kd.R_drew)); exact HO0.out⟩, ⟨by repeat (first | (with_reducible first | exact HK.out | apply Kept.alloc | apply Kept.drewN | apply Kept.drew) | exact HK.out)⟩, ⟨by repeat (first | (with_reducible first | exact HB.out | apply below_alloc | apply pw_below_drewN | apply below_drew1) | exact HB.out)⟩⟩
 case round =>
  clear H'
  try clear c1
  try clear p2
  obtain ⟨x0_1, x1_1, x5_1, rfl, rfl, HA, HK1, HO_0, HK, HB⟩ := hrel
  cases gk with
  | zero => exact absurd HA.out (by simp [laws_markIntS.l0])
  | succ k1 =>
   have H := HA.out
   clear HA
   simp only [laws_markIntS.l0] at H
   by_cases c3 : x5_1 < (x0_1.length : Int)
   ·rw [if_pos c3] at H
    have c3b0 : decide (x5_1 < (x0_1.length : Int)) = true := decide_eq_true c3
    clear c3
    by_cases c4 : 0 ≤ x5_1
    ·rw [if_pos c4] at H
     have c4b0 : decide (0 ≤ x5_1) = true := decide_eq_true c4
     clear c4
     obtain ⟨y140, hy140⟩ : ∃ y_ : List Int, y_ = (x0_1.set (x5_1 : Int).toNat x1_1) := ⟨_, rfl⟩
     replace H : (laws_markIntS.l0 k1 y140 (wrap64 (x1_1 + 1)) (wrap64 (x5_1 + 1))) = some (r1, r2) := by first | (rw [hy140]; with_reducible exact H) | (have H2_ := (Option.bind_some _ _).symm.trans H; rw [hy140]; with_reducible exact H2_) | (have H2_ := (Option.bind_some _ _).symm.trans H; with_reducible exact H2_) | with_reducible exact H | (rw [hy140]; exact H) | exact H
     have Ny140 := Aside0.mk hy140
     clear hy140
     have H' := Aside0.mk H
     clear H
     obtain ⟨Ao6, co6, eo6⟩ := Kd.R_slice HO_0.out
     subst eo6
     have p5 : 0 ≤ (x5_1 : Int) := of_decide_eq_true (by first | (with_reducible assumption) | assumption)
     have q5 : (x5_1 : Int) < ((x0_1.length : Int) : Int) := of_decide_eq_true (by first | (with_reducible assumption) | assumption)
     obtain ⟨go5, co5, eo5, gb5, gl5, cl5, HG5⟩ := Kd.R_form HO_0.out (by omega)
     (first | cases eo5 | (injection eo5 with ea_ en_ ec_; (first | subst ea_ | (injection ea_ with ea_; subst ea_)); subst ec_; clear en_))
     have GB5 := Aside0.mk gb5
     have GG5 := Aside0.mk HG5
     clear gb5 gl5 HG5
     have HMgo5 := Aside0.mk (show (P0_ go5 ∨ w.heap.size ≤ go5) from (HO_0.out.1 _ rfl))
     obtain ⟨hx5_0, hf5_0⟩ := Kd.R_celln 0 HO_0.out (x5_1 : Int) p5 q5
     replace p5 := eq_true p5
     replace q5 := eq_true q5
     have HP7 := Kd.R_putg HO_0.out (x5_1 : Int) x1_1
     go_wp2_with (first | ((with_reducible refine gate_store (t := 3) (p := 15) rfl ?_); refine store_event (t := 3) (p := 15) (v := ?vo_w8) (w1 := (wr.setCell ⟨go5, (x5_1 : Int).toNat, none⟩ (.int .i64 x1_1))) ?hg ?ho ?hn ?hr ?_; (case ho => rfl); (case hg => rfl); (case hn => rfl); (case hr => first | (go_simp; done) | (go_simp; rfl) | ((try (obtain ⟨_, _, e_⟩ := Kd.R_slice HO_0.out; rw [e_])); (try (obtain ⟨_, _, e_⟩ := Kd.S_slice HO_0.out; rw [e_])); (try (obtain ⟨_, _, e_⟩ := Kd.N_slice HO_0.out; rw [e_])); (try (obtain ⟨_, _, e_⟩ := Kd.V_slice HO_0.out; rw [e_])); go_simp; first | done | rfl)); intro w8 hw; have hg : wr.grownBy w8 (some go5) := (by rw [hw]; exact HP7.2); have hp_ : Kd.R (Kd.int .i64) 3 w8 w0.heap.size (fun k_ => (P0_ k_ ∨ w.heap.size ≤ k_)) (.slice (some ⟨go5, 0, none⟩) x0_1.length co6) y140 := (by rw [hw, Ny140.out]; exact HP7.1); clear HP7; have n0_ := Aside0.mk (hp_); have n1_ := Aside0.mk ((by rw [hw]; exact below_set (HB.out) GB5.out : Below w0.heap.size w0 w8)); have n2_ := Aside0.mk (Kept.of_grown (S := (fun k_ => P0_ k_)) hg (by repeat (first | (with_reducible first | exact HK.out | apply Kept.alloc | apply Kept.drewN | apply Kept.drew) | exact HK.out)) (fun k_ e_ => (HO_0.out.1 k_ e_))); clear HO_0; clear HB; clear HK; have HO_0 := n0_; have HB := n1_; have HK := n2_; clear n0_ n1_ n2_; clear hg hw hp_))
     go_roundg k1
     case measure => have := HK1.out; omega
     case rel => exact ⟨(y140), (wrap64 (x1_1 + 1)), (wrap64 (x5_1 + 1)), (by first | rfl | (simp; done) | (simp [*]; done)), (by first | rfl | (simp; done) | (simp [*]; done)), H', ⟨by have := HK1.out; omega⟩, ⟨by (with_reducible repeat (first | apply Kd.R_alloc | apply Kd.R_drewN | apply Kd.R_drew)); exact HO_0.out⟩, ⟨by repeat (first | (with_reducible first | exact HK.out | apply Kept.alloc | apply Kept.drewN | apply Kept.drew) | exact HK.out)⟩, ⟨by repeat (first | (with_reducible first | exact HB.out | apply below_alloc | apply pw_below_drewN | apply below_drew1) | exact HB.out)⟩⟩
    ·rw [if_neg c4] at H
     exact absurd H (by simp)
   ·rw [if_neg c3] at H
    have c3b0 : decide (x5_1 < (x0_1.length : Int)) = false := decide_eq_false c3
    clear c3
    simp only [Option.some.injEq, Prod.mk.injEq] at H
    obtain ⟨rfl, rfl⟩ := H
    obtain ⟨Ao9, co9, eo9⟩ := Kd.R_slice HO_0.out
    subst eo9
    go_wp2
    go_ret
    exact ⟨by first | rfl | (simp [errW_none, errW_some] <;> rfl) | (simp [*, errW_none, errW_some] <;> rfl), by (with_reducible repeat (first | apply Kd.R_alloc | apply Kd.R_drewN | apply Kd.R_drew)); exact HO_0.out, by repeat (first | (with_reducible first | exact HB.out | apply below_alloc | apply pw_below_drewN | apply below_drew1) | exact HB.out), by repeat (first | (with_reducible first | exact HK.out | apply Kept.alloc | apply Kept.drewN | apply Kept.drew) | exact HK.out)⟩
end Go.Proofs.Ytkolhpmhbgbphaa.P
namespace Go.Proofs.Ytkolhpmhbgbphaa.P
open Go.RowKit Go.Proofs.YtkolhpmhbgbphaaW.PrintWords Go.Proofs.YtkolhpmhbgbphaaW.PrintLast Go.Proofs.YtkolhpmhbgbphaaW.PrintMore
attribute [local go_sem] max2_int min2_int max_two min_two max_three min_three max_four min_four
set_option linter.unusedVariables false
set_option linter.unusedSimpArgs false
def laws_heldIntS.l0 : Nat → List Int → Int → Int → Option (Int)
 | 0, _, _, _ => none
 | k + 1, x0, x1, x5 => if x5 < (x0.length : Int) then (if 0 ≤ x5 then (if (rd x0 x5) = x1 then (laws_heldIntS.l0 k x0 (wrap64 (x1 + 1)) (wrap64 (x5 + 1))) else (some (-1))) else (none)) else (some x1)
def laws_heldIntS.f (k : Nat) (l0 : List Int) (a1 : Int) : Option (Int) := laws_heldIntS.l0 k l0 a1 0
theorem laws_heldIntS.mono_l : ∀ k, (∀ y0 y1 y2, LeO (laws_heldIntS.l0 k y0 y1 y2) (laws_heldIntS.l0 (k + 1) y0 y1 y2))
 | 0 => fun _ _ _ r h => by simp [laws_heldIntS.l0] at h
 | k + 1 => by
  have ih0 := laws_heldIntS.mono_l k
  ·intro y0 y1 y2
   unfold laws_heldIntS.l0
   repeat' first
   | (with_reducible exact ih0 _ _ _)
   | (with_reducible exact LeO.refl _)
   | (with_reducible exact LeO.none _)
   | (with_reducible refine LeO.ite ?_ ?_)
   | (with_reducible refine LeO.bind ?_ (fun _ => ?_))
   | exact ih0 _ _ _
   | exact LeO.none _
   | refine LeO.ite ?_ ?_
   | refine LeO.bind ?_ (fun _ => ?_)
theorem laws_heldIntS.mono : ∀ a0 a1 k, LeO (laws_heldIntS.f k a0 a1) (laws_heldIntS.f (k + 1) a0 a1) := by
 intro a0 a1 k
 have ih0 := laws_heldIntS.mono_l k
 unfold laws_heldIntS.f
 repeat' first
   | (with_reducible exact ih0 _ _ _)
   | (with_reducible exact LeO.refl _)
   | (with_reducible exact LeO.none _)
   | (with_reducible refine LeO.ite ?_ ?_)
   | (with_reducible refine LeO.bind ?_ (fun _ => ?_))
   | exact ih0 _ _ _
   | exact LeO.none _
   | refine LeO.ite ?_ ?_
   | refine LeO.bind ?_ (fun _ => ?_)
set_option maxHeartbeats 8000000 in
set_option maxRecDepth 100000 in
theorem laws_heldIntS.calls (k : Nat) (A0 : Option Addr) (c0 : Nat) (l0 : List Int) (a1 : Int) (r : Int) (w : World) (hr0 : Kd.C (Kd.int .i64) w A0 l0.length l0) (hc0 : l0.length ≤ c0) (h : laws_heldIntS.f k l0 a1 = some r) :
  Calls Try.prog 20 #[.slice A0 l0.length c0, .int .i64 a1] w fun e w' => e = .returned (.int .i64 r) ∧ Drawn0 w w' := by
 have HR0 := Aside0.mk hr0
 have HC0 := Aside0.mk hc0
 clear hr0 hc0
 have H : (laws_heldIntS.l0 k l0 a1 0) = some r := h
 clear h
 have H' := Aside0.mk H
 clear H
 go_enter Try.func20, Try.ntmps20
 go_wp2
 go_loopg [1, 5] k (fun kq v1 v5 w' => ∃ (x1_1 : Int) (x5_1 : Int), v1 = .int .i64 x1_1 ∧ v5 = .int .i64 x5_1 ∧ Aside0 (laws_heldIntS.l0 kq l0 x1_1 x5_1 = some r) ∧ Aside0 (kq ≤ k) ∧ Drawn0 w w')
 case atStart => exact ⟨(a1), (0), (by first | rfl | (simp; done) | (simp [*]; done)), (by first | rfl | (simp; done) | (simp [*]; done)), H', ⟨Nat.le_refl _⟩, by repeat (first | exact Drawn0.refl _ | apply Drawn0.step)⟩
 case round =>
  clear H'
  try clear c2
  try clear p2
  obtain ⟨x1_1, x5_1, rfl, rfl, HA, HK1, ⟨m1, rfl⟩⟩ := hrel
  cases gk with
  | zero => exact absurd HA.out (by simp [laws_heldIntS.l0])
  | succ k1 =>
   have H := HA.out
   clear HA
   simp only [laws_heldIntS.l0] at H
   by_cases c3 : x5_1 < (l0.length : Int)
   ·rw [if_pos c3] at H
    have c3b0 : decide (x5_1 < (l0.length : Int)) = true := decide_eq_true c3
    clear c3
    by_cases c4 : 0 ≤ x5_1
    ·rw [if_pos c4] at H
     have c4b0 : decide (0 ≤ x5_1) = true := decide_eq_true c4
     clear c4
     by_cases c5 : (rd l0 x5_1) = x1_1
     ·rw [if_pos c5] at H
      have c5b0 : ((rd l0 x5_1) == x1_1) = true := beq_iff_eq.mpr c5
      have c5b1 : ((rd l0 x5_1) != x1_1) = false := bne_eq_false_iff_eq.mpr c5
      clear c5
      have H' := Aside0.mk H
      clear H
      have p142 : 0 ≤ (x5_1 : Int) := of_decide_eq_true (by first | (with_reducible assumption) | assumption)
      have q142 : x5_1 < (l0.length : Int) := of_decide_eq_true (by first | (with_reducible assumption) | assumption)
      obtain ⟨ad142, e142, hx142_0⟩ := Kd.at_int HR0.out x5_1 p142 q142
      cases e142
      replace p142 := eq_true p142
      replace q142 := eq_true q142
      go_wp2
      go_roundg k1
      case measure => have := HK1.out; omega
      case rel => exact ⟨(wrap64 (x1_1 + 1)), (wrap64 (x5_1 + 1)), (by first | rfl | (simp; done) | (simp [*]; done)), (by first | rfl | (simp; done) | (simp [*]; done)), H', ⟨by have := HK1.out; omega⟩, by repeat (first | exact Drawn0.refl _ | apply Drawn0.step)⟩
     ·rw [if_neg c5] at H
      have c5b0 : ((rd l0 x5_1) == x1_1) = false := beq_eq_false_iff_ne.mpr c5
      have c5b1 : ((rd l0 x5_1) != x1_1) = true := bne_iff_ne.mpr c5
      obtain rfl := Option.some.inj H
      have p142 : 0 ≤ (x5_1 : Int) := of_decide_eq_true (by first | (with_reducible assumption) | assumption)
      have q142 : x5_1 < (l0.length : Int) := of_decide_eq_true (by first | (with_reducible assumption) | assumption)
      obtain ⟨ad142, e142, hx142_0⟩ := Kd.at_int HR0.out x5_1 p142 q142
      cases e142
      replace p142 := eq_true p142
      replace q142 := eq_true q142
      go_wp2
      go_ret
      exact ⟨by first | rfl | (simp; done) | (simp [*]; done), by repeat (first | exact Drawn0.refl _ | apply Drawn0.step)⟩
    ·rw [if_neg c4] at H
     exact absurd H (by simp)
   ·rw [if_neg c3] at H
    have c3b0 : decide (x5_1 < (l0.length : Int)) = false := decide_eq_false c3
    clear c3
    obtain rfl := Option.some.inj H
    go_wp2
    go_ret
    exact ⟨by first | rfl | (simp; done) | (simp [*]; done), by repeat (first | exact Drawn0.refl _ | apply Drawn0.step)⟩
end Go.Proofs.Ytkolhpmhbgbphaa.P
namespace Go.Proofs.Ytkolhpmhbgbphaa.PT
open Go.RowKit Go.Proofs.Ytkolhpmhbgbphaa.P Go.Proofs.YtkolhpmhbgbphaaW.PrintWords Go.Proofs.YtkolhpmhbgbphaaW.PrintLast Go.Proofs.Ytkolhpmhbgbphaa.EvKit
set_option linter.unusedSimpArgs false
set_option linter.unusedVariables false
def markI : Int → List Int → List Int
  | _, [] => []
  | k, _ :: r => k :: markI (k + 1) r
theorem markI_len : ∀ (l : List Int) (k : Int), (markI k l).length = l.length
  | [], _ => rfl
  | _ :: r, k => by simp [markI, markI_len r (k + 1)]
theorem Ev.markG {α : Type} {F : Int → List α → List α} {cnt : List α → Int} {st : α → Int} (hst : ∀ x, 0 ≤ st x) (hc0 : cnt [] = 0) (hc : ∀ x r, cnt (x :: r) = st x + cnt r) (hF0 : ∀ k, F k [] = []) {f : Int → α → α} (hF : ∀ k x r, F k (x :: r) = f k x :: F (k + st x) r) {g : Nat → List α → Int → Nat → Option (Int × List α)} (l : List α)
    (hend : ∀ xs k i, i = xs.length → Ev (fun q => g q xs k i) (k, xs)) (hstep : ∀ xs k i (h : i < xs.length) R, Ev (fun q => g q (xs.set i (f k xs[i])) (k + st xs[i]) (i + 1)) R → k + st xs[i] ≤ 1099511627776 → 0 ≤ k → xs.length = l.length → Ev (fun q => g q xs k i) R)
    (k : Int) (h0 : 0 ≤ k) (hk : k + cnt l ≤ 1099511627776) : Ev (fun q => g q l k 0) (k + cnt l, F k l) := by
  have hcn : ∀ r : List α, 0 ≤ cnt r := by
    intro r
    induction r with
    | nil => rw [hc0]; exact Int.le_refl _
    | cons x r ih => rw [hc]; have := hst x; omega
  have key : ∀ (r pre : List α) (k : Int), pre.length + r.length = l.length → 0 ≤ k → k + cnt r ≤ 1099511627776 → Ev (fun q => g q (pre ++ r) k pre.length) (k + cnt r, pre ++ F k r) := by
    intro r
    induction r with
    | nil =>
      intro pre k _ _ _
      rw [hF0, hc0]
      have := hend (pre ++ []) k pre.length (by simp)
      simpa using this
    | cons x r ih =>
      intro pre k hpl h0 hk
      have hx : (pre ++ x :: r)[pre.length]'(by simp) = x := by simp
      rw [hc] at hk ⊢
      have h1 := hst x
      have h2 := hcn r
      refine hstep (pre ++ x :: r) k pre.length (by simp) _ ?_ (by rw [hx]; omega) h0 (by simpa using hpl)
      have ih2 := ih (pre ++ [f k x]) (k + st x) (by simp at hpl ⊢; omega) (by omega) (by omega)
      have e1 : (pre ++ x :: r).set pre.length (f k x) = (pre ++ [f k x]) ++ r := by
        rw [List.set_append_right _ _ (Nat.le_refl _)]; simp
      rw [hx, e1, hF]
      have e2 : (pre ++ [f k x]).length = pre.length + 1 := by simp
      rw [e2] at ih2
      have e3 : k + st x + cnt r = k + (st x + cnt r) := by omega
      rw [e3] at ih2
      simpa using ih2
  simpa using key l [] k (by simp) h0 hk
theorem markIntS_ev (l : List Int) (k : Int) (h0 : 0 ≤ k) (hl : l.length ≤ 9223372036854775806) (hk : k + l.length ≤ 1099511627776) : Ev (fun q => laws_markIntS.f q l k) (k + l.length, markI k l) := by
  unfold laws_markIntS.f
  exact Ev.markG (F := markI) (cnt := fun l => (l.length : Int)) (st := fun _ => 1) (fun _ => by omega) rfl (fun x r => by simp; omega) (fun _ => rfl) (f := fun k _ => k) (fun k x r => rfl) (g := fun q xs k i => laws_markIntS.l0 q xs k (i : Int)) l (fun xs k i hi => Ev.succ (by
      simp only [laws_markIntS.l0]
      exact Ev.neg (by omega) (Ev.now _))) (fun xs k i hi R ih hb hk0 hxl => Ev.succ (by
      simp only [laws_markIntS.l0, Int.toNat_natCast, w64n (show i ≤ 9223372036854775806 by omega), w64 (n := k + 1) (by omega) (by omega)]
      exact Ev.pos (by omega) (Ev.pos (by omega) ih))) k h0 hk
theorem heldIntS_ev (l : List Int) (k : Int) (h0 : 0 ≤ k) (hl : l.length ≤ 1099511627776) (hk : k + l.length ≤ 1099511627776) : Ev (fun q => laws_heldIntS.f q (markI k l) k) (k + l.length) := by
  unfold laws_heldIntS.f
  have key : ∀ (r pre : List Int) (j : Int), 0 ≤ j → j + r.length ≤ 1099511627776 → pre.length + r.length ≤ 1099511627776 → Ev (fun q => laws_heldIntS.l0 q (pre ++ markI j r) j (pre.length : Int)) (j + r.length) := by
    intro r
    induction r with
    | nil =>
      intro pre j _ _ _
      refine Ev.succ ?_
      simp only [laws_heldIntS.l0, markI, List.append_nil]
      exact Ev.neg (by omega) (Ev.to (Ev.now _) (by simp))
    | cons x r ih =>
      intro pre j hj hb hq
      have hlen : ((x :: r).length : Int) = r.length + 1 := by simp
      have hlen2 : (x :: r).length = r.length + 1 := by simp
      rw [hlen] at hb ⊢
      rw [hlen2] at hq
      have hlt : pre.length < (pre ++ markI j (x :: r)).length := by simp [markI]
      have hx : rd (pre ++ markI j (x :: r)) (pre.length : Int) = j := (rd_at hlt).trans (by simp [markI])
      have ih2 := ih (pre ++ [j]) (j + 1) (by omega) (by omega) (by simp; omega)
      have e1 : (pre ++ [j]) ++ markI (j + 1) r = pre ++ markI j (x :: r) := by simp [markI]
      rw [e1] at ih2
      refine Ev.succ ?_
      simp only [laws_heldIntS.l0, hx, w64n (show pre.length ≤ 9223372036854775806 by omega), w64 (n := j + 1) (by omega) (by omega)]
      have e2 : (((pre ++ [j]).length : Nat) : Int) = ((pre.length + 1 : Nat) : Int) := by simp
      rw [e2] at ih2
      refine Ev.pos (by omega) (Ev.pos (by omega) ?_)
      first | exact Ev.pos hx (Ev.to ih2 (by omega)) | exact Ev.to ih2 (by omega) | (refine Ev.pos (by omega) ?_; first | exact Ev.pos hx (Ev.to ih2 (by omega)) | exact Ev.to ih2 (by omega))
  simpa using key l [] k h0 hk (by simpa using hl)
end Go.Proofs.Ytkolhpmhbgbphaa.PT
namespace Go.Proofs.Ytkolhpmhbgbphaa.PT
open Go.RowKit Go.Proofs.Ytkolhpmhbgbphaa.P Go.Proofs.YtkolhpmhbgbphaaW.PrintWords Go.Proofs.YtkolhpmhbgbphaaW.PrintLast Go.Proofs.Ytkolhpmhbgbphaa.EvKit
set_option linter.unusedVariables false
set_option linter.unusedSimpArgs false
abbrev kRow : Kd (List Int) := Kd.slice 3 (Kd.int .i64)
def markII : Int → List (List Int) → List (List Int)
  | _, [] => []
  | k, a :: r => markI k a :: markII (k + a.length) r
def cntII : List (List Int) → Int
  | [] => 0
  | a :: r => a.length + cntII r
theorem cntII_ge : ∀ l, 0 ≤ cntII l
  | [] => Int.le_refl _
  | a :: r => by simp only [cntII]; have := cntII_ge r; omega
def MarkIIPost (w0 w : World) (ok : Nat → Prop) (v : Value) (l : List (List Int)) (k : Int) (e : Ending) (w' : World) : Prop :=
  e = .returned (.int .i64 (k + cntII l)) ∧ Kd.S kRow 24 w' w0.heap.size (fun k_ => ok k_ ∨ w.heap.size ≤ k_) v (markII k l) ∧ Below w0.heap.size w0 w' ∧ Kept w w' ok
set_option maxHeartbeats 8000000 in
set_option maxRecDepth 100000 in
theorem markIntSS_walk (ok : Nat → Prop) (v : Value) (l : List (List Int)) (k : Int) (w0 w : World) (hB : Below w0.heap.size w0 w) (hS : Kd.S kRow 24 w w0.heap.size ok v l) (h0 : 0 ≤ k) (hk : k + cntII l ≤ 1099511627776) :
    Calls Try.prog 18 #[v, .int .i64 k] w (MarkIIPost w0 w ok v l k) := by
  have hlen : l.length ≤ 9223372036854775807 := by
    obtain ⟨A, c, _, _, hr⟩ := Kd.S_reads hS
    exact hr.2.1
  have HB := Aside0.mk hB
  have HT := Aside0.mk (Below.refl w.heap.size w)
  have HK := Aside0.mk hk
  cases hl : l with
  | nil =>
    subst hl
    obtain ⟨A, c, rfl⟩ := Kd.S_slice hS
    have HS := Aside0.mk hS
    clear hS hB hk
    go_enter Try.func18, Try.ntmps18
    go_wp2
    go_loop [5, 1] (fun i kk => i = .int .i64 0 ∧ kk = .int .i64 k) (fun _ _ => 0)
    case atStart => exact ⟨rfl, rfl⟩
    case round =>
      obtain ⟨rfl, rfl⟩ := hrel
      go_wp2
      go_ret
      exact ⟨by simp [cntII], Kd.S_mono HS.out (fun _ h => .inl h), HB.out, Kept.refl _ _⟩
  | cons a0 r0 =>
    have hpos : 0 < l.length := by rw [hl]; simp
    rw [← hl]
    clear hl
    obtain ⟨g, cap, rfl, hg0, hg1, cells, hcells⟩ := Kd.S_form hS hpos
    have HS0 : Aside0 (Kd.S kRow 24 w w0.heap.size (fun k_ => ok k_ ∨ w.heap.size ≤ k_) (.slice (some ⟨g, 0, none⟩) l.length cap) l) := ⟨Kd.S_mono hS (fun _ h => .inl h)⟩
    clear hS hB hk hg0 hcells
    go_enter Try.func18, Try.ntmps18
    go_wp2
    go_loopw [5, 1] (fun i kk wr => ∃ (x kx : Int) (pre suf : List (List Int)), i = .int .i64 x ∧ kk = .int .i64 kx ∧ 0 ≤ x ∧ x = (pre.length : Int) ∧ pre.length + suf.length = l.length ∧ 0 ≤ kx ∧ Aside0 (kx + cntII suf = k + cntII l) ∧ Aside0 (pre ++ markII kx suf = markII k l) ∧
      Aside0 (Kd.S kRow 24 wr w0.heap.size (fun k_ => ok k_ ∨ w.heap.size ≤ k_) (.slice (some ⟨g, 0, none⟩) l.length cap) (pre ++ suf)) ∧ Aside0 (Below w0.heap.size w0 wr) ∧ Aside0 (Kept w wr ok)) (fun i _ _ => l.length - (intOf i).toNat)
    case atStart => exact ⟨0, k, [], l, rfl, rfl, by omega, rfl, by simp, h0, ⟨rfl⟩, ⟨rfl⟩, ⟨HS0.out⟩, ⟨HB.out⟩, ⟨Kept.refl _ _⟩⟩
    case round =>
      clear HS0 HB HT
      obtain ⟨x, kx, pre, suf, rfl, rfl, hx0, hxp, hps, hk0, HC, HM, HS, HB, HKp⟩ := hrel
      cases suf with
      | nil =>
        have hge : ¬ x < (l.length : Int) := by simp at hps; omega
        have hge2 : decide (x < (l.length : Int)) = false := decide_eq_false hge
        have H1 : Aside0 (kx = k + cntII l) := ⟨by have := HC.out; simpa [cntII] using this⟩
        have H2 : Aside0 (pre = markII k l) := ⟨by have := HM.out; simpa [markII] using this⟩
        clear HC HM hps hxp
        go_wp2
        go_ret
        exact ⟨by rw [H1.out]; rfl, by rw [← H2.out]; simpa using HS.out, HB.out, HKp.out⟩
      | cons a r =>
        have hlt : x < (l.length : Int) := by simp at hps; omega
        have hlt2 : x.toNat < l.length := by omega
        have hel : (pre ++ a :: r).getD x.toNat [] = a := by
          have : x.toNat = pre.length := by omega
          rw [this]; simp
        have hset : ∀ a', (pre ++ a :: r).set x.toNat a' = (pre ++ [a']) ++ r := by
          intro a'
          have : x.toNat = pre.length := by omega
          rw [this, List.set_append_right _ _ (Nat.le_refl _)]; simp
        obtain ⟨oki, c, hcl, hM0, hcell, hoki, hH⟩ := Kd.S_lend HS.out [] x hx0 (by omega)
        rw [hel] at hM0
        obtain ⟨vt, rfl, ht⟩ := hM0
        have hc1 : wr.cell? ⟨g, x.toNat, none⟩ = some vt := by have := hcell 0 _ rfl; simpa [Kd.slice] using this
        have hcnt := cntII_ge r
        have hal : a.length ≤ 9223372036854775806 := by have := HC.out; have := HK.out; simp only [cntII] at *; omega
        have hsum : kx + ((a.length : Int) + cntII r) ≤ 1099511627776 := by have h1 := HC.out; have h2 := HK.out; simp only [cntII] at h1; omega
        obtain ⟨kT, hkT⟩ := Ev.rounds (markIntS_ev a kx hk0 hal (by omega))
        have HkT := Aside0.mk hkT
        have HH := Aside0.mk hH
        have Hok := Aside0.mk hoki
        have Ht := Aside0.mk ht
        have Hel := Aside0.mk hset
        have Hps : Aside0 (x = (pre.length : Int) ∧ pre.length + (r.length + 1) = l.length) := ⟨hxp, by simpa using hps⟩
        have Hcn := Aside0.mk hcnt
        clear hkT hH hoki ht hset hel hcell hcl hps hxp hcnt hal
        have hge2 : decide (x < (l.length : Int)) = true := decide_eq_true hlt
        go_wp2_with (first | (go_at_call 19; (with_reducible refine (laws_markIntS.calls kT oki vt a kx _ _ w0 _ HB.out Ht.out HkT.out).mono ?_); rintro e w3 ⟨rfl, hr3, hb3, hk3⟩))
        have hsz : w.heap.size ≤ wr.heap.size := HKp.out.1
        have hH3 := Kd.H_step (Kd.H_widen HH.out) (w1 := w3) (fun q hq hn hlt => hk3.2 q hlt (fun ho => hn (.inl ho)))
        have hS3 := Kd.H_back hH3 (x' := markI kx a) (okp := fun q => oki q ∨ wr.heap.size ≤ q) ⟨vt, rfl, hr3⟩ (fun q hq => hq.elim .inl (fun h => .inr ⟨.inr (Nat.le_trans hsz h), h⟩))
        rw [Hel.out] at hS3
        have hKf : Kept w w3 ok := HKp.out.then_ hk3 (fun q hq => (Hok.out q hq).1)
        go_roundw
        case rel => exact ⟨x + 1, kx + (a.length : Int), pre ++ [markI kx a], r, rfl, rfl, by omega, by have := Hps.out.1; simp; omega, by have := Hps.out.2; simp; omega, by omega, ⟨by have := HC.out; simp only [cntII] at this; omega⟩, ⟨by have := HM.out; simp only [markII] at this; simpa using this⟩, ⟨hS3⟩, ⟨hb3⟩, ⟨hKf⟩⟩
        case measure => simp [intOf]; omega
end Go.Proofs.Ytkolhpmhbgbphaa.PT
namespace Go.Proofs.Ytkolhpmhbgbphaa.PT
open Go.RowKit Go.Proofs.Ytkolhpmhbgbphaa.P Go.Proofs.YtkolhpmhbgbphaaW.PrintWords Go.Proofs.YtkolhpmhbgbphaaW.PrintLast Go.Proofs.Ytkolhpmhbgbphaa.EvKit
set_option linter.unusedVariables false
set_option linter.unusedSimpArgs false
theorem below_far {w w2 w' : World} (h : Below w.heap.size w w2) (h2 : Below w2.heap.size w2 w') : Below w.heap.size w w' := below_step h h2
def ToSS (W : World) (l : List (List Int)) (e : Ending) (W' : World) : Prop := ∃ A1 c1, e = .returned (.slice A1 l.length c1) ∧ Kd.S kRow 24 W' W.heap.size (fun q => q < W'.heap.size) (.slice A1 l.length c1) l ∧ Below W.heap.size W W'
theorem heldI_at (k : Nat) (A : Option Addr) (c : Nat) (vs : List Int) (m : Int) (W : World) (hr : Kd.C (Kd.int .i64) W A (markI 1 vs).length (markI 1 vs)) (hc : vs.length ≤ c) (h : laws_heldIntS.f k (markI 1 vs) 1 = some m) :
    Calls Try.prog 20 #[.slice A vs.length c, .int .i64 1] W fun e w' => e = .returned (.int .i64 m) ∧ Drawn0 W w' := by
  have h1 := laws_heldIntS.calls k A c (markI 1 vs) 1 m W hr (by rw [markI_len]; exact hc) h
  rwa [markI_len] at h1
set_option maxHeartbeats 8000000 in
set_option maxRecDepth 100000 in
theorem lawInter_walk (A0 : Option Addr) (c0 : Nat) (ls : List (List Int)) (R : List Int) (zQ : Int) (w : World)
    (hzQ : ∀ W, Below w.heap.size w W → Calls Try.prog 12 #[.slice A0 ls.length c0, .int .i64 1048576] W fun e W' => e = .returned (.int .i64 zQ) ∧ Drawn0 W W')
    (htQ : 0 ≤ zQ → ∀ W, Below w.heap.size w W → Calls Try.prog 14 #[.slice A0 ls.length c0] W (ToSS W ls))
    (hsV : 0 ≤ zQ → ∀ W A1 c1, Kd.C kRow W A1 ls.length ls → ls.length ≤ c1 → Calls Try.prog 13 #[.slice A1 ls.length c1] W (InterPost W R))
    (hiV : 0 ≤ zQ → ∀ W A1 c1, Kd.C kRow W A1 ls.length ls → ls.length ≤ c1 → Calls Try.prog 15 #[.slice A1 ls.length c1] W (InterPost W R))
    (hvs : 0 ≤ zQ → R.length ≤ 1048576 ∧ ls.length ≤ 1048576 ∧ (∀ x, x ∈ ls → x.length ≤ 1048576) ∧ 1 + cntII ls ≤ 1099511627776 ∧ 0 ≤ cntII ls) :
    Calls Try.prog 3 #[.slice A0 ls.length c0] w fun e w' => e = .returned (.bool true) ∧ Below w.heap.size w w' := by
  have HB := Aside0.mk (Below.refl w.heap.size w)
  have HzQ := Aside0.mk hzQ
  clear hzQ
  by_cases z1 : zQ < 0
  · have e1 : decide (zQ < 0) = true := decide_eq_true z1
    clear htQ hsV hiV hvs z1
    go_enter Try.func3, Try.ntmps3
    go_wp2_with (first | (go_at_call 12; (with_reducible refine (HzQ.out _ HB.out).mono ?_); rintro e w1 ⟨rfl, ⟨n1, rfl⟩⟩))
    go_ret
    exact ⟨rfl, pw_below_drewN HB.out _⟩
  · have e1 : decide (zQ < 0) = false := decide_eq_false z1
    have HtQ := Aside0.mk (htQ (by omega))
    have HsV := Aside0.mk (hsV (by omega))
    have HiV := Aside0.mk (hiV (by omega))
    obtain ⟨hv0, hv1, hv2, hv4, hv5⟩ := hvs (by omega)
    obtain ⟨kE, hkE⟩ := Ev.rounds (eqIntS_ev R R (by omega))
    rw [decide_eq_true rfl] at hkE
    obtain ⟨kQ, hkQ⟩ := Ev.rounds (eqIntSS_ev ls ls (by omega) (fun x hx => by have := hv2 x hx; omega))
    rw [decide_eq_true rfl] at hkQ
    obtain ⟨kM, hkM⟩ := Ev.rounds (markIntS_ev R 1 (by omega) (by omega) (by omega))
    obtain ⟨kH, hkH⟩ := Ev.rounds (heldIntS_ev R 1 (by omega) (by omega) (by omega))
    have HkE := Aside0.mk hkE
    have HkQ := Aside0.mk hkQ
    have HkM := Aside0.mk hkM
    have HkH := Aside0.mk hkH
    have HV4 := Aside0.mk hv4
    have e2 : decide (1 + cntII ls < 0) = false := decide_eq_false (by omega)
    have e3 : decide (1 + (R.length : Int) < 0) = false := decide_eq_false (by omega)
    clear htQ hsV hiV hvs z1 hkE hkQ hkM hkH hv4 hv2
    generalize hm1 : 1 + cntII ls = m1 at *
    generalize hm2 : 1 + (R.length : Int) = m2 at *
    have HM1 := Aside0.mk hm1
    clear hm1 hm2
    have b1 : (m2 != m2) = false := by simp
    go_enter Try.func3, Try.ntmps3
    go_wp2_with (first | (go_at_call 12; (with_reducible refine (HzQ.out _ HB.out).mono ?_); rintro e w1 ⟨rfl, ⟨n1, rfl⟩⟩; have HB1 : Aside0 (Below w.heap.size w (w.drewN n1)) := ⟨pw_below_drewN HB.out _⟩) | (go_at_call 14; have tok1 := HB1; (with_reducible refine (HtQ.out _ HB1.out).mono ?_); rintro e w2a ⟨B1, d1, rfl, hs2, hb2⟩; have HB2a : Aside0 (Below w.heap.size w w2a) := ⟨below_step HB1.out hb2⟩; obtain ⟨_, hl2, hc2⟩ := Kd.S_reads' hs2; have HC2 := Aside0.mk hc2; have HL2 := Aside0.mk hl2; clear hs2 hb2 hc2 hl2 tok1 HB1) | (go_at_call 13; (with_reducible refine (HsV.out _ B1 d1 HC2.out HL2.out).mono ?_); rintro e w2 ⟨v4, rfl, ho4, hb2⟩; have HB2 : Aside0 (Below w.heap.size w w2) := ⟨below_step HB2a.out hb2⟩; obtain ⟨D4, f4, rfl, hl4, hc4⟩ := Kd.R_reads ho4; have HC4 := Aside0.mk hc4; have HL4 := Aside0.mk hl4; clear ho4 hb2 hc4 hl4 HB2a) | (go_at_call 14; have tok2 := HB2; (with_reducible refine (HtQ.out _ HB2.out).mono ?_); rintro e w3 ⟨C3, g3, rfl, hs3, hb3⟩; have HB3 : Aside0 (Below w.heap.size w w3) := ⟨below_step HB2.out hb3⟩; have HZ3 : Aside0 (Below w2.heap.size w2 w3) := ⟨hb3⟩; obtain ⟨_, hl3, hc3⟩ := Kd.S_reads' hs3; have HC3 := Aside0.mk hc3; have HL3 := Aside0.mk hl3; have HS3 := Aside0.mk hs3; clear hs3 hb3 hc3 hl3 tok2) | (go_at_call 15; have tok3 := HZ3; (with_reducible refine (HiV.out _ C3 g3 HC3.out HL3.out).mono ?_); rintro e w4 ⟨v6, rfl, ho6, hb4⟩; have HB4 : Aside0 (Below w.heap.size w w4) := ⟨below_step HB3.out hb4⟩; have HT4 : Aside0 (Below w3.heap.size w3 w4) := ⟨hb4⟩; have HZ4 : Aside0 (Below w2.heap.size w2 w4) := ⟨below_step HZ3.out hb4⟩; obtain ⟨D6, f6, rfl, hl6, hc6⟩ := Kd.R_reads ho6; have HC6 := Aside0.mk hc6; have HL6 := Aside0.mk hl6; have HR6 := Aside0.mk (Kd.R_lower (Kd.R_mono (Kd.R_bound ho6) (ok' := fun q => w3.heap.size ≤ q) (fun q hq => hq.2.1)) HZ3.out.size); clear ho6 hb4 hc6 hl6 tok3) | (go_at_call 16; have tok4 := HC6; (with_reducible refine (laws_eqIntS.calls kE D6 f6 R D4 f4 R true _ HC6.out HL6.out (Kd.C_below HC4.out HZ4.out) HL4.out HkE.out).mono ?_); rintro e w5 ⟨rfl, ⟨n5, rfl⟩⟩; clear tok4) | (go_at_call 14; have tok5 := HR6; (with_reducible refine (HtQ.out _ (pw_below_drewN HB4.out n5)).mono ?_); rintro e w6 ⟨E1, i1, rfl, hs6, hb6⟩; have HB6 : Aside0 (Below w.heap.size w w6) := ⟨below_step (pw_below_drewN HB4.out n5) hb6⟩; have HT6 : Aside0 (Below w4.heap.size w4 w6) := ⟨below_step (pw_below_drewN (Below.refl _ _) n5) hb6⟩; obtain ⟨_, hl8, hc8⟩ := Kd.S_reads' hs6; have HC8 := Aside0.mk hc8; have HL8 := Aside0.mk hl8; clear hs6 hb6 hc8 hl8 tok5) | (go_at_call 17; (with_reducible refine (laws_eqIntSS.calls kQ C3 g3 ls E1 i1 ls true _ (Kd.C_below HC3.out (below_step HT4.out HT6.out)) HL3.out HC8.out HL8.out HkQ.out).mono ?_); rintro e w7 ⟨rfl, ⟨n7, rfl⟩⟩; have HZ7 : Aside0 (Below w2.heap.size w2 (w6.drewN n7)) := ⟨pw_below_drewN (below_step HZ4.out HT6.out) n7⟩; have HS7 := Aside0.mk (Kd.S_step (w1 := w6.drewN n7) HS3.out (fun q _ hlt => (pw_below_drewN (below_step HT4.out HT6.out) n7).block q hlt)); have HR7 := Aside0.mk (Kd.R_below HR6.out (pw_below_drewN HT6.out n7))) | (go_at_call 18; (with_reducible refine (markIntSS_walk _ (.slice C3 ls.length g3) ls 1 w2 _ HZ7.out HS7.out (by omega) (by rw [HM1.out]; exact HV4.out)).mono ?_); intro e w8 hp8; obtain rfl := hp8.1.trans (by rw [HM1.out]); have HB8 : Aside0 (Below w.heap.size w w8) := ⟨below_far HB2.out hp8.2.2.1⟩; have HZ8 : Aside0 (Below w2.heap.size w2 w8) := ⟨hp8.2.2.1⟩; have HR8 : Aside0 (Kd.R (Kd.int .i64) 3 w8 w2.heap.size (fun q => w3.heap.size ≤ q) (.slice D6 R.length f6) R) := ⟨Kd.R_step HR7.out (fun q hq hlt => hp8.2.2.2.2 q hlt (fun h => by omega))⟩; have HC10 := Aside0.mk (Kd.R_reads' HR8.out).2.2; clear hp8) | (go_at_call 16; have tok6 := HB8; (with_reducible refine (laws_eqIntS.calls kE D6 f6 R D4 f4 R true _ HC10.out HL6.out (Kd.C_below HC4.out HZ8.out) HL4.out HkE.out).mono ?_); rintro e w9 ⟨rfl, ⟨n9, rfl⟩⟩; clear tok6) | (go_at_call 19; (with_reducible refine (laws_markIntS.calls kM (fun q => w3.heap.size ≤ q) (.slice D6 R.length f6) R 1 _ _ w2 _ (pw_below_drewN HZ8.out _) (Kd.R_drewN HR8.out _) HkM.out).mono ?_); rintro e w10 ⟨rfl, hr10, hb10, hk10⟩; have HZ10 : Aside0 (Below w2.heap.size w2 w10) := ⟨hb10⟩; have HB10 : Aside0 (Below w.heap.size w w10) := ⟨below_far HB2.out hb10⟩; have HC11 : Aside0 (Kd.C (Kd.int .i64) w10 D6 (markI 1 R).length (markI 1 R)) := ⟨(Kd.R_reads' hr10).2.2⟩; clear hr10 hb10 hk10) | (go_at_call 20; (with_reducible refine (heldI_at kH D6 f6 R _ _ HC11.out HL6.out HkH.out).mono ?_); rintro e w11 ⟨rfl, ⟨n11, rfl⟩⟩) | (go_at_call 14; have tok7 := HC11; (with_reducible refine (HtQ.out _ (pw_below_drewN HB10.out n11)).mono ?_); rintro e w12 ⟨F1, j1, rfl, hs12, hb12⟩; have HB12 : Aside0 (Below w.heap.size w w12) := ⟨below_step (pw_below_drewN HB10.out n11) hb12⟩; have HZ12 : Aside0 (Below w2.heap.size w2 w12) := ⟨below_step (pw_below_drewN HZ10.out n11) hb12⟩; obtain ⟨_, hl12, hc12⟩ := Kd.S_reads' hs12; have HC12 := Aside0.mk hc12; have HL12 := Aside0.mk hl12; clear hs12 hb12 hc12 hl12 tok7) | (go_at_call 15; have tok8 := HC12; (with_reducible refine (HiV.out _ F1 j1 HC12.out HL12.out).mono ?_); rintro e w13 ⟨v13, rfl, ho13, hb13⟩; have HB13 : Aside0 (Below w.heap.size w w13) := ⟨below_step HB12.out hb13⟩; have HZ13 : Aside0 (Below w2.heap.size w2 w13) := ⟨below_step HZ12.out hb13⟩; obtain ⟨D13, f13, rfl, hl14, hc14⟩ := Kd.R_reads ho13; have HC14 := Aside0.mk hc14; have HL14 := Aside0.mk hl14; clear ho13 hb13 hc14 hl14) | (go_at_call 16; have tok9 := HC14; (with_reducible refine (laws_eqIntS.calls kE D13 f13 R D4 f4 R true _ HC14.out HL14.out (Kd.C_below HC4.out HZ13.out) HL4.out HkE.out).mono ?_); rintro e w14 ⟨rfl, ⟨n14, rfl⟩⟩))
    go_ret
    exact ⟨rfl, pw_below_drewN HB13.out _⟩
end Go.Proofs.Ytkolhpmhbgbphaa.PT
namespace Go.Proofs.Ytkolhpmhbgbphaa.PT
open Go.RowKit Go.Proofs.Ytkolhpmhbgbphaa.P Go.Proofs.YtkolhpmhbgbphaaW.PrintWords Go.Proofs.YtkolhpmhbgbphaaW.PrintLast Go.Proofs.Ytkolhpmhbgbphaa.EvKit
set_option linter.unusedVariables false
set_option linter.unusedSimpArgs false
theorem cntII_nn : ∀ l : List (List Int), 0 ≤ cntII l
  | [] => Int.le_refl _
  | a :: r => by simp only [cntII]; have := cntII_nn r; omega
theorem szSS_tot : ∀ (l : List (List Int)) (a : Int), 0 ≤ szSS a l → (∀ x, x ∈ l → (x.length : Int) ≤ a) ∧ cntII l ≤ a
  | [], a, h => ⟨fun x hx => by simp at hx, by simpa [cntII, szSS] using h⟩
  | y :: r, a, h => by
    simp only [szSS] at h
    by_cases c : a - (y.length : Int) < 0
    · rw [if_pos c] at h; omega
    · rw [if_neg c] at h
      obtain ⟨h1, h2⟩ := szSS_tot r _ h
      refine ⟨fun x hx => ?_, by simp only [cntII]; omega⟩
      rcases List.mem_cons.1 hx with rfl | hx
      · omega
      · have := h1 x hx; omega
theorem intersect_law {A0 : Option Addr} {c0 : Nat} {l0 : List (List Int)} {w : World}
    (hr0 : Kd.C (Kd.slice 3 (Kd.int .i64)) w A0 l0.length l0) (hc0 : l0.length ≤ c0) (g0 : l0.length ≤ maxLen ∧ ∀ x, x ∈ l0 → (x.length ≤ maxLen ∧ ∀ y, y ∈ x → (Lit.int .i64 y).wf = true)) :
    Calls Try.prog 3 #[.slice A0 l0.length c0] w fun e w' => e = .returned (.bool true) ∧ Below w.heap.size w w' := by
  have m1 : ∀ x, x ∈ l0 → x.length ≤ 9223372036854775807 := fun x hx => by have := (g0.2 x hx).1; simp only [maxLen] at this; omega
  have m0 : l0.length ≤ 9223372036854775807 := by have := g0.1; simp only [maxLen] at this; omega
  obtain ⟨kz, hz⟩ := Ev.rounds (szIntSS_ev l0 1048576 m0 m1 (by omega) (by omega))
  have z2 : 0 ≤ szIntSSv l0 1048576 → l0.length ≤ 1048576 ∧ (∀ x, x ∈ l0 → x.length ≤ 1048576) ∧ cntII l0 ≤ 1048576 := by
    intro h
    unfold szIntSSv at h
    by_cases c : (1048576 : Int) - (l0.length : Int) < 0
    · rw [if_pos c] at h; omega
    · rw [if_neg c] at h
      obtain ⟨h1, h2⟩ := szSS_tot l0 _ h
      exact ⟨by omega, fun x hx => by have := h1 x hx; omega, by omega⟩
  have hcn := cntII_nn l0
  generalize szIntSSv l0 1048576 = zQ at *
  refine lawInter_walk A0 c0 l0 (interR l0) zQ w (fun W hW => laws_szIntSS.calls kz A0 c0 l0 _ _ W (Kd.C_below hr0 hW) hc0 hz) (fun h1 W hW => ?_) (fun h1 W A1 c1 r1 b1 => ?_) (fun h1 W A1 c1 r1 b1 => ?_) (fun h1 => ?_)
  · obtain ⟨q1, q2, _⟩ := z2 h1
    obtain ⟨k, hk⟩ := Ev.rounds (toIntSS_ev l0 (by omega) (fun x hx => by have := q2 x hx; omega))
    refine (laws_toIntSS.calls k A0 c0 l0 _ W (Kd.C_below hr0 hW) hc0 hk).mono fun e W' ⟨v1, he, ho1, hb⟩ => ?_
    obtain ⟨A1, c1, rfl⟩ := Kd.S_slice ho1
    exact ⟨A1, c1, he, Kd.S_mono (Kd.S_bound ho1) (fun q hq => hq.2.2.1), hb⟩
  · obtain ⟨q1, q2, _⟩ := z2 h1
    obtain ⟨k, hk⟩ := Ev.rounds (specInter_ev l0 q1 q2)
    exact spec_Intersect.calls k A1 c1 l0 _ W r1 b1 hk
  · obtain ⟨q1, q2, _⟩ := z2 h1
    exact intersect_walk A1 c1 l0 W r1 b1 q2 q1
  · obtain ⟨q1, q2, q3⟩ := z2 h1
    exact ⟨interR_len l0 q2, q1, q2, by omega, hcn⟩
end Go.Proofs.Ytkolhpmhbgbphaa.PT
namespace Go.Proofs.Ytkolhpmhbgbphaa.fnExactIntersect
open Go.ChangeShapes Go.WideShapes Go.ChangeAt Go.RowKit
open Go.ChangeMaps (open_string shut_string)
open Go.Proofs.Ytkolhpmhbgbphaa.Opens Go.Proofs.YtkolhpmhbgbphaaW.PrintWords
set_option linter.unusedVariables false
theorem own : ownKnob Try.prog.godebug = none := by kernel_rfl
theorem laidOut : laidOutB Try.prog = true := by kernel_rfl
def G3 (v : Int) : Prop := (Lit.int .i64 v).wf = true
theorem opens3 : Opens Try.prog (Kd.int .i64) 3 G3 := Opens.int Try.underlying3 (by kernel_rfl)
def G24 (v : (List Int)) : Prop := v.length ≤ maxLen ∧ ∀ x, x ∈ v → G3 x
theorem opens24 : Opens Try.prog (Kd.slice 3 (Kd.int .i64)) 24 G24 := Opens.slice Try.underlying24 (by kernel_rfl) opens3
def G22 (v : (List (List Int))) : Prop := v.length ≤ maxLen ∧ ∀ x, x ∈ v → G24 x
theorem opens22 : Opens Try.prog (Kd.slice 24 (Kd.slice 3 (Kd.int .i64))) 22 G22 := Opens.slice Try.underlying22 (by kernel_rfl) opens24
set_option maxRecDepth 100000 in
theorem lifted (os : Os) (started : os.Started) (H : Type) (enc : TypeId × Value → H) :
    ReturnsInHanded {} Try.checked os 3 .any (Rows.fnExactIntersectSpec.pre6 enc Try.prog Try.f3 Rows.fnExactIntersectRow.domain false) (Rows.fnExactIntersectSpec.post enc Try.prog Try.f3 false true false false) := by
  refine returnsInHanded_of_change_sized (C := Try.checked) own started (by kernel_rfl) Try.func3
    (ChangeSpec.witness6 (enc := enc) (C := Try.checked) false ⟨#[], #[.slice none 0 0], []⟩ 8 (by kernel_rfl) (by kernel_rfl) (by kernel_rfl) (by kernel_rfl)) ?_
  intro W base args ds gs before hval0 hW hcnd hsz0 _
  have hval : ∀ (j : Nat) t v, Try.f3.params[j]? = some t → args[j]? = some v → Value.okWide Try.prog W .any base t v := hval0
  have hW' := hW
  obtain ⟨p, q, hA0, hV, rfl, hfz, hnd⟩ := hW
  have hA : DataW.TrodAll enc Try.prog W 0 (fun _ => true) true Try.f3.params.toList args.toList ds p := hA0
  rw [Try.params3] at hA hval
  obtain ⟨v0, vs0, d0, ds0, p0, q0, hargs, rfl, rfl, h0, r0⟩ := trodAll_cons hA
  obtain ⟨rfl, rfl, rfl⟩ := trodAll_nil r0
  obtain rfl : args = #[v0] := by cases args; simp_all
  obtain ⟨rfl, rfl⟩ := trodVars_none hV
  have k0 := h0
  have lt0 : ∀ x ∈ p0, x.block < W.heap.size := by obtain ⟨m, hm⟩ := k0; exact DataW.trod_lt m _ _ _ hm
  obtain ⟨a0, len0, cap0, rfl⟩ := okWide_slice Try.underlying22 (hval 0 22 v0 rfl rfl)
  obtain ⟨fu0, hf0⟩ := h0
  obtain ⟨x0, hK0, gg0⟩ := (opens22).2 enc W true fu0 _ _ hf0
  obtain ⟨A0, c0, e0, hc0, hr0⟩ := hK0
  obtain ⟨rfl, rfl, rfl⟩ : a0 = A0 ∧ len0 = x0.length ∧ cap0 = c0 := by simpa [Value.cells] using e0
  clear hA0 hval0
  refine (Go.Proofs.Ytkolhpmhbgbphaa.PT.intersect_law (w := W) (A0 := _) (c0 := _) (l0 := x0) (hr0 := hr0) (hc0 := hc0) gg0).mono fun e W' ⟨he, bel⟩ => ?_
  subst he
  exact ⟨_, rfl, _, _, _, [], _, [], hW', trodAll_mk1 (shut_bool Try.underlying4 _), (trodAll_cons_mk (Below.trod laidOut (by kernel_rfl) (of_decide_eq_true (by kernel_rfl)) k0 bel lt0) trodAll_mk0), rfl, bel.frame _, fun h => by cases h⟩
theorem over : Rows.fnExactIntersectRow.holds Try.pinned (OpenSpec.ofChange Rows.fnExactIntersectSpec) :=
  OpenClaim.holds_of_wide 3 Try.f3 rfl rfl rfl rfl rfl rfl rfl ⟨rfl, rfl, rfl, rfl, rfl⟩ rfl rfl rfl rfl rfl (by kernel_rfl) Try.func3 (by kernel_rfl)
    (of_decide_eq_true (by kernel_rfl)) (by unfold Func.isWrapper; first | (rw [if_pos (by decide +kernel)]; kernel_rfl) | (rw [if_neg (by decide +kernel)]; exact ⟨rfl, rfl⟩))
    (fun os started H enc _ => lifted os started H enc)
theorem proved : Rows.FnExactIntersectSaid := over
#print axioms proved
end Go.Proofs.Ytkolhpmhbgbphaa.fnExactIntersect
