/-
  Part 3 of the proof of this: The law FnExactPrintData answers true at every argument.
-/
import Derived.Test.YtjlglimikbfgmaaDoorKPrintData1
import Derived.Test.YtjlglimikbfgmaaDoorKPrintData2
import Derived.MapKept
import Derived.WideKeyRuns
import Derived.Maps.OwnSet
import Derived.Laws.ByValue
namespace Go.Proofs.YtjlglimikbfgmaaDoor.P
open Go.RowKit Go.Proofs.YtjlglimikbfgmaaDoorW.PrintWords Go.Proofs.YtjlglimikbfgmaaDoorW.PrintLast Go.Proofs.YtjlglimikbfgmaaDoorW.PrintMore
attribute [local go_sem] max2_int min2_int max_two min_two max_three min_three max_four min_four
set_option linter.unusedVariables false
set_option linter.unusedSimpArgs false
mutual
def spec_l2Compare.l0 : Nat → List Int → List Int → Int → Option (Int)
 | 0, _, _, _ => none
 | k + 1, x0, x1, x5 => if x5 < (x0.length : Int) then (spec_l2Compare.j1 k x0 x1 x5 (decide (x5 < (x1.length : Int)))) else (spec_l2Compare.j1 k x0 x1 x5 false)
def spec_l2Compare.j1 : Nat → List Int → List Int → Int → Bool → Option (Int)
 | 0, _, _, _, _ => none
 | k + 1, x0, x1, x5, x15 => if x15 = true then (if 0 ≤ x5 then (if x5 < (x0.length : Int) then (if x5 < (x1.length : Int) then (if (rd x0 x5) < (rd x1 x5) then (some (-1)) else (if (rd x0 x5) > (rd x1 x5) then (some 1) else (spec_l2Compare.l0 k x0 x1 (wrap64 (x5 + 1))))) else (none)) else (none)) else (none)) else (if (x0.length : Int) = (x1.length : Int) then (some 0) else (if (x0.length : Int) < (x1.length : Int) then (some (-1)) else (some 1)))
end
def spec_l2Compare.f (k : Nat) (l0 : List Int) (l1 : List Int) : Option (Int) := spec_l2Compare.l0 k l0 l1 0
theorem spec_l2Compare.mono_l : ∀ k, (∀ y0 y1 y2, LeO (spec_l2Compare.l0 k y0 y1 y2) (spec_l2Compare.l0 (k + 1) y0 y1 y2)) ∧ (∀ y0 y1 y2 y3, LeO (spec_l2Compare.j1 k y0 y1 y2 y3) (spec_l2Compare.j1 (k + 1) y0 y1 y2 y3))
 | 0 => ⟨fun _ _ _ r h => by simp [spec_l2Compare.l0] at h, fun _ _ _ _ r h => by simp [spec_l2Compare.j1] at h⟩
 | k + 1 => by
  obtain ⟨ih0, ih1⟩ := spec_l2Compare.mono_l k
  refine ⟨?_, ?_⟩
  ·intro y0 y1 y2
   unfold spec_l2Compare.l0
   repeat' first
   | (with_reducible exact ih0 _ _ _)
   | (with_reducible exact ih1 _ _ _ _)
   | (with_reducible exact LeO.refl _)
   | (with_reducible exact LeO.none _)
   | (with_reducible refine LeO.ite ?_ ?_)
   | (with_reducible refine LeO.bind ?_ (fun _ => ?_))
   | exact ih0 _ _ _
   | exact ih1 _ _ _ _
   | exact LeO.none _
   | refine LeO.ite ?_ ?_
   | refine LeO.bind ?_ (fun _ => ?_)
  ·intro y0 y1 y2 y3
   unfold spec_l2Compare.j1
   repeat' first
   | (with_reducible exact ih0 _ _ _)
   | (with_reducible exact ih1 _ _ _ _)
   | (with_reducible exact LeO.refl _)
   | (with_reducible exact LeO.none _)
   | (with_reducible refine LeO.ite ?_ ?_)
   | (with_reducible refine LeO.bind ?_ (fun _ => ?_))
   | exact ih0 _ _ _
   | exact ih1 _ _ _ _
   | exact LeO.none _
   | refine LeO.ite ?_ ?_
   | refine LeO.bind ?_ (fun _ => ?_)
theorem spec_l2Compare.mono : ∀ a0 a1 k, LeO (spec_l2Compare.f k a0 a1) (spec_l2Compare.f (k + 1) a0 a1) := by
 intro a0 a1 k
 obtain ⟨ih0, ih1⟩ := spec_l2Compare.mono_l k
 unfold spec_l2Compare.f
 repeat' first
   | (with_reducible exact ih0 _ _ _)
   | (with_reducible exact ih1 _ _ _ _)
   | (with_reducible exact LeO.refl _)
   | (with_reducible exact LeO.none _)
   | (with_reducible refine LeO.ite ?_ ?_)
   | (with_reducible refine LeO.bind ?_ (fun _ => ?_))
   | exact ih0 _ _ _
   | exact ih1 _ _ _ _
   | exact LeO.none _
   | refine LeO.ite ?_ ?_
   | refine LeO.bind ?_ (fun _ => ?_)
set_option maxHeartbeats 8000000 in
set_option maxRecDepth 100000 in
theorem spec_l2Compare.calls (k : Nat) (A0 : Option Addr) (c0 : Nat) (l0 : List Int) (A1 : Option Addr) (c1 : Nat) (l1 : List Int) (r : Int) (w : World) (hr0 : Kd.C (Kd.int .i64) w A0 l0.length l0) (hc0 : l0.length ≤ c0) (hr1 : Kd.C (Kd.int .i64) w A1 l1.length l1) (hc1 : l1.length ≤ c1) (h : spec_l2Compare.f k l0 l1 = some r) :
  Calls Tryd.prog 92 #[.slice A0 l0.length c0, .slice A1 l1.length c1] w fun e w' => e = .returned (.int .i64 r) ∧ Drawn0 w w' := by
 have HR0 := Aside0.mk hr0
 have HC0 := Aside0.mk hc0
 clear hr0 hc0
 have HR1 := Aside0.mk hr1
 have HC1 := Aside0.mk hc1
 clear hr1 hc1
 have H : (spec_l2Compare.l0 k l0 l1 0) = some r := h
 clear h
 have H' := Aside0.mk H
 clear H
 go_enter Tryd.func92, Tryd.ntmps92
 go_wp2
 repeat (go_quiet (fail); try go_wp2)
 go_loopg [5] k (fun kq v5 w' => ∃ (x5_1 : Int), v5 = .int .i64 x5_1 ∧ Aside0 (spec_l2Compare.l0 kq l0 l1 x5_1 = some r) ∧ Aside0 (kq ≤ k) ∧ Drawn0 w w')
 case atStart => exact ⟨(0), (by first | rfl | (simp; done) | (simp [*]; done)), H', ⟨Nat.le_refl _⟩, by repeat (first | exact Drawn0.refl _ | apply Drawn0.step)⟩
 case round =>
  clear H'
  try clear c1
  try clear p2
  obtain ⟨x5_1, rfl, HA, HK1, ⟨m1, rfl⟩⟩ := hrel
  cases gk with
  | zero => exact absurd HA.out (by simp [spec_l2Compare.l0])
  | succ k1 =>
   have H := HA.out
   clear HA
   simp only [spec_l2Compare.l0] at H
   have HC3 := Aside0.mk H
   clear H
   go_upto_region 2 with (fail)
   repeat (go_quiet (fail); go_upto_region 2 with (fail))
   go_cut [15] (fun v15 wc => ∃ (kq : Nat) (x15_2 : Bool), v15 = .bool x15_2 ∧ Aside0 (spec_l2Compare.j1 kq l0 l1 x5_1 x15_2 = some r) ∧ Aside0 (kq ≤ k1) ∧ Drawn0 w wc)
   case first =>
    have H := HC3.out
    clear HC3
    by_cases c4 : x5_1 < (l0.length : Int)
    ·rw [if_pos c4] at H
     have c4b0 : decide (x5_1 < (l0.length : Int)) = true := decide_eq_true c4
     clear c4
     (first | rw [c4b0] | (simp only [i64_w, i32_w]; rw [c4b0]) | skip)
     have H' := Aside0.mk H
     clear H
     go_wp2
     repeat (go_quiet (fail); try go_wp2)
     go_meet
     case rel => exact ⟨_, (decide (x5_1 < (l1.length : Int))), (by first | rfl | (simp; done) | (simp [*]; done)), H', ⟨by have := HK1.out; first | omega | exact Nat.le_refl _⟩, by repeat (first | exact Drawn0.refl _ | apply Drawn0.step)⟩
    ·rw [if_neg c4] at H
     have c4b0 : decide (x5_1 < (l0.length : Int)) = false := decide_eq_false c4
     clear c4
     (first | rw [c4b0] | (simp only [i64_w, i32_w]; rw [c4b0]) | skip)
     have H' := Aside0.mk H
     clear H
     go_wp2
     repeat (go_quiet (fail); try go_wp2)
     go_meet
     case rel => exact ⟨_, (false), (by first | rfl | (simp; done) | (simp [*]; done)), H', ⟨by have := HK1.out; first | omega | exact Nat.le_refl _⟩, by repeat (first | exact Drawn0.refl _ | apply Drawn0.step)⟩
   case rest =>
    clear HC3
    try clear c1
    try clear p2
    try clear c4
    try clear c4b0
    try clear p2
    obtain ⟨kq, x15_2, rfl, HA, HJ2, ⟨mc2, rfl⟩⟩ := hcut
    cases kq with
    | zero => exact absurd HA.out (by simp [spec_l2Compare.j1])
    | succ kj2 =>
     have H := HA.out
     clear HA
     simp only [spec_l2Compare.j1] at H
     by_cases c5 : x15_2 = true
     ·subst c5
      have H1 : (if 0 ≤ x5_1 then (if x5_1 < (l0.length : Int) then (if x5_1 < (l1.length : Int) then (if (rd l0 x5_1) < (rd l1 x5_1) then (some (-1)) else (if (rd l0 x5_1) > (rd l1 x5_1) then (some 1) else (spec_l2Compare.l0 kj2 l0 l1 (wrap64 (x5_1 + 1))))) else (none)) else (none)) else (none)) = some r := by rw [if_pos rfl] at H; exact H
      clear H
      have H := H1
      clear H1
      by_cases c6 : 0 ≤ x5_1
      ·rw [if_pos c6] at H
       have c6b0 : decide (0 ≤ x5_1) = true := decide_eq_true c6
       clear c6
       by_cases c7 : x5_1 < (l0.length : Int)
       ·rw [if_pos c7] at H
        have c7b0 : decide (x5_1 < (l0.length : Int)) = true := decide_eq_true c7
        clear c7
        by_cases c8 : x5_1 < (l1.length : Int)
        ·rw [if_pos c8] at H
         have c8b0 : decide (x5_1 < (l1.length : Int)) = true := decide_eq_true c8
         clear c8
         by_cases c9 : (rd l0 x5_1) < (rd l1 x5_1)
         ·rw [if_pos c9] at H
          have c9b0 : decide ((rd l0 x5_1) < (rd l1 x5_1)) = true := decide_eq_true c9
          clear c9
          obtain rfl := Option.some.inj H
          have p113 : 0 ≤ (x5_1 : Int) := of_decide_eq_true (by first | (with_reducible assumption) | assumption)
          have q113 : x5_1 < (l0.length : Int) := of_decide_eq_true (by first | (with_reducible assumption) | assumption)
          obtain ⟨ad113, e113, hx113_0⟩ := Kd.at_int HR0.out x5_1 p113 q113
          cases e113
          replace p113 := eq_true p113
          replace q113 := eq_true q113
          have p114 : 0 ≤ (x5_1 : Int) := of_decide_eq_true (by first | (with_reducible assumption) | assumption)
          have q114 : x5_1 < (l1.length : Int) := of_decide_eq_true (by first | (with_reducible assumption) | assumption)
          obtain ⟨ad114, e114, hx114_0⟩ := Kd.at_int HR1.out x5_1 p114 q114
          cases e114
          replace p114 := eq_true p114
          replace q114 := eq_true q114
          go_wp2
          repeat (go_quiet (fail); try go_wp2)
          go_ret
          exact ⟨by first | rfl | (simp; done) | (simp [*]; done), by repeat (first | exact Drawn0.refl _ | apply Drawn0.step)⟩
         ·rw [if_neg c9] at H
          have c9b0 : decide ((rd l0 x5_1) < (rd l1 x5_1)) = false := decide_eq_false c9
          clear c9
          by_cases c10 : (rd l0 x5_1) > (rd l1 x5_1)
          ·rw [if_pos c10] at H
           have c10b0 : decide ((rd l1 x5_1) < (rd l0 x5_1)) = true := decide_eq_true c10
           clear c10
           obtain rfl := Option.some.inj H
           have p113 : 0 ≤ (x5_1 : Int) := of_decide_eq_true (by first | (with_reducible assumption) | assumption)
           have q113 : x5_1 < (l0.length : Int) := of_decide_eq_true (by first | (with_reducible assumption) | assumption)
           obtain ⟨ad113, e113, hx113_0⟩ := Kd.at_int HR0.out x5_1 p113 q113
           cases e113
           replace p113 := eq_true p113
           replace q113 := eq_true q113
           have p114 : 0 ≤ (x5_1 : Int) := of_decide_eq_true (by first | (with_reducible assumption) | assumption)
           have q114 : x5_1 < (l1.length : Int) := of_decide_eq_true (by first | (with_reducible assumption) | assumption)
           obtain ⟨ad114, e114, hx114_0⟩ := Kd.at_int HR1.out x5_1 p114 q114
           cases e114
           replace p114 := eq_true p114
           replace q114 := eq_true q114
           have p115 : 0 ≤ (x5_1 : Int) := of_decide_eq_true (by first | (with_reducible assumption) | assumption)
           have q115 : x5_1 < (l0.length : Int) := of_decide_eq_true (by first | (with_reducible assumption) | assumption)
           obtain ⟨ad115, e115, hx115_0⟩ := Kd.at_int HR0.out x5_1 p115 q115
           obtain rfl : ad113 = ad115 := (by injection e115)
           replace p115 := eq_true p115
           replace q115 := eq_true q115
           have p116 : 0 ≤ (x5_1 : Int) := of_decide_eq_true (by first | (with_reducible assumption) | assumption)
           have q116 : x5_1 < (l1.length : Int) := of_decide_eq_true (by first | (with_reducible assumption) | assumption)
           obtain ⟨ad116, e116, hx116_0⟩ := Kd.at_int HR1.out x5_1 p116 q116
           obtain rfl : ad114 = ad116 := (by injection e116)
           replace p116 := eq_true p116
           replace q116 := eq_true q116
           go_wp2
           repeat (go_quiet (fail); try go_wp2)
           go_ret
           exact ⟨by first | rfl | (simp; done) | (simp [*]; done), by repeat (first | exact Drawn0.refl _ | apply Drawn0.step)⟩
          ·rw [if_neg c10] at H
           have c10b0 : decide ((rd l1 x5_1) < (rd l0 x5_1)) = false := decide_eq_false c10
           clear c10
           have H' := Aside0.mk H
           clear H
           have p113 : 0 ≤ (x5_1 : Int) := of_decide_eq_true (by first | (with_reducible assumption) | assumption)
           have q113 : x5_1 < (l0.length : Int) := of_decide_eq_true (by first | (with_reducible assumption) | assumption)
           obtain ⟨ad113, e113, hx113_0⟩ := Kd.at_int HR0.out x5_1 p113 q113
           cases e113
           replace p113 := eq_true p113
           replace q113 := eq_true q113
           have p114 : 0 ≤ (x5_1 : Int) := of_decide_eq_true (by first | (with_reducible assumption) | assumption)
           have q114 : x5_1 < (l1.length : Int) := of_decide_eq_true (by first | (with_reducible assumption) | assumption)
           obtain ⟨ad114, e114, hx114_0⟩ := Kd.at_int HR1.out x5_1 p114 q114
           cases e114
           replace p114 := eq_true p114
           replace q114 := eq_true q114
           have p115 : 0 ≤ (x5_1 : Int) := of_decide_eq_true (by first | (with_reducible assumption) | assumption)
           have q115 : x5_1 < (l0.length : Int) := of_decide_eq_true (by first | (with_reducible assumption) | assumption)
           obtain ⟨ad115, e115, hx115_0⟩ := Kd.at_int HR0.out x5_1 p115 q115
           obtain rfl : ad113 = ad115 := (by injection e115)
           replace p115 := eq_true p115
           replace q115 := eq_true q115
           have p116 : 0 ≤ (x5_1 : Int) := of_decide_eq_true (by first | (with_reducible assumption) | assumption)
           have q116 : x5_1 < (l1.length : Int) := of_decide_eq_true (by first | (with_reducible assumption) | assumption)
           obtain ⟨ad116, e116, hx116_0⟩ := Kd.at_int HR1.out x5_1 p116 q116
           obtain rfl : ad114 = ad116 := (by injection e116)
           replace p116 := eq_true p116
           replace q116 := eq_true q116
           go_wp2
           repeat (go_quiet (fail); try go_wp2)
           go_roundg kj2
           case measure => have := HK1.out; have := HJ2.out; omega
           case rel => exact ⟨(wrap64 (x5_1 + 1)), (by first | rfl | (simp; done) | (simp [*]; done)), H', ⟨by have := HK1.out; have := HJ2.out; omega⟩, by repeat (first | exact Drawn0.refl _ | apply Drawn0.step)⟩
        ·rw [if_neg c8] at H
         exact absurd H (by simp)
       ·rw [if_neg c7] at H
        exact absurd H (by simp)
      ·rw [if_neg c6] at H
       exact absurd H (by simp)
     ·replace c5 := Bool.eq_false_iff.mpr c5
      subst c5
      have H1 : (if (l0.length : Int) = (l1.length : Int) then (some 0) else (if (l0.length : Int) < (l1.length : Int) then (some (-1)) else (some 1))) = some r := by rw [if_neg (show ¬ (false = true) by decide)] at H; exact H
      clear H
      have H := H1
      clear H1
      by_cases c11 : (l0.length : Int) = (l1.length : Int)
      ·rw [if_pos c11] at H
       have c11b0 : ((l0.length : Int) == (l1.length : Int)) = true := beq_iff_eq.mpr c11
       have c11b1 : ((l0.length : Int) != (l1.length : Int)) = false := bne_eq_false_iff_eq.mpr c11
       have c11b2 : (l0.length == l1.length) = true := by first | simpa using c11 | (simp at c11 ⊢; omega)
       clear c11
       obtain rfl := Option.some.inj H
       go_wp2
       repeat (go_quiet (fail); try go_wp2)
       go_ret
       exact ⟨by first | rfl | (simp; done) | (simp [*]; done), by repeat (first | exact Drawn0.refl _ | apply Drawn0.step)⟩
      ·rw [if_neg c11] at H
       have c11b0 : ((l0.length : Int) == (l1.length : Int)) = false := beq_eq_false_iff_ne.mpr c11
       have c11b1 : ((l0.length : Int) != (l1.length : Int)) = true := bne_iff_ne.mpr c11
       have c11b2 : (l0.length == l1.length) = false := by first | simpa using c11 | (simp at c11 ⊢; omega)
       by_cases c12 : (l0.length : Int) < (l1.length : Int)
       ·rw [if_pos c12] at H
        have c12b0 : decide ((l0.length : Int) < (l1.length : Int)) = true := decide_eq_true c12
        have c12b1 : decide (l0.length < l1.length) = true := decide_eq_true (Int.ofNat_lt.mp c12)
        clear c12
        obtain rfl := Option.some.inj H
        go_wp2
        repeat (go_quiet (fail); try go_wp2)
        go_ret
        exact ⟨by first | rfl | (simp; done) | (simp [*]; done), by repeat (first | exact Drawn0.refl _ | apply Drawn0.step)⟩
       ·rw [if_neg c12] at H
        have c12b0 : decide ((l0.length : Int) < (l1.length : Int)) = false := decide_eq_false c12
        have c12b1 : decide (l0.length < l1.length) = false := decide_eq_false (fun h => c12 (Int.ofNat_lt.mpr h))
        clear c12
        obtain rfl := Option.some.inj H
        go_wp2
        repeat (go_quiet (fail); try go_wp2)
        go_ret
        exact ⟨by first | rfl | (simp; done) | (simp [*]; done), by repeat (first | exact Drawn0.refl _ | apply Drawn0.step)⟩
end Go.Proofs.YtjlglimikbfgmaaDoor.P
namespace Go.Proofs.YtjlglimikbfgmaaDoor.P
open Go.RowKit Go.Proofs.YtjlglimikbfgmaaDoorW.PrintWords Go.Proofs.YtjlglimikbfgmaaDoorW.PrintLast Go.Proofs.YtjlglimikbfgmaaDoorW.PrintMore
attribute [local go_sem] max2_int min2_int max_two min_two max_three min_three max_four min_four
set_option linter.unusedVariables false
set_option linter.unusedSimpArgs false
def spec_l2SortedRows.l0 : Nat → List (List Int) → Int → List (List Int) → Int → Int → Option (Bool)
 | 0, _, _, _, _, _ => none
 | k + 1, x0, x1, x7, x8, x9 => if x9 < x8 then (if 0 ≤ x9 then (if x9 < (x7.length : Int) then (if ((rd_L1 x7 x9).length : Int) = x1 then (if x9 > 0 then (if 0 ≤ (wrap64 (x9 - 1)) then (if (wrap64 (x9 - 1)) < (x0.length : Int) then ((spec_l2Compare.f k (rd_L1 x0 (wrap64 (x9 - 1))) (rd_L1 x7 x9)).bind fun t119 => (if t119 ≥ 0 then (some false) else (spec_l2SortedRows.l0 k x0 x1 x7 x8 (wrap64 (x9 + 1))))) else (none)) else (none)) else (spec_l2SortedRows.l0 k x0 x1 x7 x8 (wrap64 (x9 + 1)))) else (some false)) else (none)) else (none)) else (some true)
def spec_l2SortedRows.f (k : Nat) (l0 : List (List Int)) (a1 : Int) : Option (Bool) := spec_l2SortedRows.l0 k l0 a1 l0 (l0.length : Int) 0
theorem spec_l2SortedRows.mono_l : ∀ k, (∀ y0 y1 y2 y3 y4, LeO (spec_l2SortedRows.l0 k y0 y1 y2 y3 y4) (spec_l2SortedRows.l0 (k + 1) y0 y1 y2 y3 y4))
 | 0 => fun _ _ _ _ _ r h => by simp [spec_l2SortedRows.l0] at h
 | k + 1 => by
  have ih0 := spec_l2SortedRows.mono_l k
  ·intro y0 y1 y2 y3 y4
   unfold spec_l2SortedRows.l0
   repeat' first
   | (with_reducible exact ih0 _ _ _ _ _)
   | (with_reducible exact spec_l2Compare.mono _ _ _)
   | (with_reducible exact LeO.refl _)
   | (with_reducible exact LeO.none _)
   | (with_reducible refine LeO.ite ?_ ?_)
   | (with_reducible refine LeO.bind ?_ (fun _ => ?_))
   | exact ih0 _ _ _ _ _
   | exact spec_l2Compare.mono _ _ _
   | exact LeO.none _
   | refine LeO.ite ?_ ?_
   | refine LeO.bind ?_ (fun _ => ?_)
theorem spec_l2SortedRows.mono : ∀ a0 a1 k, LeO (spec_l2SortedRows.f k a0 a1) (spec_l2SortedRows.f (k + 1) a0 a1) := by
 intro a0 a1 k
 have ih0 := spec_l2SortedRows.mono_l k
 unfold spec_l2SortedRows.f
 repeat' first
   | (with_reducible exact ih0 _ _ _ _ _)
   | (with_reducible exact spec_l2Compare.mono _ _ _)
   | (with_reducible exact LeO.refl _)
   | (with_reducible exact LeO.none _)
   | (with_reducible refine LeO.ite ?_ ?_)
   | (with_reducible refine LeO.bind ?_ (fun _ => ?_))
   | exact ih0 _ _ _ _ _
   | exact spec_l2Compare.mono _ _ _
   | exact LeO.none _
   | refine LeO.ite ?_ ?_
   | refine LeO.bind ?_ (fun _ => ?_)
set_option maxHeartbeats 8000000 in
set_option maxRecDepth 100000 in
theorem spec_l2SortedRows.calls (k : Nat) (A0 : Option Addr) (c0 : Nat) (l0 : List (List Int)) (a1 : Int) (r : Bool) (w : World) (hr0 : Kd.C (Kd.slice 3 (Kd.int .i64)) w A0 l0.length l0) (hc0 : l0.length ≤ c0) (h : spec_l2SortedRows.f k l0 a1 = some r) :
  Calls Tryd.prog 56 #[.slice A0 l0.length c0, .int .i64 a1] w fun e w' => e = .returned (.bool r) ∧ Drawn0 w w' := by
 have HR0 := Aside0.mk hr0
 have HC0 := Aside0.mk hc0
 clear hr0 hc0
 have H : (spec_l2SortedRows.l0 k l0 a1 l0 (l0.length : Int) 0) = some r := h
 clear h
 have H' := Aside0.mk H
 clear H
 go_enter Tryd.func56, Tryd.ntmps56
 go_wp2
 go_loopg [9] k (fun kq v9 w' => ∃ (x9_1 : Int), v9 = .int .i64 x9_1 ∧ Aside0 (spec_l2SortedRows.l0 kq l0 a1 l0 (l0.length : Int) x9_1 = some r) ∧ Aside0 (kq ≤ k) ∧ Drawn0 w w')
 case atStart => exact ⟨(0), (by first | rfl | (simp; done) | (simp [*]; done)), H', ⟨Nat.le_refl _⟩, by repeat (first | exact Drawn0.refl _ | apply Drawn0.step)⟩
 case round =>
  clear H'
  try clear p2
  obtain ⟨x9_1, rfl, HA, HK1, ⟨m1, rfl⟩⟩ := hrel
  cases gk with
  | zero => exact absurd HA.out (by simp [spec_l2SortedRows.l0])
  | succ k1 =>
   have H := HA.out
   clear HA
   simp only [spec_l2SortedRows.l0] at H
   by_cases c3 : x9_1 < (l0.length : Int)
   ·rw [if_pos c3] at H
    have c3b0 : decide (x9_1 < (l0.length : Int)) = true := decide_eq_true c3
    clear c3
    by_cases c4 : 0 ≤ x9_1
    ·rw [if_pos c4] at H
     have c4b0 : decide (0 ≤ x9_1) = true := decide_eq_true c4
     clear c4
     by_cases c5 : x9_1 < (l0.length : Int)
     ·rw [if_pos c5] at H
      have c5b0 : decide (x9_1 < (l0.length : Int)) = true := decide_eq_true c5
      clear c5
      by_cases c6 : ((rd_L1 l0 x9_1).length : Int) = a1
      ·rw [if_pos c6] at H
       have c6b0 : (((rd_L1 l0 x9_1).length : Int) == a1) = true := beq_iff_eq.mpr c6
       have c6b1 : (((rd_L1 l0 x9_1).length : Int) != a1) = false := bne_eq_false_iff_eq.mpr c6
       clear c6
       by_cases c7 : x9_1 > 0
       ·rw [if_pos c7] at H
        have c7b0 : decide (0 < x9_1) = true := decide_eq_true c7
        clear c7
        obtain ⟨ji8, hji8⟩ : ∃ j_ : Int, (wrap64 (x9_1 - 1)) = j_ := ⟨_, rfl⟩
        replace H : (if 0 ≤ (ji8) then (if (ji8) < (l0.length : Int) then ((spec_l2Compare.f k1 (rd_L1 l0 (ji8)) (rd_L1 l0 x9_1)).bind fun t119 => (if t119 ≥ 0 then (some false) else (spec_l2SortedRows.l0 k1 l0 a1 l0 (l0.length : Int) (wrap64 (x9_1 + 1))))) else (none)) else (none)) = some r := by first | (rw [hji8] at H; exact H) | (simp only [hji8] at H ⊢; exact H)
        have hji8w : (IntKind.i64.wrap (x9_1 - 1)) = ji8 := (i64_w _).trans hji8
        by_cases c9 : 0 ≤ (ji8)
        ·rw [if_pos c9] at H
         have c9b0 : decide (0 ≤ (ji8)) = true := decide_eq_true c9
         clear c9
         by_cases c10 : (ji8) < (l0.length : Int)
         ·rw [if_pos c10] at H
          have c10b0 : decide ((ji8) < (l0.length : Int)) = true := decide_eq_true c10
          clear c10
          replace H := Option.bind_eq_some_iff.mp H
          obtain ⟨t119, A110, H⟩ := H
          replace H : (if t119 ≥ 0 then (some false) else (spec_l2SortedRows.l0 k1 l0 a1 l0 (l0.length : Int) (wrap64 (x9_1 + 1)))) = some r := H
          have A11 := Aside0.mk A110
          clear A110
          by_cases c12 : t119 ≥ 0
          ·rw [if_pos c12] at H
           have c12b0 : decide (0 ≤ t119) = true := decide_eq_true c12
           clear c12
           obtain rfl := Option.some.inj H
           have p117 : 0 ≤ (x9_1 : Int) := of_decide_eq_true (by first | (with_reducible assumption) | assumption)
           have q117 : x9_1 < (l0.length : Int) := of_decide_eq_true (by first | (with_reducible assumption) | assumption)
           obtain ⟨ad117, A117_0, c117_0, e117, hx117_0, hl117_0, hi117_0⟩ := at_L1 HR0.out x9_1 p117 q117
           cases e117
           have HR117_0 := Aside0.mk hi117_0
           have HC117_0 := Aside0.mk hl117_0
           clear hi117_0 hl117_0
           replace p117 := eq_true p117
           replace q117 := eq_true q117
           have p118 : 0 ≤ ((ji8) : Int) := of_decide_eq_true (by first | (with_reducible assumption) | assumption)
           have q118 : (ji8) < (l0.length : Int) := of_decide_eq_true (by first | (with_reducible assumption) | assumption)
           obtain ⟨ad118, A118_0, c118_0, e118, hx118_0, hl118_0, hi118_0⟩ := at_L1 HR0.out (ji8) p118 q118
           obtain rfl : ad117 = ad118 := (by injection e118)
           have HR118_0 := Aside0.mk hi118_0
           have HC118_0 := Aside0.mk hl118_0
           clear hi118_0 hl118_0
           replace p118 := eq_true p118
           replace q118 := eq_true q118
           go_wp2_with (first | (go_at_call 92; (with_reducible refine (spec_l2Compare.calls k1 _ _ (rd_L1 l0 (ji8)) _ _ (rd_L1 l0 x9_1) t119 _ ?side1 ?side2 ?side3 ?side4 A11.out).mono ?_); (case side1 => repeat (first | exact HR118_0.out | (with_reducible refine Kd.C_alloc ?_ _) | (with_reducible refine Kd.C_drewN ?_ _) | (with_reducible refine Kd.C_drew ?_))); (case side2 => exact HC118_0.out); (case side3 => repeat (first | exact HR117_0.out | (with_reducible refine Kd.C_alloc ?_ _) | (with_reducible refine Kd.C_drewN ?_ _) | (with_reducible refine Kd.C_drew ?_))); (case side4 => exact HC117_0.out); rintro e w' ⟨rfl, ⟨nd, rfl⟩⟩))
           go_ret
           exact ⟨by first | rfl | (simp; done) | (simp only [← hji8] <;> (first | rfl | simp)) | (simp [*]; done), by repeat (first | exact Drawn0.refl _ | apply Drawn0.step)⟩
          ·rw [if_neg c12] at H
           have c12b0 : decide (0 ≤ t119) = false := decide_eq_false c12
           clear c12
           have H' := Aside0.mk H
           clear H
           have p117 : 0 ≤ (x9_1 : Int) := of_decide_eq_true (by first | (with_reducible assumption) | assumption)
           have q117 : x9_1 < (l0.length : Int) := of_decide_eq_true (by first | (with_reducible assumption) | assumption)
           obtain ⟨ad117, A117_0, c117_0, e117, hx117_0, hl117_0, hi117_0⟩ := at_L1 HR0.out x9_1 p117 q117
           cases e117
           have HR117_0 := Aside0.mk hi117_0
           have HC117_0 := Aside0.mk hl117_0
           clear hi117_0 hl117_0
           replace p117 := eq_true p117
           replace q117 := eq_true q117
           have p118 : 0 ≤ ((ji8) : Int) := of_decide_eq_true (by first | (with_reducible assumption) | assumption)
           have q118 : (ji8) < (l0.length : Int) := of_decide_eq_true (by first | (with_reducible assumption) | assumption)
           obtain ⟨ad118, A118_0, c118_0, e118, hx118_0, hl118_0, hi118_0⟩ := at_L1 HR0.out (ji8) p118 q118
           obtain rfl : ad117 = ad118 := (by injection e118)
           have HR118_0 := Aside0.mk hi118_0
           have HC118_0 := Aside0.mk hl118_0
           clear hi118_0 hl118_0
           replace p118 := eq_true p118
           replace q118 := eq_true q118
           go_wp2_with (first | (go_at_call 92; (with_reducible refine (spec_l2Compare.calls k1 _ _ (rd_L1 l0 (ji8)) _ _ (rd_L1 l0 x9_1) t119 _ ?side1 ?side2 ?side3 ?side4 A11.out).mono ?_); (case side1 => repeat (first | exact HR118_0.out | (with_reducible refine Kd.C_alloc ?_ _) | (with_reducible refine Kd.C_drewN ?_ _) | (with_reducible refine Kd.C_drew ?_))); (case side2 => exact HC118_0.out); (case side3 => repeat (first | exact HR117_0.out | (with_reducible refine Kd.C_alloc ?_ _) | (with_reducible refine Kd.C_drewN ?_ _) | (with_reducible refine Kd.C_drew ?_))); (case side4 => exact HC117_0.out); rintro e w' ⟨rfl, ⟨nd, rfl⟩⟩))
           go_roundg k1
           case measure => have := HK1.out; omega
           case rel => exact ⟨(wrap64 (x9_1 + 1)), (by first | rfl | (simp; done) | (simp [*]; done)), H', ⟨by have := HK1.out; omega⟩, by repeat (first | exact Drawn0.refl _ | apply Drawn0.step)⟩
         ·rw [if_neg c10] at H
          exact absurd H (by simp)
        ·rw [if_neg c9] at H
         exact absurd H (by simp)
       ·rw [if_neg c7] at H
        have c7b0 : decide (0 < x9_1) = false := decide_eq_false c7
        clear c7
        have H' := Aside0.mk H
        clear H
        have p117 : 0 ≤ (x9_1 : Int) := of_decide_eq_true (by first | (with_reducible assumption) | assumption)
        have q117 : x9_1 < (l0.length : Int) := of_decide_eq_true (by first | (with_reducible assumption) | assumption)
        obtain ⟨ad117, A117_0, c117_0, e117, hx117_0, hl117_0, hi117_0⟩ := at_L1 HR0.out x9_1 p117 q117
        cases e117
        have HR117_0 := Aside0.mk hi117_0
        have HC117_0 := Aside0.mk hl117_0
        clear hi117_0 hl117_0
        replace p117 := eq_true p117
        replace q117 := eq_true q117
        go_wp2
        go_roundg k1
        case measure => have := HK1.out; omega
        case rel => exact ⟨(wrap64 (x9_1 + 1)), (by first | rfl | (simp; done) | (simp [*]; done)), H', ⟨by have := HK1.out; omega⟩, by repeat (first | exact Drawn0.refl _ | apply Drawn0.step)⟩
      ·rw [if_neg c6] at H
       have c6b0 : (((rd_L1 l0 x9_1).length : Int) == a1) = false := beq_eq_false_iff_ne.mpr c6
       have c6b1 : (((rd_L1 l0 x9_1).length : Int) != a1) = true := bne_iff_ne.mpr c6
       obtain rfl := Option.some.inj H
       have p117 : 0 ≤ (x9_1 : Int) := of_decide_eq_true (by first | (with_reducible assumption) | assumption)
       have q117 : x9_1 < (l0.length : Int) := of_decide_eq_true (by first | (with_reducible assumption) | assumption)
       obtain ⟨ad117, A117_0, c117_0, e117, hx117_0, hl117_0, hi117_0⟩ := at_L1 HR0.out x9_1 p117 q117
       cases e117
       have HR117_0 := Aside0.mk hi117_0
       have HC117_0 := Aside0.mk hl117_0
       clear hi117_0 hl117_0
       replace p117 := eq_true p117
       replace q117 := eq_true q117
       go_wp2
       go_ret
       exact ⟨by first | rfl | (simp; done) | (simp [*]; done), by repeat (first | exact Drawn0.refl _ | apply Drawn0.step)⟩
     ·rw [if_neg c5] at H
      exact absurd H (by simp)
    ·rw [if_neg c4] at H
     exact absurd H (by simp)
   ·rw [if_neg c3] at H
    have c3b0 : decide (x9_1 < (l0.length : Int)) = false := decide_eq_false c3
    clear c3
    obtain rfl := Option.some.inj H
    go_wp2
    go_ret
    exact ⟨by first | rfl | (simp; done) | (simp [*]; done), by repeat (first | exact Drawn0.refl _ | apply Drawn0.step)⟩
end Go.Proofs.YtjlglimikbfgmaaDoor.P
namespace Go.Proofs.YtjlglimikbfgmaaDoor.PT
set_option linter.unusedSimpArgs false
open Go.RowKit Go.Proofs.YtjlglimikbfgmaaDoor.P Go.Proofs.YtjlglimikbfgmaaDoorW.PrintWords Go.Proofs.YtjlglimikbfgmaaDoorW.PrintLast Go.Proofs.YtjlglimikbfgmaaDoor.EvKit
def cmpL : List Int → List Int → Int
  | [], [] => 0
  | [], _ :: _ => -1
  | _ :: _, [] => 1
  | a :: s, b :: t => if a < b then -1 else if b < a then 1 else cmpL s t
theorem cmpInt_v (a b : Int) : cmp_Compare_int.f a b = some (if a < b then -1 else if b < a then 1 else 0) := by
  unfold cmp_Compare_int.f cmp_isNaN_int.f
  simp only [bne_self_eq_false, Option.bind_some, Bool.false_eq_true, if_false]
  by_cases h1 : a < b
  · rw [if_pos h1, if_pos h1]
  · rw [if_neg h1, if_neg h1]
    by_cases h2 : b < a
    · rw [if_pos h2, if_pos h2]
    · rw [if_neg h2, if_neg h2]
theorem slicesCompare_l0 (a b : List Int) (ha : a.length ≤ 9223372036854775806) : ∀ i, i ≤ a.length → i ≤ b.length → Ev (fun k => slices_Compare_int_int.l0 k a b a (a.length : Int) (i : Int)) (cmpL (a.drop i) (b.drop i)) := by
  have key : ∀ d i, i + d = a.length → i ≤ b.length → Ev (fun k => slices_Compare_int_int.l0 k a b a (a.length : Int) (i : Int)) (cmpL (a.drop i) (b.drop i)) := by
    intro d
    induction d with
    | zero =>
      intro i hi hb
      refine Ev.succ ?_
      simp only [slices_Compare_int_int.l0, if_neg (show ¬ ((i : Int) < (a.length : Int)) by omega)]
      rw [List.drop_of_length_le (l := a) (by omega)]
      by_cases h : a.length < b.length
      · simp only [if_pos (show (a.length : Int) < (b.length : Int) by omega)]
        rw [drop_at (show i < b.length by omega)]; exact Ev.now _
      · simp only [if_neg (show ¬ (a.length : Int) < (b.length : Int) by omega)]
        rw [List.drop_of_length_le (l := b) (by omega)]; exact Ev.now _
    | succ d ih =>
      intro i hi hb
      have hlt : i < a.length := by omega
      refine Ev.succ ?_
      simp only [slices_Compare_int_int.l0, if_pos (show ((i : Int) < (a.length : Int)) by omega), if_pos (show (0 : Int) ≤ (i : Int) by omega), rd_at hlt, w64n (show i ≤ 9223372036854775806 by omega)]
      rw [drop_at hlt]
      by_cases h : i < b.length
      · simp only [if_neg (show ¬ ((i : Int) ≥ (b.length : Int)) by omega), if_pos (show ((i : Int) < (b.length : Int)) by omega), rd_at h, cmpInt_v, Option.bind_some]
        rw [drop_at h]
        simp only [cmpL]
        by_cases h1 : a[i] < b[i]
        · simp only [if_pos h1, show ¬ ((-1 : Int) = 0) by omega, if_false]; exact Ev.now _
        · by_cases h2 : b[i] < a[i]
          · simp only [if_neg h1, if_pos h2, show ¬ ((1 : Int) = 0) by omega, if_false]; exact Ev.now _
          · simp only [if_neg h1, if_neg h2, if_true]; exact ih (i + 1) (by omega) (by omega)
      · simp only [if_pos (show ((i : Int) ≥ (b.length : Int)) by omega)]
        rw [List.drop_of_length_le (l := b) (by omega)]; exact Ev.now _
  intro i hi hb
  exact key (a.length - i) i (by omega) hb
theorem slicesCompare_ev (a b : List Int) (ha : a.length ≤ 9223372036854775806) : Ev (fun k => slices_Compare_int_int.f k a b) (cmpL a b) := by
  unfold slices_Compare_int_int.f
  have := slicesCompare_l0 a b ha 0 (by omega) (by omega)
  simpa using this
theorem l2Compare_l0 (a b : List Int) (ha : a.length ≤ 9223372036854775806) : ∀ d i, i + d = a.length → i ≤ b.length → Ev (fun k => spec_l2Compare.l0 k a b (i : Int)) (cmpL (a.drop i) (b.drop i)) := by
  intro d
  induction d with
  | zero =>
    intro i hi hb
    refine Ev.succ (Ev.congr (f := fun k => spec_l2Compare.j1 k a b (i : Int) false) (fun k => by simp only [spec_l2Compare.l0, if_neg (show ¬ ((i : Int) < (a.length : Int)) by omega)]) (Ev.succ ?_))
    simp only [spec_l2Compare.j1, Bool.false_eq_true, if_false]
    rw [List.drop_of_length_le (l := a) (by omega)]
    by_cases h : a.length < b.length
    · simp only [if_neg (show ¬ (a.length : Int) = (b.length : Int) by omega), if_pos (show (a.length : Int) < (b.length : Int) by omega)]
      rw [drop_at (show i < b.length by omega)]; exact Ev.now _
    · simp only [if_pos (show (a.length : Int) = (b.length : Int) by omega)]
      rw [List.drop_of_length_le (l := b) (by omega)]; exact Ev.now _
  | succ d ih =>
    intro i hi hb
    have hlt : i < a.length := by omega
    refine Ev.succ (Ev.congr (f := fun k => spec_l2Compare.j1 k a b (i : Int) (decide ((i : Int) < (b.length : Int)))) (fun k => by simp only [spec_l2Compare.l0, if_pos (show ((i : Int) < (a.length : Int)) by omega)]) (Ev.succ ?_))
    rw [drop_at hlt]
    by_cases h : i < b.length
    · simp only [spec_l2Compare.j1, show ((i : Int) < (b.length : Int)) by omega, decide_true, if_true, show (0 : Int) ≤ (i : Int) by omega, show ((i : Int) < (a.length : Int)) by omega, rd_at hlt, rd_at h, w64n (show i ≤ 9223372036854775806 by omega)]
      rw [drop_at h]
      simp only [cmpL]
      by_cases h1 : a[i] < b[i]
      · simp only [if_pos h1]; exact Ev.now _
      · by_cases h2 : b[i] < a[i]
        · simp only [if_neg h1, if_pos (show a[i] > b[i] by omega), if_pos h2]; exact Ev.now _
        · simp only [if_neg h1, if_neg (show ¬ a[i] > b[i] by omega), if_neg h2]; exact ih (i + 1) (by omega) (by omega)
    · simp only [spec_l2Compare.j1, show ¬ ((i : Int) < (b.length : Int)) by omega, decide_false, Bool.false_eq_true, if_false]
      rw [List.drop_of_length_le (l := b) (by omega)]
      simp only [if_neg (show ¬ (a.length : Int) = (b.length : Int) by omega), if_neg (show ¬ (a.length : Int) < (b.length : Int) by omega)]; exact Ev.now _
theorem l2Compare_ev (a b : List Int) (ha : a.length ≤ 9223372036854775806) : Ev (fun k => spec_l2Compare.f k a b) (cmpL a b) := by
  unfold spec_l2Compare.f
  have := l2Compare_l0 a b ha a.length 0 (by omega) (by omega)
  simpa using this
noncomputable def rowsR (l : List (List Int)) (w : Int) (i : Nat) : Bool := @decide (∀ j, i ≤ j → ∀ h : j < l.length, (l[j].length : Int) = w ∧ (0 < j → cmpL (l.getD (j - 1) []) l[j] < 0)) (Classical.propDecidable _)
theorem rowsR_end (l : List (List Int)) (w : Int) {i : Nat} (h : l.length ≤ i) : rowsR l w i = true := by unfold rowsR; exact @decide_eq_true _ (Classical.propDecidable _) (fun j hj hl => by omega)
theorem rowsR_no1 (l : List (List Int)) (w : Int) {i : Nat} (h : i < l.length) (h1 : ¬ (l[i].length : Int) = w) : rowsR l w i = false := by unfold rowsR; exact @decide_eq_false _ (Classical.propDecidable _) (fun H => h1 (H i (Nat.le_refl _) h).1)
theorem rowsR_no2 (l : List (List Int)) (w : Int) {i : Nat} (h : i < l.length) (h0 : 0 < i) (h1 : ¬ cmpL (l.getD (i - 1) []) l[i] < 0) : rowsR l w i = false := by unfold rowsR; exact @decide_eq_false _ (Classical.propDecidable _) (fun H => h1 ((H i (Nat.le_refl _) h).2 h0))
theorem rowsR_on (l : List (List Int)) (w : Int) {i : Nat} (h : i < l.length) (h1 : (l[i].length : Int) = w) (h2 : 0 < i → cmpL (l.getD (i - 1) []) l[i] < 0) : rowsR l w i = rowsR l w (i + 1) := by
  unfold rowsR
  rw [decide_eq_decide]
  constructor
  · intro H j hj hl; exact H j (by omega) hl
  · intro H j hj hl
    by_cases e : j = i
    · subst e; exact ⟨h1, h2⟩
    · exact H j (by omega) hl
theorem rowsOK_ev (l : List (List Int)) (w : Int) (hl : l.length ≤ 9223372036854775806) (hll : ∀ x, x ∈ l → x.length ≤ 9223372036854775806) : Ev (fun k => impl_rowsOK.f k l w) (rowsR l w 0) := by
  unfold impl_rowsOK.f
  refine Ev.loop (g := fun k i => impl_rowsOK.l0 k l w l (l.length : Int) (i : Int)) (n := l.length) (R := rowsR l w) ?_ ?_ 0 (Nat.zero_le _)
  · refine Ev.succ ?_
    simp only [impl_rowsOK.l0, if_neg (show ¬ ((l.length : Int) < (l.length : Int)) by omega), rowsR_end l w (Nat.le_refl _)]
    exact Ev.now _
  · intro i hi ih
    refine Ev.succ ?_
    have hr : rd_L1 l (i : Int) = l[i] := getD_at _ hi
    simp only [impl_rowsOK.l0, if_pos (show ((i : Int) < (l.length : Int)) by omega), if_pos (show (0 : Int) ≤ (i : Int) by omega), hr, w64n (show i ≤ 9223372036854775806 by omega)]
    by_cases h1 : (l[i].length : Int) = w
    · simp only [if_pos h1]
      by_cases h0 : i = 0
      · subst h0
        simp only [show ¬ (((0 : Nat) : Int) > 0) by omega, if_false]
        rw [rowsR_on l w hi h1 (fun h => by omega)]; exact ih
      · have hw : wrap64 ((i : Int) - 1) = ((i - 1 : Nat) : Int) := by unfold wrap64; omega
        have hp : rd_L1 l ((i - 1 : Nat) : Int) = l.getD (i - 1) [] := by unfold rd_L1; rw [Int.toNat_natCast]
        have hpl : (l.getD (i - 1) []).length ≤ 9223372036854775806 := by
          have e : l.getD (i - 1) [] = l[i - 1] := by simp [List.getD_eq_getElem?_getD, show i - 1 < l.length by omega]
          rw [e]; exact hll _ (List.getElem_mem _)
        simp only [show ((i : Int) > 0) by omega, if_true, hw, show (0 : Int) ≤ ((i - 1 : Nat) : Int) by omega, show (((i - 1 : Nat) : Int) < (l.length : Int)) by omega, hp]
        refine Ev.bind (slicesCompare_ev _ _ hpl) ?_
        by_cases h2 : cmpL (l.getD (i - 1) []) l[i] < 0
        · simp only [if_neg (show ¬ (cmpL (l.getD (i - 1) []) l[i] ≥ 0) by omega)]
          rw [rowsR_on l w hi h1 (fun _ => h2)]; exact ih
        · simp only [if_pos (show (cmpL (l.getD (i - 1) []) l[i] ≥ 0) by omega)]
          rw [rowsR_no2 l w hi (by omega) h2]; exact Ev.now _
    · simp only [if_neg h1]
      rw [rowsR_no1 l w hi h1]; exact Ev.now _
theorem l2SortedRows_ev (l : List (List Int)) (w : Int) (hl : l.length ≤ 9223372036854775806) (hll : ∀ x, x ∈ l → x.length ≤ 9223372036854775806) : Ev (fun k => spec_l2SortedRows.f k l w) (rowsR l w 0) := by
  unfold spec_l2SortedRows.f
  refine Ev.loop (g := fun k i => spec_l2SortedRows.l0 k l w l (l.length : Int) (i : Int)) (n := l.length) (R := rowsR l w) ?_ ?_ 0 (Nat.zero_le _)
  · refine Ev.succ ?_
    simp only [spec_l2SortedRows.l0, if_neg (show ¬ ((l.length : Int) < (l.length : Int)) by omega), rowsR_end l w (Nat.le_refl _)]
    exact Ev.now _
  · intro i hi ih
    refine Ev.succ ?_
    have hr : rd_L1 l (i : Int) = l[i] := getD_at _ hi
    simp only [spec_l2SortedRows.l0, if_pos (show ((i : Int) < (l.length : Int)) by omega), if_pos (show (0 : Int) ≤ (i : Int) by omega), hr, w64n (show i ≤ 9223372036854775806 by omega)]
    by_cases h1 : (l[i].length : Int) = w
    · simp only [if_pos h1]
      by_cases h0 : i = 0
      · subst h0
        simp only [show ¬ (((0 : Nat) : Int) > 0) by omega, if_false]
        rw [rowsR_on l w hi h1 (fun h => by omega)]; exact ih
      · have hw : wrap64 ((i : Int) - 1) = ((i - 1 : Nat) : Int) := by unfold wrap64; omega
        have hp : rd_L1 l ((i - 1 : Nat) : Int) = l.getD (i - 1) [] := by unfold rd_L1; rw [Int.toNat_natCast]
        have hpl : (l.getD (i - 1) []).length ≤ 9223372036854775806 := by
          have e : l.getD (i - 1) [] = l[i - 1] := by simp [List.getD_eq_getElem?_getD, show i - 1 < l.length by omega]
          rw [e]; exact hll _ (List.getElem_mem _)
        simp only [show ((i : Int) > 0) by omega, if_true, hw, show (0 : Int) ≤ ((i - 1 : Nat) : Int) by omega, show (((i - 1 : Nat) : Int) < (l.length : Int)) by omega, hp]
        refine Ev.bind (l2Compare_ev _ _ hpl) ?_
        by_cases h2 : cmpL (l.getD (i - 1) []) l[i] < 0
        · simp only [if_neg (show ¬ (cmpL (l.getD (i - 1) []) l[i] ≥ 0) by omega)]
          rw [rowsR_on l w hi h1 (fun _ => h2)]; exact ih
        · simp only [if_pos (show (cmpL (l.getD (i - 1) []) l[i] ≥ 0) by omega)]
          rw [rowsR_no2 l w hi (by omega) h2]; exact Ev.now _
    · simp only [if_neg h1]
      rw [rowsR_no1 l w hi h1]; exact Ev.now _
end Go.Proofs.YtjlglimikbfgmaaDoor.PT
namespace Go.Proofs.YtjlglimikbfgmaaDoor.P
open Go.RowKit Go.Proofs.YtjlglimikbfgmaaDoorW.PrintWords Go.Proofs.YtjlglimikbfgmaaDoorW.PrintLast Go.Proofs.YtjlglimikbfgmaaDoorW.PrintMore
attribute [local go_sem] max2_int min2_int max_two min_two max_three min_three max_four min_four
set_option linter.unusedVariables false
set_option linter.unusedSimpArgs false
def spec_l1Between.f (a0 : Int) (a1 : Int) (a2 : Int) : Option (Bool) := if a1 ≤ a0 then (some (decide (a0 ≤ a2))) else (some false)
set_option maxHeartbeats 8000000 in
set_option maxRecDepth 100000 in
theorem spec_l1Between.calls (a0 : Int) (a1 : Int) (a2 : Int) (r : Bool) (w : World) (h : spec_l1Between.f a0 a1 a2 = some r) :
  Calls Tryd.prog 55 #[.int .i64 a0, .int .i64 a1, .int .i64 a2] w fun e w' => e = .returned (.bool r) ∧ Drawn0 w w' := by
 have H : (if a1 ≤ a0 then (some (decide (a0 ≤ a2))) else (some false)) = some r := h
 clear h
 by_cases c4 : a1 ≤ a0
 ·rw [if_pos c4] at H
  have c4b0 : decide (a1 ≤ a0) = true := decide_eq_true c4
  clear c4
  obtain rfl := Option.some.inj H
  go_enter Tryd.func55, Tryd.ntmps55
  go_wp2
  go_ret
  exact ⟨by first | rfl | (simp; done) | (simp [*]; done), by repeat (first | exact Drawn0.refl _ | apply Drawn0.step)⟩
 ·rw [if_neg c4] at H
  have c4b0 : decide (a1 ≤ a0) = false := decide_eq_false c4
  clear c4
  obtain rfl := Option.some.inj H
  go_enter Tryd.func55, Tryd.ntmps55
  go_wp2
  go_ret
  exact ⟨by first | rfl | (simp; done) | (simp [*]; done), by repeat (first | exact Drawn0.refl _ | apply Drawn0.step)⟩
end Go.Proofs.YtjlglimikbfgmaaDoor.P
namespace Go.Proofs.YtjlglimikbfgmaaDoor.PT
set_option linter.unusedSimpArgs false
open Go.RowKit Go.Proofs.YtjlglimikbfgmaaDoor.P Go.Proofs.YtjlglimikbfgmaaDoorW.PrintWords Go.Proofs.YtjlglimikbfgmaaDoorW.PrintLast Go.Proofs.YtjlglimikbfgmaaDoor.EvKit
theorem between_v (a b c : Int) : spec_l1Between.f a b c = some (decide (b ≤ a ∧ a ≤ c)) := by
  unfold spec_l1Between.f
  by_cases h : b ≤ a
  · rw [if_pos h]; simp [h]
  · rw [if_neg h]; simp [h]
end Go.Proofs.YtjlglimikbfgmaaDoor.PT
namespace Go.Proofs.YtjlglimikbfgmaaDoor.P
open Go.RowKit Go.Proofs.YtjlglimikbfgmaaDoorW.PrintWords Go.Proofs.YtjlglimikbfgmaaDoorW.PrintLast Go.Proofs.YtjlglimikbfgmaaDoorW.PrintMore
attribute [local go_sem] max2_int min2_int max_two min_two max_three min_three max_four min_four
set_option linter.unusedVariables false
set_option linter.unusedSimpArgs false
def impl_within.f (a0 : Int) (a1 : Int) (a2 : Int) : Option (Bool) := if a0 ≥ a1 then (some (decide (a0 ≤ a2))) else (some false)
set_option maxHeartbeats 8000000 in
set_option maxRecDepth 100000 in
theorem impl_within.calls (a0 : Int) (a1 : Int) (a2 : Int) (r : Bool) (w : World) (h : impl_within.f a0 a1 a2 = some r) :
  Calls Tryd.prog 65 #[.int .i64 a0, .int .i64 a1, .int .i64 a2] w fun e w' => e = .returned (.bool r) ∧ Drawn0 w w' := by
 have H : (if a0 ≥ a1 then (some (decide (a0 ≤ a2))) else (some false)) = some r := h
 clear h
 by_cases c4 : a0 ≥ a1
 ·rw [if_pos c4] at H
  have c4b0 : decide (a1 ≤ a0) = true := decide_eq_true c4
  clear c4
  obtain rfl := Option.some.inj H
  go_enter Tryd.func65, Tryd.ntmps65
  go_wp2
  go_ret
  exact ⟨by first | rfl | (simp; done) | (simp [*]; done), by repeat (first | exact Drawn0.refl _ | apply Drawn0.step)⟩
 ·rw [if_neg c4] at H
  have c4b0 : decide (a1 ≤ a0) = false := decide_eq_false c4
  clear c4
  obtain rfl := Option.some.inj H
  go_enter Tryd.func65, Tryd.ntmps65
  go_wp2
  go_ret
  exact ⟨by first | rfl | (simp; done) | (simp [*]; done), by repeat (first | exact Drawn0.refl _ | apply Drawn0.step)⟩
end Go.Proofs.YtjlglimikbfgmaaDoor.P
namespace Go.Proofs.YtjlglimikbfgmaaDoor.PT
open Go.RowKit Go.Proofs.YtjlglimikbfgmaaDoor.P Go.Proofs.YtjlglimikbfgmaaDoorW.PrintWords Go.Proofs.YtjlglimikbfgmaaDoorW.PrintLast Go.Proofs.YtjlglimikbfgmaaDoor.EvKit
theorem within_v (a b c : Int) : impl_within.f a b c = some (decide (b ≤ a ∧ a ≤ c)) := by
  unfold impl_within.f
  by_cases h : b ≤ a
  · rw [if_pos h]; simp [h]
  · rw [if_neg (by omega)]; simp [h]
def inV (v : Int) : Bool := decide (0 ≤ v ∧ v ≤ 1000000)
def inW (v : Int) : Bool := decide (-1000000 ≤ v ∧ v ≤ 1000000)
theorem within_V (a : Int) : impl_within.f a 0 1000000 = some (inV a) := within_v _ _ _
theorem within_W (a : Int) : impl_within.f a (-1000000) 1000000 = some (inW a) := within_v _ _ _
theorem between_V (a : Int) : spec_l1Between.f a 0 1000000 = some (inV a) := between_v _ _ _
theorem between_W (a : Int) : spec_l1Between.f a (-1000000) 1000000 = some (inW a) := between_v _ _ _
end Go.Proofs.YtjlglimikbfgmaaDoor.PT
namespace Go.Proofs.YtjlglimikbfgmaaDoor.MapKit
open Go.RowKit Go.Proofs.YtjlglimikbfgmaaDoorW.PrintWords
set_option linter.unusedSimpArgs false
set_option linter.unusedSectionVars false
def at? {κ : Type} [DecidableEq κ] (k : κ) : List (κ × Value) → Nat → Option (Nat × Value)
  | [], _ => none
  | p :: r, i => if k = p.1 then some (i, p.2) else at? k r (i + 1)
def get {κ : Type} [DecidableEq κ] (k : κ) (l : List (κ × Value)) : Option Value := (at? k l 0).map (·.2)
def put {κ : Type} [DecidableEq κ] (k : κ) (v : Value) : List (κ × Value) → List (κ × Value)
  | [] => [(k, v)]
  | p :: r => if k = p.1 then (p.1, v) :: r else p :: put k v r
structure KeyEnc {κ : Type} [DecidableEq κ] (P : Program) (kt : TypeId) (enc : κ → Value) : Prop where
  check : ∀ (w : World) (b : Bool) (k : κ), (Instr.checkKey b 10000 kt (enc k)).run P w = .ok () w
  find : ∀ (w : World) (k : κ) (l : List (κ × Value)) (es : List MapEntry), es.map (fun e => (e.key, e.val)) = l.map (fun p => (enc p.1, p.2)) → (Instr.findKey kt (enc k) es).run P w = .ok (at? k l 0) w
  bits : ∀ k : κ, Instr.sameBits 10000 (enc k) (enc k) = true
theorem findNow_plain {κ : Type} [DecidableEq κ] {d : TypeDesc} {enc : κ → Value} (hn : ∀ a b : κ, Instr.sameNow d (enc a) (enc b) = some (decide (a = b))) (k : κ) :
    ∀ (l : List (κ × Value)) (es : List MapEntry) (i : Nat), es.map (fun e => (e.key, e.val)) = l.map (fun p => (enc p.1, p.2)) → Instr.findNow d (enc k) es i = some (at? k l i)
  | [], es, i, h => by
    cases es with
    | nil => rfl
    | cons e r => simp at h
  | p :: l, es, i, h => by
    cases es with
    | nil => simp at h
    | cons e r =>
      simp only [List.map_cons, List.cons.injEq, Prod.mk.injEq] at h
      obtain ⟨⟨h1, h2⟩, h3⟩ := h
      simp only [Instr.findNow, h1, hn, at?]
      by_cases hk : k = p.1
      · simp only [hk, decide_true, if_true, h2]
      · simp only [hk, decide_false, if_false]
        exact findNow_plain hn k l r (i + 1) h3
theorem KeyEnc.plain {κ : Type} [DecidableEq κ] {P : Program} {kt : TypeId} {d : TypeDesc} {enc : κ → Value} (hd : P.underlying kt = some d) (hk : ∀ k, MapKept.IsKey d (enc k)) (hn : ∀ a b : κ, Instr.sameNow d (enc a) (enc b) = some (decide (a = b)))
    (hb : ∀ k : κ, Instr.sameBits 10000 (enc k) (enc k) = true) : KeyEnc P kt enc :=
  ⟨fun _ b k => MapKept.run_checkKey hd (hk k) b 9999, fun _ k l es h => MapKept.run_findKey hd (findNow_plain hn k l es 0 h), hb⟩
theorem ba_beq (a b : ByteArray) : (a == b) = decide (a = b) := by
  rw [Bool.eq_iff_iff, decide_eq_true_iff]
  obtain ⟨a⟩ := a
  obtain ⟨b⟩ := b
  constructor
  · intro h
    have : (a == b) = true := h
    rw [beq_iff_eq] at this; rw [this]
  · intro h
    have h' : a = b := by injection h
    subst h'
    show (a == a) = true
    exact beq_self_eq_true a
instance lawfulBA : LawfulBEq ByteArray where
  rfl := by intro a; rw [ba_beq]; simp
  eq_of_beq := by intro a b h; rw [ba_beq] at h; simpa using h
theorem int_beq (a b : Int) : (a == b) = decide (a = b) := by
  rw [Bool.eq_iff_iff]; simp
theorem KeyEnc.string {P : Program} {kt : TypeId} (hd : P.underlying kt = some .string) : KeyEnc P kt Value.string :=
  .plain hd (fun _ => trivial) (fun a b => by simp only [Instr.sameNow, ba_beq]) (fun k => by simp only [Instr.sameBits, ba_beq, decide_true])
theorem KeyEnc.int {P : Program} {kt : TypeId} {q : IntKind} (hd : P.underlying kt = some (.int q)) : KeyEnc P kt (Value.int q) :=
  .plain hd (fun _ => rfl) (fun a b => by simp only [Instr.sameNow, if_true, int_beq]) (fun k => by simp only [Instr.sameBits, int_beq, decide_true, beq_self_eq_true, Bool.and_self])
def HasMap {κ : Type} (w : World) (b : Nat) (enc : κ → Value) (l : List (κ × Value)) : Prop :=
  ∃ es clock, w.heap[b]? = some (.map es clock) ∧ es.toList.map (fun e => (e.key, e.val)) = l.map (fun p => (enc p.1, p.2))
theorem grown_set {w : World} {b : Nat} {o o' : Obj} (hb : w.heap[b]? = some o) : w.grownBy { w with heap := w.heap.setIfInBounds b o' } (some b) :=
  ⟨rfl, rfl, rfl, by simp, fun k _ hne => (MapKept.heap_set hb).2 k (fun e => hne (by rw [e]))⟩
section
variable {κ : Type} [DecidableEq κ] {P : Program} {w : World} {b : Nat} {t kt e : TypeId} {enc : κ → Value} {l : List (κ × Value)}
theorem HasMap.lt (h : HasMap w b enc l) : b < w.heap.size := by
  obtain ⟨es, c, hb, _⟩ := h
  exact (Array.getElem?_eq_some_iff.1 hb).1
theorem HasMap.made (w : World) (enc : κ → Value) : HasMap (w.alloc (.map #[] 0)) w.heap.size enc [] := ⟨#[], 0, heap_alloc_new w _, rfl⟩
theorem HasMap.move {w' : World} (h : HasMap w b enc l) (hb : w'.heap[b]? = w.heap[b]?) : HasMap w' b enc l := by
  obtain ⟨es, c, h1, h2⟩ := h
  exact ⟨es, c, hb.trans h1, h2⟩
theorem HasMap.grown {w' : World} {row : Option Nat} (h : HasMap w b enc l) (hg : w.grownBy w' row) (hne : some b ≠ row) : HasMap w' b enc l := h.move (hg.block b h.lt hne)
theorem HasMap.alloc (h : HasMap w b enc l) (o : Obj) : HasMap (w.alloc o) b enc l := h.grown (World.grownBy_alloc w o none) (by simp)
theorem HasMap.drewN (h : HasMap w b enc l) (n : Nat) : HasMap (w.drewN n) b enc l := h.move (by rw [World.heap_drewN])
theorem HasMap.drew (h : HasMap w b enc l) : HasMap w.drew b enc l := h.move rfl
theorem HasMap.set (h : HasMap w b enc l) {p : Addr} (hne : b ≠ p.block) (u : Value) : HasMap (w.setCell p u) b enc l := h.move (Below.heap_setCell w p u b hne)
theorem HasMap.below {w' : World} (h : HasMap w b enc l) (hb : Below w.heap.size w w') : HasMap w' b enc l := h.move (hb.block b h.lt)
theorem HasMap.ne_cells (h : HasMap w b enc l) {g : Nat} {cs : Array Value} {ty : TypeId} {fr : Nat × Nat} (hg : w.heap[g]? = some (.cells cs ty fr)) : b ≠ g := by
  rintro rfl
  obtain ⟨es, c, hb, _⟩ := h
  rw [hb] at hg; cases hg
theorem at?_shift (k : κ) : ∀ (l : List (κ × Value)) (i : Nat), at? k l (i + 1) = (at? k l i).map (fun p => (p.1 + 1, p.2))
  | [], _ => rfl
  | p :: r, i => by
    simp only [at?]
    split
    · rfl
    · exact at?_shift k r (i + 1)
theorem run_lookup (K : KeyEnc P kt enc) (ht : P.underlying t = some (.map kt e)) (h : HasMap w b enc l) {z : Value} (hz : (zeroValue e).run P w = .ok z w) (k : κ) (c : Bool) :
    (Instr.lookup t (.map (some b)) (enc k) c).run P w = .ok (if c then .tuple #[(get k l).getD z, .bool (get k l).isSome] else (get k l).getD z) w := by
  obtain ⟨es, cl, hb, hl⟩ := h
  have hf := K.find w k l es.toList hl
  unfold get
  cases ha : at? k l 0 with
  | none =>
    rw [ha] at hf
    cases c <;> simp [Instr.lookup, run_underlying ht, MapKept.run_getObj_map hb, K.check w _ k, hf, hz, Result.andThen]
  | some p =>
    rw [ha] at hf
    cases c <;> simp [Instr.lookup, run_underlying ht, MapKept.run_getObj_map hb, K.check w _ k, hf, Result.andThen]
theorem put_of_none (k : κ) (v : Value) : ∀ (l : List (κ × Value)) (i : Nat), at? k l i = none → put k v l = l ++ [(k, v)]
  | [], _, _ => rfl
  | p :: r, i, h => by
    simp only [at?] at h
    by_cases hk : k = p.1
    · rw [if_pos hk] at h; cases h
    · rw [if_neg hk] at h
      simp only [put, if_neg hk, put_of_none k v r (i + 1) h, List.cons_append]
theorem put_of_some (k : κ) (v : Value) : ∀ (l : List (κ × Value)) (i j : Nat) (u : Value), at? k l i = some (j, u) → ∃ n, j = i + n ∧ n < l.length ∧ (l[n]?).map (·.1) = some k ∧ put k v l = l.set n (k, v)
  | [], _, _, _, h => by simp [at?] at h
  | p :: r, i, j, u, h => by
    simp only [at?] at h
    by_cases hk : k = p.1
    · rw [if_pos hk] at h
      simp only [Option.some.injEq, Prod.mk.injEq] at h
      exact ⟨0, by omega, by simp, by simp [hk], by simp [put, hk]⟩
    · rw [if_neg hk] at h
      obtain ⟨n, h1, h2, h3, h4⟩ := put_of_some k v r (i + 1) j u h
      exact ⟨n + 1, by omega, by simp; omega, by simpa using h3, by simp [put, hk, h4]⟩
theorem run_update (K : KeyEnc P kt enc) (ht : P.underlying t = some (.map kt e)) (h : HasMap w b enc l) (k : κ) (v : Value) :
    ∃ w', (Instr.mapUpdate t (.map (some b)) (enc k) v).run P w = .ok () w' ∧ HasMap w' b enc (put k v l) ∧ w.grownBy w' (some b) := by
  obtain ⟨es, cl, hb, hl⟩ := h
  have hf := K.find w k l es.toList hl
  have hlen : es.toList.length = l.length := by have := congrArg List.length hl; simpa using this
  cases ha : at? k l 0 with
  | none =>
    rw [ha] at hf
    refine ⟨{ w with heap := w.heap.setIfInBounds b (.map (es.push { key := enc k, val := v, born := cl }) (cl + 1)) }, by simp [Instr.mapUpdate, run_underlying ht, MapKept.run_getObj_map hb, K.check w _ k, hf, MapKept.run_setObj_map _ hb, Result.andThen], ⟨_, _, (MapKept.heap_set hb).1, ?_⟩, ?_⟩
    · rw [put_of_none k v l 0 ha]; simp [hl]
    · exact grown_set hb
  | some p =>
    obtain ⟨i, u⟩ := p
    rw [ha] at hf
    obtain ⟨n, h1, h2, h3, h4⟩ := put_of_some k v l 0 i u ha
    have hin : i = n := by omega
    subst hin
    have hlt : i < es.size := by rw [← hlen] at h2; simpa using h2
    have hkey : es[i].key = enc k := by
      have h5 := congrArg (fun l => l[i]?) hl
      simp only [List.getElem?_map] at h5
      have h6 : es.toList[i]? = some es[i] := by simp [hlt]
      rw [h6] at h5
      have h7 : l[i]? = some l[i] := List.getElem?_eq_getElem h2
      rw [h7] at h3 h5
      simp only [Option.map_some, Option.some.injEq, Prod.mk.injEq] at h3 h5
      rw [h5.1, h3]
    have hks : ((es[i]?).map (·.key)).getD (enc k) = enc k := by simp [hlt, hkey]
    have hst : (Instr.keyThatStays (enc k) (enc k)).run P w = .ok (enc k) w := by simp [Instr.keyThatStays, K.bits k]
    refine ⟨{ w with heap := w.heap.setIfInBounds b (.map (es.modify i fun e => { e with key := enc k, val := v }) cl) }, by simp only [Instr.mapUpdate, Sem.run_bind, run_underlying ht, MapKept.run_getObj_map hb, K.check w _ k, hf, Result.andThen, hks, hst, MapKept.run_setObj_map _ hb], ⟨_, _, (MapKept.heap_set hb).1, ?_⟩, ?_⟩
    · rw [h4]
      refine List.ext_getElem? (fun j => ?_)
      have h5 := congrArg (fun l => l[j]?) hl
      simp only [List.getElem?_map, Array.getElem?_toList] at h5 ⊢
      simp only [List.getElem?_set, Array.getElem?_modify]
      by_cases hj : i = j
      · subst hj
        simp [hlt, h2]
      · simp only [hj, if_false]; exact h5
    · exact grown_set hb
theorem wp_lookup {ops : Array Oper} {rest : List Oper} {o : Oper} {a : Act} {Q : Exit → Act → World → Prop} (hg : o.guard = none) (c : Bool) (m x : Operand) (hop : o.op = Op.lookup t m x c)
    (K : KeyEnc P kt enc) (ht : P.underlying t = some (.map kt e)) {z : Value} (hz : (zeroValue e).run P w = .ok z w) (hm : a.eval m = .map (some b)) (k : κ) (hx : a.eval x = enc k) (h : HasMap w b enc l)
    (hK : wpList P ops Q rest (a.put o.dst (if c then .tuple #[(get k l).getD z, .bool (get k l).isSome] else (get k l).getD z)) w) : wpList P ops Q (o :: rest) a w := by
  refine wpList_plain hg fun K' hK' => ?_
  unfold Oper.wp
  simp only [execOp, hop, hm, hx, Sem.run_bind, run_lookup K ht h hz k c, Result.andThen, Sem.run_pure]
  exact hK' _ _ hK
theorem wp_update {ops : Array Oper} {rest : List Oper} {o : Oper} {a : Act} {Q : Exit → Act → World → Prop} (hg : o.guard = none) (m x v : Operand) (hop : o.op = Op.mapUpdate t m x v)
    (K : KeyEnc P kt enc) (ht : P.underlying t = some (.map kt e)) (hm : a.eval m = .map (some b)) (k : κ) (hx : a.eval x = enc k) (u : Value) (hv : a.eval v = u) (h : HasMap w b enc l)
    (hK : ∀ w', HasMap w' b enc (put k u l) → w.grownBy w' (some b) → wpList P ops Q rest (a.put o.dst undef) w') : wpList P ops Q (o :: rest) a w := by
  refine wpList_plain hg fun K' hK' => ?_
  obtain ⟨w', hrun, h1, h2⟩ := run_update K ht h k u
  unfold Oper.wp
  simp only [execOp, hop, hm, hx, hv, Sem.run_bind, hrun, Result.andThen, Sem.run_pure]
  exact hK' _ _ (hK w' h1 h2)
end
def setL {κ : Type} (ns : List κ) : List (κ × Value) := ns.map fun n => (n, Value.bool true)
theorem at?_set {κ : Type} [DecidableEq κ] (k : κ) : ∀ (ns : List κ) (i : Nat), (at? k (setL ns) i).map (·.2) = if k ∈ ns then some (Value.bool true) else none
  | [], _ => by simp [setL, at?]
  | n :: r, i => by
    have := at?_set k r (i + 1)
    simp only [setL, List.map_cons, at?] at this ⊢
    by_cases h : k = n
    · simp [h]
    · simp only [h, if_false, List.mem_cons, false_or]; exact this
theorem get_set {κ : Type} [DecidableEq κ] (k : κ) (ns : List κ) : (get k (setL ns)).getD (.bool false) = .bool (decide (k ∈ ns)) := by
  unfold get
  rw [at?_set]
  by_cases h : k ∈ ns <;> simp [h]
theorem put_set {κ : Type} [DecidableEq κ] (k : κ) : ∀ (ns : List κ), k ∉ ns → put k (.bool true) (setL ns) = setL (ns ++ [k])
  | [], _ => rfl
  | n :: r, h => by
    have h1 : k ≠ n := fun e => h (by simp [e])
    have h2 := put_set k r (fun e => h (by simp [e]))
    simp only [setL, List.map_cons, put, if_neg h1, List.cons_append] at h2 ⊢
    rw [h2]
end Go.Proofs.YtjlglimikbfgmaaDoor.MapKit
namespace Go.Proofs.YtjlglimikbfgmaaDoor.P
open Go.RowKit Go.Proofs.YtjlglimikbfgmaaDoorW.PrintWords Go.Proofs.YtjlglimikbfgmaaDoorW.PrintLast Go.Proofs.YtjlglimikbfgmaaDoorW.PrintMore
attribute [local go_sem] max2_int min2_int max_two min_two max_three min_three max_four min_four
set_option linter.unusedVariables false
set_option linter.unusedSimpArgs false
mutual
def impl_Relation_ok.j0 : Nat → Bool → ByteArray → Int → List (List Int) → List Int → Option (Bool)
 | 0, _, _, _, _, _ => none
 | k + 1, x44, x214000, x214001, x214002, x214003 => if x44 = true then (some false) else (impl_Relation_ok.l0 k x214002 (x214002.length : Int) 0 x214000 x214001 x214002 x214003)
def impl_Relation_ok.l0 : Nat → List (List Int) → Int → Int → ByteArray → Int → List (List Int) → List Int → Option (Bool)
 | 0, _, _, _, _, _, _, _ => none
 | k + 1, x46, x47, x48, x214000, x214001, x214002, x214003 => if x48 < x47 then (if 0 ≤ x48 then (if x48 < (x46.length : Int) then (impl_Relation_ok.l1 k x48 x46 x47 x48 (rd_L1 x46 x48) ((rd_L1 x46 x48).length : Int) 0 x214000 x214001 x214002 x214003) else (none)) else (none)) else (some true)
def impl_Relation_ok.l1 : Nat → Int → List (List Int) → Int → Int → List Int → Int → Int → ByteArray → Int → List (List Int) → List Int → Option (Bool)
 | 0, _, _, _, _, _, _, _, _, _, _, _ => none
 | k + 1, x3, x46, x47, x48, x53, x54, x55, x214000, x214001, x214002, x214003 => if x55 < x54 then (if 0 ≤ x55 then (if x55 < (x53.length : Int) then ((impl_within.f (rd x53 x55) 0 1000000).bind fun t219 => (if t219 = true then (impl_Relation_ok.l1 k x3 x46 x47 x48 x53 x54 (wrap64 (x55 + 1)) x214000 x214001 x214002 x214003) else (some false))) else (none)) else (none)) else (if 0 ≤ x3 then (if x3 < (x214003.length : Int) then ((impl_within.f (rd x214003 x3) (-1000000) 1000000).bind fun t221 => (if t221 = true then (impl_Relation_ok.l0 k x46 x47 (wrap64 (x48 + 1)) x214000 x214001 x214002 x214003) else (some false))) else (none)) else (none))
end
def impl_Relation_ok.f (k : Nat) (a0_0 : ByteArray) (a0_1 : Int) (l0_2 : List (List Int)) (l0_3 : List Int) : Option (Bool) := (impl_isName.f k a0_0).bind fun t214 => (if t214 = true then (if a0_0.toList = ([114, 101, 108] : List UInt8) then (impl_Relation_ok.j0 k true a0_0 a0_1 l0_2 l0_3) else ((impl_within.f a0_1 1 3).bind fun t215 => (if t215 = true then (if (l0_2.length : Int) > 2000 then (impl_Relation_ok.j0 k true a0_0 a0_1 l0_2 l0_3) else (if (l0_3.length : Int) = (l0_2.length : Int) then ((impl_rowsOK.f k l0_2 a0_1).bind fun t216 => (impl_Relation_ok.j0 k (!t216) a0_0 a0_1 l0_2 l0_3)) else (impl_Relation_ok.j0 k true a0_0 a0_1 l0_2 l0_3))) else (impl_Relation_ok.j0 k true a0_0 a0_1 l0_2 l0_3)))) else (impl_Relation_ok.j0 k true a0_0 a0_1 l0_2 l0_3))
theorem impl_Relation_ok.mono_l : ∀ k, (∀ y0 y1 y2 y3 y4, LeO (impl_Relation_ok.j0 k y0 y1 y2 y3 y4) (impl_Relation_ok.j0 (k + 1) y0 y1 y2 y3 y4)) ∧ (∀ y0 y1 y2 y3 y4 y5 y6, LeO (impl_Relation_ok.l0 k y0 y1 y2 y3 y4 y5 y6) (impl_Relation_ok.l0 (k + 1) y0 y1 y2 y3 y4 y5 y6)) ∧ (∀ y0 y1 y2 y3 y4 y5 y6 y7 y8 y9 y10, LeO (impl_Relation_ok.l1 k y0 y1 y2 y3 y4 y5 y6 y7 y8 y9 y10) (impl_Relation_ok.l1 (k + 1) y0 y1 y2 y3 y4 y5 y6 y7 y8 y9 y10))
 | 0 => ⟨fun _ _ _ _ _ r h => by simp [impl_Relation_ok.j0] at h, fun _ _ _ _ _ _ _ r h => by simp [impl_Relation_ok.l0] at h, fun _ _ _ _ _ _ _ _ _ _ _ r h => by simp [impl_Relation_ok.l1] at h⟩
 | k + 1 => by
  obtain ⟨ih0, ih1, ih2⟩ := impl_Relation_ok.mono_l k
  refine ⟨?_, ?_, ?_⟩
  ·intro y0 y1 y2 y3 y4
   unfold impl_Relation_ok.j0
   repeat' first
   | (with_reducible exact ih0 _ _ _ _ _)
   | (with_reducible exact ih1 _ _ _ _ _ _ _)
   | (with_reducible exact ih2 _ _ _ _ _ _ _ _ _ _ _)
   | (with_reducible exact impl_isName.mono _ _)
   | (with_reducible exact impl_rowsOK.mono _ _ _)
   | (with_reducible exact LeO.refl _)
   | (with_reducible exact LeO.none _)
   | (with_reducible refine LeO.ite ?_ ?_)
   | (with_reducible refine LeO.bind ?_ (fun _ => ?_))
   | exact ih0 _ _ _ _ _
   | exact ih1 _ _ _ _ _ _ _
   | exact ih2 _ _ _ _ _ _ _ _ _ _ _
   | exact impl_isName.mono _ _
   | exact impl_rowsOK.mono _ _ _
   | exact LeO.none _
   | refine LeO.ite ?_ ?_
   | refine LeO.bind ?_ (fun _ => ?_)
  ·intro y0 y1 y2 y3 y4 y5 y6
   unfold impl_Relation_ok.l0
   repeat' first
   | (with_reducible exact ih0 _ _ _ _ _)
   | (with_reducible exact ih1 _ _ _ _ _ _ _)
   | (with_reducible exact ih2 _ _ _ _ _ _ _ _ _ _ _)
   | (with_reducible exact impl_isName.mono _ _)
   | (with_reducible exact impl_rowsOK.mono _ _ _)
   | (with_reducible exact LeO.refl _)
   | (with_reducible exact LeO.none _)
   | (with_reducible refine LeO.ite ?_ ?_)
   | (with_reducible refine LeO.bind ?_ (fun _ => ?_))
   | exact ih0 _ _ _ _ _
   | exact ih1 _ _ _ _ _ _ _
   | exact ih2 _ _ _ _ _ _ _ _ _ _ _
   | exact impl_isName.mono _ _
   | exact impl_rowsOK.mono _ _ _
   | exact LeO.none _
   | refine LeO.ite ?_ ?_
   | refine LeO.bind ?_ (fun _ => ?_)
  ·intro y0 y1 y2 y3 y4 y5 y6 y7 y8 y9 y10
   unfold impl_Relation_ok.l1
   repeat' first
   | (with_reducible exact ih0 _ _ _ _ _)
   | (with_reducible exact ih1 _ _ _ _ _ _ _)
   | (with_reducible exact ih2 _ _ _ _ _ _ _ _ _ _ _)
   | (with_reducible exact impl_isName.mono _ _)
   | (with_reducible exact impl_rowsOK.mono _ _ _)
   | (with_reducible exact LeO.refl _)
   | (with_reducible exact LeO.none _)
   | (with_reducible refine LeO.ite ?_ ?_)
   | (with_reducible refine LeO.bind ?_ (fun _ => ?_))
   | exact ih0 _ _ _ _ _
   | exact ih1 _ _ _ _ _ _ _
   | exact ih2 _ _ _ _ _ _ _ _ _ _ _
   | exact impl_isName.mono _ _
   | exact impl_rowsOK.mono _ _ _
   | exact LeO.none _
   | refine LeO.ite ?_ ?_
   | refine LeO.bind ?_ (fun _ => ?_)
theorem impl_Relation_ok.mono : ∀ a0 a1 a2 a3 k, LeO (impl_Relation_ok.f k a0 a1 a2 a3) (impl_Relation_ok.f (k + 1) a0 a1 a2 a3) := by
 intro a0 a1 a2 a3 k
 obtain ⟨ih0, ih1, ih2⟩ := impl_Relation_ok.mono_l k
 unfold impl_Relation_ok.f
 repeat' first
   | (with_reducible exact ih0 _ _ _ _ _)
   | (with_reducible exact ih1 _ _ _ _ _ _ _)
   | (with_reducible exact ih2 _ _ _ _ _ _ _ _ _ _ _)
   | (with_reducible exact impl_isName.mono _ _)
   | (with_reducible exact impl_rowsOK.mono _ _ _)
   | (with_reducible exact LeO.refl _)
   | (with_reducible exact LeO.none _)
   | (with_reducible refine LeO.ite ?_ ?_)
   | (with_reducible refine LeO.bind ?_ (fun _ => ?_))
   | exact ih0 _ _ _ _ _
   | exact ih1 _ _ _ _ _ _ _
   | exact ih2 _ _ _ _ _ _ _ _ _ _ _
   | exact impl_isName.mono _ _
   | exact impl_rowsOK.mono _ _ _
   | exact LeO.none _
   | refine LeO.ite ?_ ?_
   | refine LeO.bind ?_ (fun _ => ?_)
set_option maxHeartbeats 8000000 in
set_option maxRecDepth 100000 in
theorem impl_Relation_ok.calls (k : Nat) (a0_0 : ByteArray) (a0_1 : Int) (A0_2 : Option Addr) (c0_2 : Nat) (l0_2 : List (List Int)) (A0_3 : Option Addr) (c0_3 : Nat) (l0_3 : List Int) (r : Bool) (w : World) (hr0_2 : Kd.C (Kd.slice 3 (Kd.int .i64)) w A0_2 l0_2.length l0_2) (hc0_2 : l0_2.length ≤ c0_2) (hr0_3 : Kd.C (Kd.int .i64) w A0_3 l0_3.length l0_3) (hc0_3 : l0_3.length ≤ c0_3) (h : impl_Relation_ok.f k a0_0 a0_1 l0_2 l0_3 = some r) :
  Calls Tryd.prog 58 #[.agg #[.string a0_0, .int .i64 a0_1, .slice A0_2 l0_2.length c0_2, .slice A0_3 l0_3.length c0_3]] w fun e w' => e = .returned (.bool r) ∧ Below w.heap.size w w' := by
 have hu55 := Tryd.underlying55
 have HR0_2 := Aside0.mk hr0_2
 have HC0_2 := Aside0.mk hc0_2
 clear hr0_2 hc0_2
 have HR0_3 := Aside0.mk hr0_3
 have HC0_3 := Aside0.mk hc0_3
 clear hr0_3 hc0_3
 have HB := Aside0.mk (Below.refl w.heap.size w)
 have H : ((impl_isName.f k a0_0).bind fun t214 => (if t214 = true then (if a0_0.toList = ([114, 101, 108] : List UInt8) then (impl_Relation_ok.j0 k true a0_0 a0_1 l0_2 l0_3) else ((impl_within.f a0_1 1 3).bind fun t215 => (if t215 = true then (if (l0_2.length : Int) > 2000 then (impl_Relation_ok.j0 k true a0_0 a0_1 l0_2 l0_3) else (if (l0_3.length : Int) = (l0_2.length : Int) then ((impl_rowsOK.f k l0_2 a0_1).bind fun t216 => (impl_Relation_ok.j0 k (!t216) a0_0 a0_1 l0_2 l0_3)) else (impl_Relation_ok.j0 k true a0_0 a0_1 l0_2 l0_3))) else (impl_Relation_ok.j0 k true a0_0 a0_1 l0_2 l0_3)))) else (impl_Relation_ok.j0 k true a0_0 a0_1 l0_2 l0_3))) = some r := h
 clear h
 have HC2 := Aside0.mk H
 clear H
 go_enter Tryd.func58, Tryd.ntmps58
 go_upto_region 1 with (first | ((with_reducible refine gate_dst (N := 1) rfl ?_); (try (refine gate_guard (by rfl) ?_; dsimp only)); refine box_event ?hg (N := 1) ?hd (cs := #[.string a0_0, .int .i64 a0_1, .slice A0_2 l0_2.length c0_2, .slice A0_3 l0_3.length c0_3]) (t := 55) ?hr ?_; (case hd => rfl); (case hg => rfl); (case hr => first | (go_simp; done) | (go_simp; rfl)); intro gb213 hg w3 hbox hb; have n0_ := Aside0.mk (below_step (by repeat (first | (with_reducible first | exact HB.out | apply below_alloc | apply pw_below_drewN | apply below_drew1) | exact HB.out)) hb); have n1_ := Aside0.mk (hbox); have n2_ := Aside0.mk ((by rw [hg]; exact (below_size (by repeat (first | (with_reducible first | exact HB.out | apply below_alloc | apply pw_below_drewN | apply below_drew1) | exact HB.out))) : w.heap.size ≤ gb213)); have n3_ := Aside0.mk ((by rw [hg]; exact (below_size (by repeat (first | (with_reducible first | exact HB.out | apply below_alloc | apply pw_below_drewN | apply below_drew1) | exact HB.out))) : w.heap.size ≤ gb213)); clear HB; have HB := n0_; have BK213 := n1_; have GW213 := n2_; have GE213 := n3_; clear n0_ n1_ n2_ n3_; clear hb hbox hg))
 (try simp only [Act.put, List.setIfInBounds_toArray, List.set_cons_zero, List.set_cons_succ])
 go_cut [44] (fun v44 wc => ∃ (kq : Nat) (x44_1 : Bool), v44 = .bool x44_1 ∧ Aside0 (impl_Relation_ok.j0 kq x44_1 a0_0 a0_1 l0_2 l0_3 = some r) ∧ Aside0 (kq ≤ k) ∧ Aside0 (wc.heap[gb213]? = some (.cells #[.string a0_0, .int .i64 a0_1, (.slice A0_2 l0_2.length c0_2), (.slice A0_3 l0_3.length c0_3)] 55 (0, 0))) ∧ Aside0 (Below w.heap.size w wc))
 case first =>
  have H := HC2.out
  clear HC2
  replace H := Option.bind_eq_some_iff.mp H
  obtain ⟨t214, A40, H⟩ := H
  replace H : (if t214 = true then (if a0_0.toList = ([114, 101, 108] : List UInt8) then (impl_Relation_ok.j0 k true a0_0 a0_1 l0_2 l0_3) else ((impl_within.f a0_1 1 3).bind fun t215 => (if t215 = true then (if (l0_2.length : Int) > 2000 then (impl_Relation_ok.j0 k true a0_0 a0_1 l0_2 l0_3) else (if (l0_3.length : Int) = (l0_2.length : Int) then ((impl_rowsOK.f k l0_2 a0_1).bind fun t216 => (impl_Relation_ok.j0 k (!t216) a0_0 a0_1 l0_2 l0_3)) else (impl_Relation_ok.j0 k true a0_0 a0_1 l0_2 l0_3))) else (impl_Relation_ok.j0 k true a0_0 a0_1 l0_2 l0_3)))) else (impl_Relation_ok.j0 k true a0_0 a0_1 l0_2 l0_3)) = some r := H
  have A4 := Aside0.mk A40
  clear A40
  by_cases c5 : t214 = true
  ·subst c5
   have H1 : (if a0_0.toList = ([114, 101, 108] : List UInt8) then (impl_Relation_ok.j0 k true a0_0 a0_1 l0_2 l0_3) else ((impl_within.f a0_1 1 3).bind fun t215 => (if t215 = true then (if (l0_2.length : Int) > 2000 then (impl_Relation_ok.j0 k true a0_0 a0_1 l0_2 l0_3) else (if (l0_3.length : Int) = (l0_2.length : Int) then ((impl_rowsOK.f k l0_2 a0_1).bind fun t216 => (impl_Relation_ok.j0 k (!t216) a0_0 a0_1 l0_2 l0_3)) else (impl_Relation_ok.j0 k true a0_0 a0_1 l0_2 l0_3))) else (impl_Relation_ok.j0 k true a0_0 a0_1 l0_2 l0_3)))) = some r := by rw [if_pos rfl] at H; exact H
   clear H
   have H := H1
   clear H1
   by_cases c6 : a0_0.toList = ([114, 101, 108] : List UInt8)
   ·rw [if_pos c6] at H
    have c6b0 : (a0_0.toList == ([114, 101, 108] : List UInt8)) = true := beq_iff_eq.mpr c6
    have c6b1 : (a0_0.toList != ([114, 101, 108] : List UInt8)) = false := bne_eq_false_iff_eq.mpr c6
    clear c6
    (first | rw [c6b0] | (simp only [i64_w, i32_w]; rw [c6b0]) | skip)
    have H' := Aside0.mk H
    clear H
    have hcz7_0 : w3.cell? ⟨gb213, 0, none⟩ = some (.string a0_0) := (blk_cell BK213.out 0).trans rfl
    have hcz7_1 : w3.cell? ⟨gb213, 1, none⟩ = some (.int .i64 a0_1) := (blk_cell BK213.out 1).trans rfl
    have hcz7_2 : w3.cell? ⟨gb213, 2, none⟩ = some (.slice A0_2 l0_2.length c0_2) := (blk_cell BK213.out 2).trans rfl
    have hcz7_3 : w3.cell? ⟨gb213, 3, none⟩ = some (.slice A0_3 l0_3.length c0_3) := (blk_cell BK213.out 3).trans rfl
    have hfz7_0 := blk_frozen BK213.out 0
    have hfz7_1 := blk_frozen BK213.out 1
    have hfz7_2 := blk_frozen BK213.out 2
    have hfz7_3 := blk_frozen BK213.out 3
    go_wp2_with (first | ((with_reducible refine gate_callee (f := 64) rfl ?_); refine goesL_ (some 9) rfl rfl Tryd.func64 (by kernel_rfl) rfl #[.string a0_0] rfl (by (try simp only [List.map_toArray, List.map_cons, List.map_nil]); first | done | rfl | (simp only [List.length_drop, List.length_take]; rfl)) ?_; (with_reducible refine (impl_isName.calls k a0_0 true _ A4.out).mono ?_); rintro e w' ⟨rfl, ⟨nd, rfl⟩⟩; refine ⟨_, rfl, ?_⟩))
    go_meet
    case rel => exact ⟨_, (true), (by first | rfl | (simp; done) | (simp [*]; done)), H', ⟨by first | omega | exact Nat.le_refl _⟩, ⟨by (with_reducible repeat (first | refine blk_drewN ?_ _ | refine blk_drew ?_ | refine blk_alloc ?_ _)); exact BK213.out⟩, ⟨by repeat (first | (with_reducible first | exact HB.out | apply below_alloc | apply pw_below_drewN | apply below_drew1 | refine below_set ?_ GE213.out) | exact HB.out)⟩⟩
   ·rw [if_neg c6] at H
    have c6b0 : (a0_0.toList == ([114, 101, 108] : List UInt8)) = false := beq_eq_false_iff_ne.mpr c6
    have c6b1 : (a0_0.toList != ([114, 101, 108] : List UInt8)) = true := bne_iff_ne.mpr c6
    (first | rw [c6b0] | (simp only [i64_w, i32_w]; rw [c6b0]) | skip)
    replace H := Option.bind_eq_some_iff.mp H
    obtain ⟨t215, A80, H⟩ := H
    replace H : (if t215 = true then (if (l0_2.length : Int) > 2000 then (impl_Relation_ok.j0 k true a0_0 a0_1 l0_2 l0_3) else (if (l0_3.length : Int) = (l0_2.length : Int) then ((impl_rowsOK.f k l0_2 a0_1).bind fun t216 => (impl_Relation_ok.j0 k (!t216) a0_0 a0_1 l0_2 l0_3)) else (impl_Relation_ok.j0 k true a0_0 a0_1 l0_2 l0_3))) else (impl_Relation_ok.j0 k true a0_0 a0_1 l0_2 l0_3)) = some r := H
    have A8 := Aside0.mk A80
    clear A80
    by_cases c9 : t215 = true
    ·subst c9
     have H1 : (if (l0_2.length : Int) > 2000 then (impl_Relation_ok.j0 k true a0_0 a0_1 l0_2 l0_3) else (if (l0_3.length : Int) = (l0_2.length : Int) then ((impl_rowsOK.f k l0_2 a0_1).bind fun t216 => (impl_Relation_ok.j0 k (!t216) a0_0 a0_1 l0_2 l0_3)) else (impl_Relation_ok.j0 k true a0_0 a0_1 l0_2 l0_3))) = some r := by rw [if_pos rfl] at H; exact H
     clear H
     have H := H1
     clear H1
     by_cases c10 : (l0_2.length : Int) > 2000
     ·rw [if_pos c10] at H
      have c10b0 : decide (2000 < (l0_2.length : Int)) = true := decide_eq_true c10
      have c10b1 : decide (2000 < l0_2.length) = true := decide_eq_true (by omega)
      clear c10
      have H' := Aside0.mk H
      clear H
      have hcz11_0 : w3.cell? ⟨gb213, 0, none⟩ = some (.string a0_0) := (blk_cell BK213.out 0).trans rfl
      have hcz11_1 : w3.cell? ⟨gb213, 1, none⟩ = some (.int .i64 a0_1) := (blk_cell BK213.out 1).trans rfl
      have hcz11_2 : w3.cell? ⟨gb213, 2, none⟩ = some (.slice A0_2 l0_2.length c0_2) := (blk_cell BK213.out 2).trans rfl
      have hcz11_3 : w3.cell? ⟨gb213, 3, none⟩ = some (.slice A0_3 l0_3.length c0_3) := (blk_cell BK213.out 3).trans rfl
      have hfz11_0 := blk_frozen BK213.out 0
      have hfz11_1 := blk_frozen BK213.out 1
      have hfz11_2 := blk_frozen BK213.out 2
      have hfz11_3 := blk_frozen BK213.out 3
      go_wp2_with (first | ((with_reducible refine gate_callee (f := 64) rfl ?_); refine goesL_ (some 9) rfl rfl Tryd.func64 (by kernel_rfl) rfl #[.string a0_0] rfl (by (try simp only [List.map_toArray, List.map_cons, List.map_nil]); first | done | rfl | (simp only [List.length_drop, List.length_take]; rfl)) ?_; (with_reducible refine (impl_isName.calls k a0_0 true _ A4.out).mono ?_); rintro e w' ⟨rfl, ⟨nd, rfl⟩⟩; refine ⟨_, rfl, ?_⟩) | (go_at_call 65; (with_reducible refine (impl_within.calls a0_1 1 3 true _ A8.out).mono ?_); rintro e w' ⟨rfl, ⟨nd, rfl⟩⟩))
      go_meet
      case rel => exact ⟨_, (true), (by first | rfl | (simp; done) | (simp [*]; done)), H', ⟨by first | omega | exact Nat.le_refl _⟩, ⟨by (with_reducible repeat (first | refine blk_drewN ?_ _ | refine blk_drew ?_ | refine blk_alloc ?_ _)); exact BK213.out⟩, ⟨by repeat (first | (with_reducible first | exact HB.out | apply below_alloc | apply pw_below_drewN | apply below_drew1 | refine below_set ?_ GE213.out) | exact HB.out)⟩⟩
     ·rw [if_neg c10] at H
      have c10b0 : decide (2000 < (l0_2.length : Int)) = false := decide_eq_false c10
      have c10b1 : decide (2000 < l0_2.length) = false := decide_eq_false (by omega)
      clear c10
      by_cases c12 : (l0_3.length : Int) = (l0_2.length : Int)
      ·rw [if_pos c12] at H
       have c12b0 : ((l0_3.length : Int) == (l0_2.length : Int)) = true := beq_iff_eq.mpr c12
       have c12b1 : ((l0_3.length : Int) != (l0_2.length : Int)) = false := bne_eq_false_iff_eq.mpr c12
       have c12b2 : (l0_3.length == l0_2.length) = true := by first | simpa using c12 | (simp at c12 ⊢; omega)
       clear c12
       replace H := Option.bind_eq_some_iff.mp H
       obtain ⟨t216, A130, H⟩ := H
       replace H : (impl_Relation_ok.j0 k (!t216) a0_0 a0_1 l0_2 l0_3) = some r := H
       have A13 := Aside0.mk A130
       clear A130
       have H' := Aside0.mk H
       clear H
       have hcz14_0 : w3.cell? ⟨gb213, 0, none⟩ = some (.string a0_0) := (blk_cell BK213.out 0).trans rfl
       have hcz14_1 : w3.cell? ⟨gb213, 1, none⟩ = some (.int .i64 a0_1) := (blk_cell BK213.out 1).trans rfl
       have hcz14_2 : w3.cell? ⟨gb213, 2, none⟩ = some (.slice A0_2 l0_2.length c0_2) := (blk_cell BK213.out 2).trans rfl
       have hcz14_3 : w3.cell? ⟨gb213, 3, none⟩ = some (.slice A0_3 l0_3.length c0_3) := (blk_cell BK213.out 3).trans rfl
       have hfz14_0 := blk_frozen BK213.out 0
       have hfz14_1 := blk_frozen BK213.out 1
       have hfz14_2 := blk_frozen BK213.out 2
       have hfz14_3 := blk_frozen BK213.out 3
       go_wp2_with (first | ((with_reducible refine gate_callee (f := 64) rfl ?_); refine goesL_ (some 9) rfl rfl Tryd.func64 (by kernel_rfl) rfl #[.string a0_0] rfl (by (try simp only [List.map_toArray, List.map_cons, List.map_nil]); first | done | rfl | (simp only [List.length_drop, List.length_take]; rfl)) ?_; (with_reducible refine (impl_isName.calls k a0_0 true _ A4.out).mono ?_); rintro e w' ⟨rfl, ⟨nd, rfl⟩⟩; refine ⟨_, rfl, ?_⟩) | (go_at_call 65; (with_reducible refine (impl_within.calls a0_1 1 3 true _ A8.out).mono ?_); rintro e w' ⟨rfl, ⟨nd, rfl⟩⟩) | (go_at_call 95; (with_reducible refine (impl_rowsOK.calls k _ _ l0_2 a0_1 t216 _ ?side1 ?side2 A13.out).mono ?_); (case side1 => repeat (first | exact (Kd.C_below HR0_2.out (by repeat (first | (with_reducible first | exact HB.out | apply below_alloc | apply pw_below_drewN | apply below_drew1 | refine below_set ?_ GE213.out) | exact HB.out))) | (with_reducible refine Kd.C_alloc ?_ _) | (with_reducible refine Kd.C_drewN ?_ _) | (with_reducible refine Kd.C_drew ?_))); (case side2 => exact HC0_2.out); rintro e w' ⟨rfl, ⟨nd, rfl⟩⟩))
       go_meet
       case rel => exact ⟨_, (!t216), (by first | rfl | (simp; done) | (simp [*]; done)), H', ⟨by first | omega | exact Nat.le_refl _⟩, ⟨by (with_reducible repeat (first | refine blk_drewN ?_ _ | refine blk_drew ?_ | refine blk_alloc ?_ _)); exact BK213.out⟩, ⟨by repeat (first | (with_reducible first | exact HB.out | apply below_alloc | apply pw_below_drewN | apply below_drew1 | refine below_set ?_ GE213.out) | exact HB.out)⟩⟩
      ·rw [if_neg c12] at H
       have c12b0 : ((l0_3.length : Int) == (l0_2.length : Int)) = false := beq_eq_false_iff_ne.mpr c12
       have c12b1 : ((l0_3.length : Int) != (l0_2.length : Int)) = true := bne_iff_ne.mpr c12
       have c12b2 : (l0_3.length == l0_2.length) = false := by first | simpa using c12 | (simp at c12 ⊢; omega)
       have H' := Aside0.mk H
       clear H
       have hcz15_0 : w3.cell? ⟨gb213, 0, none⟩ = some (.string a0_0) := (blk_cell BK213.out 0).trans rfl
       have hcz15_1 : w3.cell? ⟨gb213, 1, none⟩ = some (.int .i64 a0_1) := (blk_cell BK213.out 1).trans rfl
       have hcz15_2 : w3.cell? ⟨gb213, 2, none⟩ = some (.slice A0_2 l0_2.length c0_2) := (blk_cell BK213.out 2).trans rfl
       have hcz15_3 : w3.cell? ⟨gb213, 3, none⟩ = some (.slice A0_3 l0_3.length c0_3) := (blk_cell BK213.out 3).trans rfl
       have hfz15_0 := blk_frozen BK213.out 0
       have hfz15_1 := blk_frozen BK213.out 1
       have hfz15_2 := blk_frozen BK213.out 2
       have hfz15_3 := blk_frozen BK213.out 3
       go_wp2_with (first | ((with_reducible refine gate_callee (f := 64) rfl ?_); refine goesL_ (some 9) rfl rfl Tryd.func64 (by kernel_rfl) rfl #[.string a0_0] rfl (by (try simp only [List.map_toArray, List.map_cons, List.map_nil]); first | done | rfl | (simp only [List.length_drop, List.length_take]; rfl)) ?_; (with_reducible refine (impl_isName.calls k a0_0 true _ A4.out).mono ?_); rintro e w' ⟨rfl, ⟨nd, rfl⟩⟩; refine ⟨_, rfl, ?_⟩) | (go_at_call 65; (with_reducible refine (impl_within.calls a0_1 1 3 true _ A8.out).mono ?_); rintro e w' ⟨rfl, ⟨nd, rfl⟩⟩))
       go_meet
       case rel => exact ⟨_, (true), (by first | rfl | (simp; done) | (simp [*]; done)), H', ⟨by first | omega | exact Nat.le_refl _⟩, ⟨by (with_reducible repeat (first | refine blk_drewN ?_ _ | refine blk_drew ?_ | refine blk_alloc ?_ _)); exact BK213.out⟩, ⟨by repeat (first | (with_reducible first | exact HB.out | apply below_alloc | apply pw_below_drewN | apply below_drew1 | refine below_set ?_ GE213.out) | exact HB.out)⟩⟩
    ·replace c9 := Bool.eq_false_iff.mpr c9
     subst c9
     have H1 : (impl_Relation_ok.j0 k true a0_0 a0_1 l0_2 l0_3) = some r := by rw [if_neg (show ¬ (false = true) by decide)] at H; exact H
     clear H
     have H := H1
     clear H1
     have H' := Aside0.mk H
     clear H
     have hcz16_0 : w3.cell? ⟨gb213, 0, none⟩ = some (.string a0_0) := (blk_cell BK213.out 0).trans rfl
     have hcz16_1 : w3.cell? ⟨gb213, 1, none⟩ = some (.int .i64 a0_1) := (blk_cell BK213.out 1).trans rfl
     have hcz16_2 : w3.cell? ⟨gb213, 2, none⟩ = some (.slice A0_2 l0_2.length c0_2) := (blk_cell BK213.out 2).trans rfl
     have hcz16_3 : w3.cell? ⟨gb213, 3, none⟩ = some (.slice A0_3 l0_3.length c0_3) := (blk_cell BK213.out 3).trans rfl
     have hfz16_0 := blk_frozen BK213.out 0
     have hfz16_1 := blk_frozen BK213.out 1
     have hfz16_2 := blk_frozen BK213.out 2
     have hfz16_3 := blk_frozen BK213.out 3
     go_wp2_with (first | ((with_reducible refine gate_callee (f := 64) rfl ?_); refine goesL_ (some 9) rfl rfl Tryd.func64 (by kernel_rfl) rfl #[.string a0_0] rfl (by (try simp only [List.map_toArray, List.map_cons, List.map_nil]); first | done | rfl | (simp only [List.length_drop, List.length_take]; rfl)) ?_; (with_reducible refine (impl_isName.calls k a0_0 true _ A4.out).mono ?_); rintro e w' ⟨rfl, ⟨nd, rfl⟩⟩; refine ⟨_, rfl, ?_⟩) | (go_at_call 65; (with_reducible refine (impl_within.calls a0_1 1 3 false _ A8.out).mono ?_); rintro e w' ⟨rfl, ⟨nd, rfl⟩⟩))
     go_meet
     case rel => exact ⟨_, (true), (by first | rfl | (simp; done) | (simp [*]; done)), H', ⟨by first | omega | exact Nat.le_refl _⟩, ⟨by (with_reducible repeat (first | refine blk_drewN ?_ _ | refine blk_drew ?_ | refine blk_alloc ?_ _)); exact BK213.out⟩, ⟨by repeat (first | (with_reducible first | exact HB.out | apply below_alloc | apply pw_below_drewN | apply below_drew1 | refine below_set ?_ GE213.out) | exact HB.out)⟩⟩
  ·replace c5 := Bool.eq_false_iff.mpr c5
   subst c5
   have H1 : (impl_Relation_ok.j0 k true a0_0 a0_1 l0_2 l0_3) = some r := by rw [if_neg (show ¬ (false = true) by decide)] at H; exact H
   clear H
   have H := H1
   clear H1
   have H' := Aside0.mk H
   clear H
   have hcz17_0 : w3.cell? ⟨gb213, 0, none⟩ = some (.string a0_0) := (blk_cell BK213.out 0).trans rfl
   have hcz17_1 : w3.cell? ⟨gb213, 1, none⟩ = some (.int .i64 a0_1) := (blk_cell BK213.out 1).trans rfl
   have hcz17_2 : w3.cell? ⟨gb213, 2, none⟩ = some (.slice A0_2 l0_2.length c0_2) := (blk_cell BK213.out 2).trans rfl
   have hcz17_3 : w3.cell? ⟨gb213, 3, none⟩ = some (.slice A0_3 l0_3.length c0_3) := (blk_cell BK213.out 3).trans rfl
   have hfz17_0 := blk_frozen BK213.out 0
   have hfz17_1 := blk_frozen BK213.out 1
   have hfz17_2 := blk_frozen BK213.out 2
   have hfz17_3 := blk_frozen BK213.out 3
   go_wp2_with (first | ((with_reducible refine gate_callee (f := 64) rfl ?_); refine goesL_ (some 9) rfl rfl Tryd.func64 (by kernel_rfl) rfl #[.string a0_0] rfl (by (try simp only [List.map_toArray, List.map_cons, List.map_nil]); first | done | rfl | (simp only [List.length_drop, List.length_take]; rfl)) ?_; (with_reducible refine (impl_isName.calls k a0_0 false _ A4.out).mono ?_); rintro e w' ⟨rfl, ⟨nd, rfl⟩⟩; refine ⟨_, rfl, ?_⟩))
   go_meet
   case rel => exact ⟨_, (true), (by first | rfl | (simp; done) | (simp [*]; done)), H', ⟨by first | omega | exact Nat.le_refl _⟩, ⟨by (with_reducible repeat (first | refine blk_drewN ?_ _ | refine blk_drew ?_ | refine blk_alloc ?_ _)); exact BK213.out⟩, ⟨by repeat (first | (with_reducible first | exact HB.out | apply below_alloc | apply pw_below_drewN | apply below_drew1 | refine below_set ?_ GE213.out) | exact HB.out)⟩⟩
 case rest =>
  clear HC2
  try clear c1
  try clear p2
  try clear c5
  try clear c6
  try clear c6b0
  try clear c6b1
  try clear c9
  try clear c10
  try clear c10b0
  try clear c10b1
  try clear c12
  try clear c12b0
  try clear c12b1
  try clear c12b2
  try clear hcz11_0
  try clear hcz11_1
  try clear hcz11_2
  try clear hcz11_3
  try clear hcz14_0
  try clear hcz14_1
  try clear hcz14_2
  try clear hcz14_3
  try clear hcz15_0
  try clear hcz15_1
  try clear hcz15_2
  try clear hcz15_3
  try clear hcz16_0
  try clear hcz16_1
  try clear hcz16_2
  try clear hcz16_3
  try clear hcz17_0
  try clear hcz17_1
  try clear hcz17_2
  try clear hcz17_3
  try clear hcz7_0
  try clear hcz7_1
  try clear hcz7_2
  try clear hcz7_3
  try clear hfz11_0
  try clear hfz11_1
  try clear hfz11_2
  try clear hfz11_3
  try clear hfz14_0
  try clear hfz14_1
  try clear hfz14_2
  try clear hfz14_3
  try clear hfz15_0
  try clear hfz15_1
  try clear hfz15_2
  try clear hfz15_3
  try clear hfz16_0
  try clear hfz16_1
  try clear hfz16_2
  try clear hfz16_3
  try clear hfz17_0
  try clear hfz17_1
  try clear hfz17_2
  try clear hfz17_3
  try clear hfz7_0
  try clear hfz7_1
  try clear hfz7_2
  try clear hfz7_3
  obtain ⟨kq, x44_1, rfl, HA, HJ1, BK213, HB⟩ := hcut
  cases kq with
  | zero => exact absurd HA.out (by simp [impl_Relation_ok.j0])
  | succ kj1 =>
   have H := HA.out
   clear HA
   simp only [impl_Relation_ok.j0] at H
   by_cases c18 : x44_1 = true
   ·subst c18
    have H1 : (some false) = some r := by rw [if_pos rfl] at H; exact H
    clear H
    have H := H1
    clear H1
    obtain rfl := Option.some.inj H
    go_wp2
    go_ret
    exact ⟨by first | rfl | (simp [errW_none, errW_some] <;> rfl) | (simp [*, errW_none, errW_some] <;> rfl), by repeat (first | (with_reducible first | exact HB.out | apply below_alloc | apply pw_below_drewN | apply below_drew1 | refine below_set ?_ GE213.out) | exact HB.out)⟩
   ·replace c18 := Bool.eq_false_iff.mpr c18
    subst c18
    have H1 : (impl_Relation_ok.l0 kj1 l0_2 (l0_2.length : Int) 0 a0_0 a0_1 l0_2 l0_3) = some r := by rw [if_neg (show ¬ (false = true) by decide)] at H; exact H
    clear H
    have H := H1
    clear H1
    have H' := Aside0.mk H
    clear H
    have hcz19_0 : wc.cell? ⟨gb213, 0, none⟩ = some (.string a0_0) := (blk_cell BK213.out 0).trans rfl
    have hcz19_1 : wc.cell? ⟨gb213, 1, none⟩ = some (.int .i64 a0_1) := (blk_cell BK213.out 1).trans rfl
    have hcz19_2 : wc.cell? ⟨gb213, 2, none⟩ = some (.slice A0_2 l0_2.length c0_2) := (blk_cell BK213.out 2).trans rfl
    have hcz19_3 : wc.cell? ⟨gb213, 3, none⟩ = some (.slice A0_3 l0_3.length c0_3) := (blk_cell BK213.out 3).trans rfl
    have hfz19_0 := blk_frozen BK213.out 0
    have hfz19_1 := blk_frozen BK213.out 1
    have hfz19_2 := blk_frozen BK213.out 2
    have hfz19_3 := blk_frozen BK213.out 3
    go_wp2
    go_loopg [48] kj1 (fun kq v48 w' => ∃ (x48_2 : Int), v48 = .int .i64 x48_2 ∧ Aside0 (impl_Relation_ok.l0 kq l0_2 (l0_2.length : Int) x48_2 a0_0 a0_1 l0_2 l0_3 = some r) ∧ Aside0 (kq ≤ kj1) ∧ Aside0 (w'.heap[gb213]? = some (.cells #[.string a0_0, .int .i64 a0_1, (.slice A0_2 l0_2.length c0_2), (.slice A0_3 l0_3.length c0_3)] 55 (0, 0))) ∧ Aside0 (Below w.heap.size w w'))
    case atStart => exact ⟨(0), (by first | rfl | (simp; done) | (simp [*]; done)), H', ⟨Nat.le_refl _⟩, ⟨by (with_reducible repeat (first | refine blk_drewN ?_ _ | refine blk_drew ?_ | refine blk_alloc ?_ _)); exact BK213.out⟩, ⟨by repeat (first | (with_reducible first | exact HB.out | apply below_alloc | apply pw_below_drewN | apply below_drew1 | refine below_set ?_ GE213.out) | exact HB.out)⟩⟩
    case round =>
     clear H'
     try clear c1
     try clear p2
     try clear c5
     try clear c6
     try clear c6b0
     try clear c6b1
     try clear c9
     try clear c10
     try clear c10b0
     try clear c10b1
     try clear c12
     try clear c12b0
     try clear c12b1
     try clear c12b2
     try clear c18
     try clear hcz11_0
     try clear hcz11_1
     try clear hcz11_2
     try clear hcz11_3
     try clear hcz14_0
     try clear hcz14_1
     try clear hcz14_2
     try clear hcz14_3
     try clear hcz15_0
     try clear hcz15_1
     try clear hcz15_2
     try clear hcz15_3
     try clear hcz16_0
     try clear hcz16_1
     try clear hcz16_2
     try clear hcz16_3
     try clear hcz17_0
     try clear hcz17_1
     try clear hcz17_2
     try clear hcz17_3
     try clear hcz19_0
     try clear hcz19_1
     try clear hcz19_2
     try clear hcz19_3
     try clear hcz7_0
     try clear hcz7_1
     try clear hcz7_2
     try clear hcz7_3
     try clear hfz11_0
     try clear hfz11_1
     try clear hfz11_2
     try clear hfz11_3
     try clear hfz14_0
     try clear hfz14_1
     try clear hfz14_2
     try clear hfz14_3
     try clear hfz15_0
     try clear hfz15_1
     try clear hfz15_2
     try clear hfz15_3
     try clear hfz16_0
     try clear hfz16_1
     try clear hfz16_2
     try clear hfz16_3
     try clear hfz17_0
     try clear hfz17_1
     try clear hfz17_2
     try clear hfz17_3
     try clear hfz19_0
     try clear hfz19_1
     try clear hfz19_2
     try clear hfz19_3
     try clear hfz7_0
     try clear hfz7_1
     try clear hfz7_2
     try clear hfz7_3
     try clear p2
     obtain ⟨x48_2, rfl, HA, HK2, BK213, HB⟩ := hrel
     cases gk with
     | zero => exact absurd HA.out (by simp [impl_Relation_ok.l0])
     | succ k2 =>
      have H := HA.out
      clear HA
      simp only [impl_Relation_ok.l0] at H
      by_cases c20 : x48_2 < (l0_2.length : Int)
      ·rw [if_pos c20] at H
       have c20b0 : decide (x48_2 < (l0_2.length : Int)) = true := decide_eq_true c20
       clear c20
       by_cases c21 : 0 ≤ x48_2
       ·rw [if_pos c21] at H
        have c21b0 : decide (0 ≤ x48_2) = true := decide_eq_true c21
        clear c21
        by_cases c22 : x48_2 < (l0_2.length : Int)
        ·rw [if_pos c22] at H
         have c22b0 : decide (x48_2 < (l0_2.length : Int)) = true := decide_eq_true c22
         clear c22
         have H' := Aside0.mk H
         clear H
         have p217 : 0 ≤ (x48_2 : Int) := of_decide_eq_true (by first | (with_reducible assumption) | assumption)
         have q217 : x48_2 < (l0_2.length : Int) := of_decide_eq_true (by first | (with_reducible assumption) | assumption)
         obtain ⟨ad217, A217_0, c217_0, e217, hx217_0, hl217_0, hi217_0⟩ := at_L1 HR0_2.out x48_2 p217 q217
         cases e217
         replace hx217_0 := (HB.out.cell (World.block_lt_of_cell? w _ hx217_0)).trans hx217_0
         have HR217_0 := Aside0.mk hi217_0
         have HC217_0 := Aside0.mk hl217_0
         clear hi217_0 hl217_0
         replace p217 := eq_true p217
         replace q217 := eq_true q217
         go_wp2
         go_loopg [55] k2 (fun kq v55 w' => ∃ (x55_3 : Int), v55 = .int .i64 x55_3 ∧ Aside0 (impl_Relation_ok.l1 kq x48_2 l0_2 (l0_2.length : Int) x48_2 (rd_L1 l0_2 x48_2) ((rd_L1 l0_2 x48_2).length : Int) x55_3 a0_0 a0_1 l0_2 l0_3 = some r) ∧ Aside0 (kq ≤ k2) ∧ Aside0 (w'.heap[gb213]? = some (.cells #[.string a0_0, .int .i64 a0_1, (.slice (some ad217) l0_2.length c0_2), (.slice A0_3 l0_3.length c0_3)] 55 (0, 0))) ∧ Aside0 (Below w.heap.size w w'))
         case atStart => exact ⟨(0), (by first | rfl | (simp; done) | (simp [*]; done)), H', ⟨Nat.le_refl _⟩, ⟨by (with_reducible repeat (first | refine blk_drewN ?_ _ | refine blk_drew ?_ | refine blk_alloc ?_ _)); exact BK213.out⟩, ⟨by repeat (first | (with_reducible first | exact HB.out | apply below_alloc | apply pw_below_drewN | apply below_drew1 | refine below_set ?_ GE213.out) | exact HB.out)⟩⟩
         case round =>
          clear H'
          try clear c1
          try clear c2
          try clear p2
          try clear q2
          try clear hx2
          try clear c5
          try clear c6
          try clear c6b0
          try clear c6b1
          try clear c9
          try clear c10
          try clear c10b0
          try clear c10b1
          try clear c12
          try clear c12b0
          try clear c12b1
          try clear c12b2
          try clear c18
          try clear c20
          try clear c20b0
          try clear c21
          try clear c21b0
          try clear p21
          try clear q21
          try clear hx21
          try clear c22
          try clear c22b0
          try clear hcz11_0
          try clear hcz11_1
          try clear hcz11_2
          try clear hcz11_3
          try clear hcz14_0
          try clear hcz14_1
          try clear hcz14_2
          try clear hcz14_3
          try clear hcz15_0
          try clear hcz15_1
          try clear hcz15_2
          try clear hcz15_3
          try clear hcz16_0
          try clear hcz16_1
          try clear hcz16_2
          try clear hcz16_3
          try clear hcz17_0
          try clear hcz17_1
          try clear hcz17_2
          try clear hcz17_3
          try clear hcz19_0
          try clear hcz19_1
          try clear hcz19_2
          try clear hcz19_3
          try clear hcz7_0
          try clear hcz7_1
          try clear hcz7_2
          try clear hcz7_3
          try clear hfz11_0
          try clear hfz11_1
          try clear hfz11_2
          try clear hfz11_3
          try clear hfz14_0
          try clear hfz14_1
          try clear hfz14_2
          try clear hfz14_3
          try clear hfz15_0
          try clear hfz15_1
          try clear hfz15_2
          try clear hfz15_3
          try clear hfz16_0
          try clear hfz16_1
          try clear hfz16_2
          try clear hfz16_3
          try clear hfz17_0
          try clear hfz17_1
          try clear hfz17_2
          try clear hfz17_3
          try clear hfz19_0
          try clear hfz19_1
          try clear hfz19_2
          try clear hfz19_3
          try clear hfz7_0
          try clear hfz7_1
          try clear hfz7_2
          try clear hfz7_3
          try clear hx217_0
          try clear p2
          try clear p217
          try clear q217
          obtain ⟨x55_3, rfl, HA, HK3, BK213, HB⟩ := hrel
          cases gk with
          | zero => exact absurd HA.out (by simp [impl_Relation_ok.l1])
          | succ k3 =>
           have H := HA.out
           clear HA
           simp only [impl_Relation_ok.l1] at H
           by_cases c23 : x55_3 < ((rd_L1 l0_2 x48_2).length : Int)
           ·rw [if_pos c23] at H
            have c23b0 : decide (x55_3 < ((rd_L1 l0_2 x48_2).length : Int)) = true := decide_eq_true c23
            clear c23
            by_cases c24 : 0 ≤ x55_3
            ·rw [if_pos c24] at H
             have c24b0 : decide (0 ≤ x55_3) = true := decide_eq_true c24
             clear c24
             by_cases c25 : x55_3 < ((rd_L1 l0_2 x48_2).length : Int)
             ·rw [if_pos c25] at H
              have c25b0 : decide (x55_3 < ((rd_L1 l0_2 x48_2).length : Int)) = true := decide_eq_true c25
              clear c25
              replace H := Option.bind_eq_some_iff.mp H
              obtain ⟨t219, A260, H⟩ := H
              replace H : (if t219 = true then (impl_Relation_ok.l1 k3 x48_2 l0_2 (l0_2.length : Int) x48_2 (rd_L1 l0_2 x48_2) ((rd_L1 l0_2 x48_2).length : Int) (wrap64 (x55_3 + 1)) a0_0 a0_1 l0_2 l0_3) else (some false)) = some r := H
              have A26 := Aside0.mk A260
              clear A260
              by_cases c27 : t219 = true
              ·subst c27
               have H1 : (impl_Relation_ok.l1 k3 x48_2 l0_2 (l0_2.length : Int) x48_2 (rd_L1 l0_2 x48_2) ((rd_L1 l0_2 x48_2).length : Int) (wrap64 (x55_3 + 1)) a0_0 a0_1 l0_2 l0_3) = some r := by rw [if_pos rfl] at H; exact H
               clear H
               have H := H1
               clear H1
               have H' := Aside0.mk H
               clear H
               have p218 : 0 ≤ (x55_3 : Int) := of_decide_eq_true (by first | (with_reducible assumption) | assumption)
               have q218 : x55_3 < ((rd_L1 l0_2 x48_2).length : Int) := of_decide_eq_true (by first | (with_reducible assumption) | assumption)
               obtain ⟨ad218, e218, hx218_0⟩ := Kd.at_int HR217_0.out x55_3 p218 q218
               cases e218
               replace hx218_0 := (HB.out.cell (World.block_lt_of_cell? w _ hx218_0)).trans hx218_0
               replace p218 := eq_true p218
               replace q218 := eq_true q218
               go_wp2_with (first | ((with_reducible refine gate_callee (f := 65) rfl ?_); refine goesL_ (some 60) rfl rfl Tryd.func65 (by kernel_rfl) rfl #[.int .i64 (rd (rd_L1 l0_2 x48_2) x55_3), .int .i64 0, .int .i64 1000000] rfl (by (try simp only [List.map_toArray, List.map_cons, List.map_nil]); first | done | rfl | (simp only [List.length_drop, List.length_take]; rfl)) ?_; (with_reducible refine (impl_within.calls (rd (rd_L1 l0_2 x48_2) x55_3) 0 1000000 true _ A26.out).mono ?_); rintro e w' ⟨rfl, ⟨nd, rfl⟩⟩; refine ⟨_, rfl, ?_⟩))
               go_roundg k3
               case measure => have := HJ1.out; have := HK2.out; have := HK3.out; omega
               case rel => exact ⟨(wrap64 (x55_3 + 1)), (by first | rfl | (simp; done) | (simp [*]; done)), H', ⟨by have := HJ1.out; have := HK2.out; have := HK3.out; omega⟩, ⟨by (with_reducible repeat (first | refine blk_drewN ?_ _ | refine blk_drew ?_ | refine blk_alloc ?_ _)); exact BK213.out⟩, ⟨by repeat (first | (with_reducible first | exact HB.out | apply below_alloc | apply pw_below_drewN | apply below_drew1 | refine below_set ?_ GE213.out) | exact HB.out)⟩⟩
              ·replace c27 := Bool.eq_false_iff.mpr c27
               subst c27
               have H1 : (some false) = some r := by rw [if_neg (show ¬ (false = true) by decide)] at H; exact H
               clear H
               have H := H1
               clear H1
               obtain rfl := Option.some.inj H
               have p218 : 0 ≤ (x55_3 : Int) := of_decide_eq_true (by first | (with_reducible assumption) | assumption)
               have q218 : x55_3 < ((rd_L1 l0_2 x48_2).length : Int) := of_decide_eq_true (by first | (with_reducible assumption) | assumption)
               obtain ⟨ad218, e218, hx218_0⟩ := Kd.at_int HR217_0.out x55_3 p218 q218
               cases e218
               replace hx218_0 := (HB.out.cell (World.block_lt_of_cell? w _ hx218_0)).trans hx218_0
               replace p218 := eq_true p218
               replace q218 := eq_true q218
               go_wp2_with (first | ((with_reducible refine gate_callee (f := 65) rfl ?_); refine goesL_ (some 60) rfl rfl Tryd.func65 (by kernel_rfl) rfl #[.int .i64 (rd (rd_L1 l0_2 x48_2) x55_3), .int .i64 0, .int .i64 1000000] rfl (by (try simp only [List.map_toArray, List.map_cons, List.map_nil]); first | done | rfl | (simp only [List.length_drop, List.length_take]; rfl)) ?_; (with_reducible refine (impl_within.calls (rd (rd_L1 l0_2 x48_2) x55_3) 0 1000000 false _ A26.out).mono ?_); rintro e w' ⟨rfl, ⟨nd, rfl⟩⟩; refine ⟨_, rfl, ?_⟩))
               go_ret
               exact ⟨by first | rfl | (simp [errW_none, errW_some] <;> rfl) | (simp [*, errW_none, errW_some] <;> rfl), by repeat (first | (with_reducible first | exact HB.out | apply below_alloc | apply pw_below_drewN | apply below_drew1 | refine below_set ?_ GE213.out) | exact HB.out)⟩
             ·rw [if_neg c25] at H
              exact absurd H (by simp)
            ·rw [if_neg c24] at H
             exact absurd H (by simp)
           ·rw [if_neg c23] at H
            have c23b0 : decide (x55_3 < ((rd_L1 l0_2 x48_2).length : Int)) = false := decide_eq_false c23
            clear c23
            by_cases c28 : 0 ≤ x48_2
            ·rw [if_pos c28] at H
             have c28b0 : decide (0 ≤ x48_2) = true := decide_eq_true c28
             clear c28
             by_cases c29 : x48_2 < (l0_3.length : Int)
             ·rw [if_pos c29] at H
              have c29b0 : decide (x48_2 < (l0_3.length : Int)) = true := decide_eq_true c29
              clear c29
              replace H := Option.bind_eq_some_iff.mp H
              obtain ⟨t221, A300, H⟩ := H
              replace H : (if t221 = true then (impl_Relation_ok.l0 k3 l0_2 (l0_2.length : Int) (wrap64 (x48_2 + 1)) a0_0 a0_1 l0_2 l0_3) else (some false)) = some r := H
              have A30 := Aside0.mk A300
              clear A300
              by_cases c31 : t221 = true
              ·subst c31
               have H1 : (impl_Relation_ok.l0 k3 l0_2 (l0_2.length : Int) (wrap64 (x48_2 + 1)) a0_0 a0_1 l0_2 l0_3) = some r := by rw [if_pos rfl] at H; exact H
               clear H
               have H := H1
               clear H1
               have H' := Aside0.mk H
               clear H
               have hcz32_0 : wr.cell? ⟨gb213, 0, none⟩ = some (.string a0_0) := (blk_cell BK213.out 0).trans rfl
               have hcz32_1 : wr.cell? ⟨gb213, 1, none⟩ = some (.int .i64 a0_1) := (blk_cell BK213.out 1).trans rfl
               have hcz32_2 : wr.cell? ⟨gb213, 2, none⟩ = some (.slice (some ad217) l0_2.length c0_2) := (blk_cell BK213.out 2).trans rfl
               have hcz32_3 : wr.cell? ⟨gb213, 3, none⟩ = some (.slice A0_3 l0_3.length c0_3) := (blk_cell BK213.out 3).trans rfl
               have hfz32_0 := blk_frozen BK213.out 0
               have hfz32_1 := blk_frozen BK213.out 1
               have hfz32_2 := blk_frozen BK213.out 2
               have hfz32_3 := blk_frozen BK213.out 3
               have p220 : 0 ≤ (x48_2 : Int) := of_decide_eq_true (by first | (with_reducible assumption) | assumption)
               have q220 : x48_2 < (l0_3.length : Int) := of_decide_eq_true (by first | (with_reducible assumption) | assumption)
               obtain ⟨ad220, e220, hx220_0⟩ := Kd.at_int HR0_3.out x48_2 p220 q220
               cases e220
               replace hx220_0 := (HB.out.cell (World.block_lt_of_cell? w _ hx220_0)).trans hx220_0
               replace p220 := eq_true p220
               replace q220 := eq_true q220
               go_wp2_with (first | ((with_reducible refine gate_callee (f := 65) rfl ?_); refine goesL_ (some 68) rfl rfl Tryd.func65 (by kernel_rfl) rfl #[.int .i64 (rd l0_3 x48_2), .int .i64 (-1000000), .int .i64 1000000] rfl (by (try simp only [List.map_toArray, List.map_cons, List.map_nil]); first | done | rfl | (simp only [List.length_drop, List.length_take]; rfl)) ?_; (with_reducible refine (impl_within.calls (rd l0_3 x48_2) (-1000000) 1000000 true _ A30.out).mono ?_); rintro e w' ⟨rfl, ⟨nd, rfl⟩⟩; refine ⟨_, rfl, ?_⟩))
               go_roundg k3
               case measure => have := HJ1.out; have := HK2.out; have := HK3.out; omega
               case rel => exact ⟨(wrap64 (x48_2 + 1)), (by first | rfl | (simp; done) | (simp [*]; done)), H', ⟨by have := HJ1.out; have := HK2.out; have := HK3.out; omega⟩, ⟨by (with_reducible repeat (first | refine blk_drewN ?_ _ | refine blk_drew ?_ | refine blk_alloc ?_ _)); exact BK213.out⟩, ⟨by repeat (first | (with_reducible first | exact HB.out | apply below_alloc | apply pw_below_drewN | apply below_drew1 | refine below_set ?_ GE213.out) | exact HB.out)⟩⟩
              ·replace c31 := Bool.eq_false_iff.mpr c31
               subst c31
               have H1 : (some false) = some r := by rw [if_neg (show ¬ (false = true) by decide)] at H; exact H
               clear H
               have H := H1
               clear H1
               obtain rfl := Option.some.inj H
               have hcz33_0 : wr.cell? ⟨gb213, 0, none⟩ = some (.string a0_0) := (blk_cell BK213.out 0).trans rfl
               have hcz33_1 : wr.cell? ⟨gb213, 1, none⟩ = some (.int .i64 a0_1) := (blk_cell BK213.out 1).trans rfl
               have hcz33_2 : wr.cell? ⟨gb213, 2, none⟩ = some (.slice (some ad217) l0_2.length c0_2) := (blk_cell BK213.out 2).trans rfl
               have hcz33_3 : wr.cell? ⟨gb213, 3, none⟩ = some (.slice A0_3 l0_3.length c0_3) := (blk_cell BK213.out 3).trans rfl
               have hfz33_0 := blk_frozen BK213.out 0
               have hfz33_1 := blk_frozen BK213.out 1
               have hfz33_2 := blk_frozen BK213.out 2
               have hfz33_3 := blk_frozen BK213.out 3
               have p220 : 0 ≤ (x48_2 : Int) := of_decide_eq_true (by first | (with_reducible assumption) | assumption)
               have q220 : x48_2 < (l0_3.length : Int) := of_decide_eq_true (by first | (with_reducible assumption) | assumption)
               obtain ⟨ad220, e220, hx220_0⟩ := Kd.at_int HR0_3.out x48_2 p220 q220
               cases e220
               replace hx220_0 := (HB.out.cell (World.block_lt_of_cell? w _ hx220_0)).trans hx220_0
               replace p220 := eq_true p220
               replace q220 := eq_true q220
               go_wp2_with (first | ((with_reducible refine gate_callee (f := 65) rfl ?_); refine goesL_ (some 68) rfl rfl Tryd.func65 (by kernel_rfl) rfl #[.int .i64 (rd l0_3 x48_2), .int .i64 (-1000000), .int .i64 1000000] rfl (by (try simp only [List.map_toArray, List.map_cons, List.map_nil]); first | done | rfl | (simp only [List.length_drop, List.length_take]; rfl)) ?_; (with_reducible refine (impl_within.calls (rd l0_3 x48_2) (-1000000) 1000000 false _ A30.out).mono ?_); rintro e w' ⟨rfl, ⟨nd, rfl⟩⟩; refine ⟨_, rfl, ?_⟩))
               go_ret
               exact ⟨by first | rfl | (simp [errW_none, errW_some] <;> rfl) | (simp [*, errW_none, errW_some] <;> rfl), by repeat (first | (with_reducible first | exact HB.out | apply below_alloc | apply pw_below_drewN | apply below_drew1 | refine below_set ?_ GE213.out) | exact HB.out)⟩
             ·rw [if_neg c29] at H
              exact absurd H (by simp)
            ·rw [if_neg c28] at H
             exact absurd H (by simp)
        ·rw [if_neg c22] at H
         exact absurd H (by simp)
       ·rw [if_neg c21] at H
        exact absurd H (by simp)
      ·rw [if_neg c20] at H
       have c20b0 : decide (x48_2 < (l0_2.length : Int)) = false := decide_eq_false c20
       clear c20
       obtain rfl := Option.some.inj H
       go_wp2
       go_ret
       exact ⟨by first | rfl | (simp [errW_none, errW_some] <;> rfl) | (simp [*, errW_none, errW_some] <;> rfl), by repeat (first | (with_reducible first | exact HB.out | apply below_alloc | apply pw_below_drewN | apply below_drew1 | refine below_set ?_ GE213.out) | exact HB.out)⟩
end Go.Proofs.YtjlglimikbfgmaaDoor.P
namespace Go.Proofs.YtjlglimikbfgmaaDoor.P
open Go.RowKit Go.Proofs.YtjlglimikbfgmaaDoorW.PrintWords Go.Proofs.YtjlglimikbfgmaaDoorW.PrintLast Go.Proofs.YtjlglimikbfgmaaDoor.MapKit
set_option linter.unusedVariables false
set_option linter.unusedSimpArgs false
def dataLoop (ok : ByteArray → Int → List (List Int) → List Int → Option Bool) : List ByteArray → List S55 → Option Bool
  | _, [] => some true
  | ns, r :: rest => if r.f0 ∈ ns then some false else (ok r.f0 r.f1 r.f2 r.f3).bind fun b => if b = true then dataLoop ok (ns ++ [r.f0]) rest else some false
def dataOKf (k : Nat) (l : List S55) : Option Bool := if l.length > 50 then some false else dataLoop (impl_Relation_ok.f k) [] l
theorem dataLoop_mono (k : Nat) : ∀ (l : List S55) (ns : List ByteArray), LeO (dataLoop (impl_Relation_ok.f k) ns l) (dataLoop (impl_Relation_ok.f (k + 1)) ns l)
  | [], _ => LeO.refl _
  | r :: rest, ns => by
    simp only [dataLoop]
    refine LeO.ite (LeO.refl _) (LeO.bind (impl_Relation_ok.mono _ _ _ _ k) (fun (b : Bool) => LeO.ite (dataLoop_mono k rest _) (LeO.refl _)))
theorem dataOKf_mono (k : Nat) (l : List S55) : LeO (dataOKf k l) (dataOKf (k + 1) l) := LeO.ite (LeO.refl _) (dataLoop_mono k l [])
theorem zeroBool (w : World) : (zeroValue 4).run Tryd.prog w = .ok (.bool false) w := by kernel_rfl
theorem keyString : KeyEnc Tryd.prog 9 Value.string := KeyEnc.string Tryd.underlying9
set_option maxHeartbeats 4000000 in
set_option maxRecDepth 100000 in
theorem dataOK_walk (k : Nat) (A : Option Addr) (c : Nat) (l : List S55) (r : Bool) (w : World) (hr : Kd.C k55 w A l.length l) (hc : l.length ≤ c) (h : dataOKf k l = some r) :
    Calls Tryd.prog 25 #[.agg #[.slice A l.length c]] w fun e w' => e = .returned (.bool r) ∧ Below w.heap.size w w' := by
  have hu1 := Tryd.underlying29
  have hu2 := Tryd.underlying55
  have HR := Aside0.mk hr
  have HB := Aside0.mk (Below.refl w.heap.size w)
  have hlen : l.length ≤ 9223372036854775807 := hr.2.1
  clear hr
  unfold dataOKf at h
  by_cases c2 : l.length > 50
  · rw [if_pos c2] at h
    obtain rfl := Option.some.inj h
    have c2b0 : decide (50 < (l.length : Int)) = true := decide_eq_true (by omega)
    have c2b1 : decide (50 < l.length) = true := decide_eq_true c2
    clear h c2
    have hmm := @run_makeMap Tryd.prog
    go_enter Tryd.func25, Tryd.ntmps25
    go_wp2
    go_ret
    exact ⟨rfl, by repeat (first | exact HB.out | apply below_alloc | apply pw_below_drewN | apply below_drew1)⟩
  · rw [if_neg c2] at h
    have c2b0 : decide (50 < (l.length : Int)) = false := decide_eq_false (by omega)
    have c2b1 : decide (50 < l.length) = false := decide_eq_false c2
    have H := Aside0.mk h
    clear h c2
    have hmm := @run_makeMap Tryd.prog
    go_enter Tryd.func25, Tryd.ntmps25
    go_wp2
    go_loopw [14] (fun i wr => ∃ x : Int, i = .int .i64 x ∧ 0 ≤ x ∧ x ≤ (l.length : Int) ∧ Aside0 (dataLoop (impl_Relation_ok.f k) ((l.take x.toNat).map (fun z => z.f0)) (l.drop x.toNat) = some r) ∧ Aside0 (HasMap wr (w.heap.size + 1) Value.string (setL ((l.take x.toNat).map (fun z => z.f0)))) ∧ Aside0 (Below w.heap.size w wr)) (fun i _ => l.length - (intOf i).toNat)
    case atStart =>
      refine ⟨0, rfl, by omega, by omega, ⟨by simpa using H.out⟩, ⟨?_⟩, ⟨by repeat (first | exact HB.out | apply below_alloc)⟩⟩
      have h1 := HasMap.made (w.alloc (.cells #[.slice A l.length c] 29)) Value.string
      simpa [setL] using h1
    case round =>
      obtain ⟨x, rfl, h0, hle, HA, HM, HB⟩ := hrel
      by_cases hlt : x < (l.length : Int)
      · obtain ⟨ad, A2, c2, A3, c3, e, hx0, hx1, hx2, hx3, hl2, hi2, hl3, hi3⟩ := at_T55 HR.out x h0 hlt
        cases e
        have hn : x.toNat < l.length := by omega
        have hrd : rd_T55 l x = l[x.toNat] := by unfold rd_T55; simp [List.getD_eq_getElem?_getD, hn]
        have HA2 : Aside0 (dataLoop (impl_Relation_ok.f k) ((l.take x.toNat).map (fun z => z.f0)) (rd_T55 l x :: l.drop (x.toNat + 1)) = some r) := ⟨by rw [hrd, ← List.drop_eq_getElem_cons hn]; exact HA.out⟩
        have HT : Aside0 ((l.take (x.toNat + 1)).map (fun z => z.f0) = (l.take x.toNat).map (fun z => z.f0) ++ [(rd_T55 l x).f0]) := ⟨by rw [List.take_succ_eq_append_getElem hn, List.map_append, hrd]; rfl⟩
        clear HA hrd
        replace hx0 := (HB.out.cell (World.block_lt_of_cell? w _ hx0)).trans hx0
        replace hx1 := (HB.out.cell (World.block_lt_of_cell? w _ hx1)).trans hx1
        replace hx2 := (HB.out.cell (World.block_lt_of_cell? w _ hx2)).trans hx2
        replace hx3 := (HB.out.cell (World.block_lt_of_cell? w _ hx3)).trans hx3
        have HR2 := Aside0.mk hi2
        have HC2 := Aside0.mk hl2
        have HR3 := Aside0.mk hi3
        have HC3 := Aside0.mk hl3
        clear hi2 hl2 hi3 hl3
        generalize rd_T55 l x = q at *
        obtain ⟨q0, q1, q2, q3⟩ := q
        dsimp only at *
        have Hd := HA2.out
        simp only [dataLoop] at Hd
        by_cases hm : q0 ∈ (l.take x.toNat).map (fun z => z.f0)
        · rw [if_pos hm] at Hd
          obtain rfl := Option.some.inj Hd
          clear Hd
          have hget : (get q0 (setL ((l.take x.toNat).map (fun z => z.f0)))).getD (.bool false) = .bool true := by rw [get_set]; simp only [hm, decide_true]
          have HG := Aside0.mk hget
          clear hget
          have hlt2 := HM.out.lt
          go_wp2_with (first | (at_lookup; refine wp_lookup rfl false _ _ rfl keyString Tryd.underlying111 (zeroBool _) rfl q0 rfl (l := setL ((l.take x.toNat).map (fun z => z.f0))) ?_ ?_; (case refine_1 => repeat (first | exact HM.out | refine HasMap.alloc ?_ _ | refine HasMap.set ?_ (by simp; omega) _)); (simp only [Bool.false_eq_true, if_false]; rw [HG.out])))
          go_ret
          exact ⟨rfl, by repeat (first | exact HB.out | apply below_alloc | refine below_set ?_ (by simp; omega))⟩
        · rw [if_neg hm] at Hd
          obtain ⟨b, hb1, Hd⟩ := Option.bind_eq_some_iff.1 Hd
          have HK := Aside0.mk hb1
          have HD := Aside0.mk Hd
          clear hb1 Hd
          have hget : (get q0 (setL ((l.take x.toNat).map (fun z => z.f0)))).getD (.bool false) = .bool false := by rw [get_set]; simp only [hm, decide_false]
          have HG := Aside0.mk hget
          have HN := Aside0.mk hm
          clear hget hm
          have hlt2 := HM.out.lt
          have hcall : ∀ W, Below w.heap.size w W → Calls Tryd.prog 58 #[.agg #[.string q0, .int .i64 q1, .slice A2 q2.length c2, .slice A3 q3.length c3]] W fun e W' => e = .returned (.bool b) ∧ Below W.heap.size W W' :=
            fun W hW => impl_Relation_ok.calls k q0 q1 A2 c2 q2 A3 c3 q3 b W (Kd.C_below HR2.out hW) HC2.out (Kd.C_below HR3.out hW) HC3.out HK.out
          have HCA := Aside0.mk hcall
          clear hcall
          cases b with
          | false =>
            have HD' := HD.out
            simp only [Bool.false_eq_true, if_false] at HD'
            obtain rfl := Option.some.inj HD'
            clear HD HD'
            go_wp2_with (first | (at_lookup; refine wp_lookup rfl false _ _ rfl keyString Tryd.underlying111 (zeroBool _) rfl q0 rfl (l := setL ((l.take x.toNat).map (fun z => z.f0))) ?_ ?_; (case refine_1 => repeat (first | exact HM.out | refine HasMap.alloc ?_ _ | refine HasMap.set ?_ (by simp; omega) _)); (simp only [Bool.false_eq_true, if_false]; rw [HG.out])) | (go_at_call 58; refine (HCA.out _ (by repeat (first | exact HB.out | apply below_alloc | refine below_set ?_ (by simp; omega)))).mono ?_; rintro e w1 ⟨rfl, hb1⟩))
            go_ret
            exact ⟨rfl, below_step (by repeat (first | exact HB.out | apply below_alloc | refine below_set ?_ (by simp; omega))) hb1⟩
          | true =>
            have HD' := HD.out
            simp only [if_true] at HD'
            have HD2 := Aside0.mk HD'
            clear HD HD'
            go_wp2_with (first | (at_lookup; refine wp_lookup rfl false _ _ rfl keyString Tryd.underlying111 (zeroBool _) rfl q0 rfl (l := setL ((l.take x.toNat).map (fun z => z.f0))) ?_ ?_; (case refine_1 => repeat (first | exact HM.out | refine HasMap.alloc ?_ _ | refine HasMap.set ?_ (by simp; omega) _)); (simp only [Bool.false_eq_true, if_false]; rw [HG.out])) | (go_at_call 58; refine (HCA.out _ (by repeat (first | exact HB.out | apply below_alloc | refine below_set ?_ (by simp; omega)))).mono ?_; rintro e w1 ⟨rfl, hb1⟩; have hc5 : w1.cell? ⟨wr.heap.size, 0, none⟩ = some (.string q0) := (hb1.cell (p := ⟨wr.heap.size, 0, none⟩) (by simp)).trans (by go_simp)) | (at_mapUpdate; refine wp_update rfl _ _ _ rfl keyString Tryd.underlying111 rfl q0 rfl (.bool true) rfl (l := setL ((l.take x.toNat).map (fun z => z.f0))) ?_ ?_; (case refine_1 => exact HasMap.below (by repeat (first | exact HM.out | refine HasMap.alloc ?_ _ | refine HasMap.set ?_ (by simp; omega) _)) hb1); intro w2 hm2 hg2))
            have hx1 : (x + 1).toNat = x.toNat + 1 := by omega
            go_roundw
            case rel =>
              have hbb : Below w.heap.size w w1 := below_step (by repeat (first | exact HB.out | apply below_alloc | refine below_set ?_ (by simp; omega))) hb1
              refine ⟨x + 1, rfl, by omega, by omega, ⟨?_⟩, ⟨?_⟩, ⟨?_⟩⟩
              · rw [hx1, HT.out]; exact HD2.out
              · rw [hx1, HT.out, ← put_set q0 _ HN.out]; exact hm2
              · exact hbb.grown hg2 hbb.size (fun k hk => by injection hk with hk; omega)
            case measure => simp [intOf]; omega
      · have hx : x.toNat = l.length := by omega
        have Hd := HA.out
        rw [hx, List.drop_length] at Hd
        simp only [dataLoop] at Hd
        obtain rfl := Option.some.inj Hd
        clear Hd HA
        go_wp2
        go_ret
        exact ⟨rfl, HB.out⟩
end Go.Proofs.YtjlglimikbfgmaaDoor.P
namespace Go.Proofs.YtjlglimikbfgmaaDoor.P
open Go.RowKit Go.Proofs.YtjlglimikbfgmaaDoorW.PrintWords Go.Proofs.YtjlglimikbfgmaaDoorW.PrintLast Go.Proofs.YtjlglimikbfgmaaDoorW.PrintMore
attribute [local go_sem] max2_int min2_int max_two min_two max_three min_three max_four min_four
set_option linter.unusedVariables false
set_option linter.unusedSimpArgs false
def impl_DataOK.f (k : Nat) (l0_0 : List (S55)) : Option (Bool) :=
 dataOKf k l0_0
theorem impl_DataOK.mono : ∀ a0 k, LeO (impl_DataOK.f k a0) (impl_DataOK.f (k + 1) a0) := by
 intro a0 k
 exact dataOKf_mono k a0
theorem impl_DataOK.calls (k : Nat) (A0_0 : Option Addr) (c0_0 : Nat) (l0_0 : List (S55)) (r : Bool) (w : World) (hr0_0 : Kd.C k55 w A0_0 l0_0.length l0_0) (hc0_0 : l0_0.length ≤ c0_0) (h : impl_DataOK.f k l0_0 = some r) :
  Calls Tryd.prog 25 #[.agg #[.slice A0_0 l0_0.length c0_0]] w fun e w' => e = .returned (.bool r) ∧ Below w.heap.size w w' := by
 exact dataOK_walk k A0_0 c0_0 l0_0 r w hr0_0 hc0_0 h
end Go.Proofs.YtjlglimikbfgmaaDoor.P
