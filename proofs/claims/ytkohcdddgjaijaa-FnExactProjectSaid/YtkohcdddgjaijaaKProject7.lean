/-
  Part 7 of the proof of this: The law FnExactProject answers true at every argument.
-/
import Derived.Test.YtkohcdddgjaijaaKProject2
import Derived.Test.YtkohcdddgjaijaaKProject3
import Derived.Test.YtkohcdddgjaijaaKProject5
namespace Go.Proofs.Ytkohcdddgjaijaa.P
open Go.RowKit Go.Proofs.YtkohcdddgjaijaaW.PrintWords Go.Proofs.YtkohcdddgjaijaaW.PrintLast Go.Proofs.YtkohcdddgjaijaaW.PrintMore
attribute [local go_sem] max2_int min2_int max_two min_two max_three min_three max_four min_four
set_option linter.unusedVariables false
set_option linter.unusedSimpArgs false
def spec_l2Value.l0 : Nat → List Int → Int → List Int → Int → Int → Option (Int)
 | 0, _, _, _, _, _ => none
 | k + 1, x1, x2, x10, x11, x12 => if x12 < x11 then (if 0 ≤ x12 then (if x12 < (x10.length : Int) then (if (rd x10 x12) = x2 then (if x12 < (x1.length : Int) then (some (rd x1 x12)) else (none)) else (spec_l2Value.l0 k x1 x2 x10 x11 (wrap64 (x12 + 1)))) else (none)) else (none)) else (some 0)
def spec_l2Value.f (k : Nat) (l0_0 : List Int) (l0_1 : List (List Int)) (l0_2 : List Int) (l1 : List Int) (a2 : Int) : Option (Int) := spec_l2Value.l0 k l1 a2 l0_0 (l0_0.length : Int) 0
theorem spec_l2Value.mono_l : ∀ k, (∀ y0 y1 y2 y3 y4, LeO (spec_l2Value.l0 k y0 y1 y2 y3 y4) (spec_l2Value.l0 (k + 1) y0 y1 y2 y3 y4))
 | 0 => fun _ _ _ _ _ r h => by simp [spec_l2Value.l0] at h
 | k + 1 => by
  have ih0 := spec_l2Value.mono_l k
  ·intro y0 y1 y2 y3 y4
   unfold spec_l2Value.l0
   repeat' first
   | (with_reducible exact ih0 _ _ _ _ _)
   | (with_reducible exact LeO.refl _)
   | (with_reducible exact LeO.none _)
   | (with_reducible refine LeO.ite ?_ ?_)
   | (with_reducible refine LeO.bind ?_ (fun _ => ?_))
   | exact ih0 _ _ _ _ _
   | exact LeO.none _
   | refine LeO.ite ?_ ?_
   | refine LeO.bind ?_ (fun _ => ?_)
theorem spec_l2Value.mono : ∀ a0 a1 a2 a3 a4 k, LeO (spec_l2Value.f k a0 a1 a2 a3 a4) (spec_l2Value.f (k + 1) a0 a1 a2 a3 a4) := by
 intro a0 a1 a2 a3 a4 k
 have ih0 := spec_l2Value.mono_l k
 unfold spec_l2Value.f
 repeat' first
   | (with_reducible exact ih0 _ _ _ _ _)
   | (with_reducible exact LeO.refl _)
   | (with_reducible exact LeO.none _)
   | (with_reducible refine LeO.ite ?_ ?_)
   | (with_reducible refine LeO.bind ?_ (fun _ => ?_))
   | exact ih0 _ _ _ _ _
   | exact LeO.none _
   | refine LeO.ite ?_ ?_
   | refine LeO.bind ?_ (fun _ => ?_)
set_option maxHeartbeats 8000000 in
set_option maxRecDepth 100000 in
theorem spec_l2Value.calls (k : Nat) (A0_0 : Option Addr) (c0_0 : Nat) (l0_0 : List Int) (A0_1 : Option Addr) (c0_1 : Nat) (l0_1 : List (List Int)) (A0_2 : Option Addr) (c0_2 : Nat) (l0_2 : List Int) (A1 : Option Addr) (c1 : Nat) (l1 : List Int) (a2 : Int) (r : Int) (w : World) (hr0_0 : Kd.C (Kd.int .i64) w A0_0 l0_0.length l0_0) (hc0_0 : l0_0.length ≤ c0_0) (hr0_1 : Kd.C (Kd.slice 3 (Kd.int .i64)) w A0_1 l0_1.length l0_1) (hc0_1 : l0_1.length ≤ c0_1) (hr0_2 : Kd.C (Kd.int .i64) w A0_2 l0_2.length l0_2) (hc0_2 : l0_2.length ≤ c0_2) (hr1 : Kd.C (Kd.int .i64) w A1 l1.length l1) (hc1 : l1.length ≤ c1) (h : spec_l2Value.f k l0_0 l0_1 l0_2 l1 a2 = some r) :
  Calls Try.prog 51 #[.agg #[.slice A0_0 l0_0.length c0_0, .slice A0_1 l0_1.length c0_1, .slice A0_2 l0_2.length c0_2], .slice A1 l1.length c1, .int .i64 a2] w fun e w' => e = .returned (.int .i64 r) ∧ Below w.heap.size w w' := by
 have hu27 := Try.underlying27
 have HR0_0 := Aside0.mk hr0_0
 have HC0_0 := Aside0.mk hc0_0
 clear hr0_0 hc0_0
 have HR0_1 := Aside0.mk hr0_1
 have HC0_1 := Aside0.mk hc0_1
 clear hr0_1 hc0_1
 have HR0_2 := Aside0.mk hr0_2
 have HC0_2 := Aside0.mk hc0_2
 clear hr0_2 hc0_2
 have HR1 := Aside0.mk hr1
 have HC1 := Aside0.mk hc1
 clear hr1 hc1
 have HB := Aside0.mk (Below.refl w.heap.size w)
 have H : (spec_l2Value.l0 k l1 a2 l0_0 (l0_0.length : Int) 0) = some r := h
 clear h
 have H' := Aside0.mk H
 clear H
 go_enter Try.func51, Try.ntmps51
 go_wp2_with (first | ((with_reducible refine gate_dst (N := 3) rfl ?_); refine box_event ?hg (N := 3) ?hd (cs := #[.slice A0_0 l0_0.length c0_0, .slice A0_1 l0_1.length c0_1, .slice A0_2 l0_2.length c0_2]) (t := 27) ?hr ?_; (case hd => rfl); (case hg => rfl); (case hr => first | (go_simp; done) | (go_simp; rfl)); intro gb123 hg w4 hbox hb; have n0_ := Aside0.mk (below_step (by repeat (first | (with_reducible first | exact HB.out | apply below_alloc | apply pw_below_drewN | apply below_drew1) | exact HB.out)) hb); have n1_ := Aside0.mk (hbox); have n2_ := Aside0.mk ((by rw [hg]; exact (below_size (by repeat (first | (with_reducible first | exact HB.out | apply below_alloc | apply pw_below_drewN | apply below_drew1) | exact HB.out))) : w.heap.size ≤ gb123)); have n3_ := Aside0.mk ((by rw [hg]; exact (below_size (by repeat (first | (with_reducible first | exact HB.out | apply below_alloc | apply pw_below_drewN | apply below_drew1) | exact HB.out))) : w.heap.size ≤ gb123)); clear HB; have HB := n0_; have BK123 := n1_; have GW123 := n2_; have GE123 := n3_; clear n0_ n1_ n2_ n3_; clear hb hbox hg; have hcz5_0 : w4.cell? ⟨gb123, 0, none⟩ = some (.slice A0_0 l0_0.length c0_0) := (blk_cell BK123.out 0).trans rfl; have hcz5_1 : w4.cell? ⟨gb123, 1, none⟩ = some (.slice A0_1 l0_1.length c0_1) := (blk_cell BK123.out 1).trans rfl; have hcz5_2 : w4.cell? ⟨gb123, 2, none⟩ = some (.slice A0_2 l0_2.length c0_2) := (blk_cell BK123.out 2).trans rfl; have hfz5_0 := blk_frozen BK123.out 0; have hfz5_1 := blk_frozen BK123.out 1; have hfz5_2 := blk_frozen BK123.out 2))
 go_loopg [12] k (fun kq v12 w' => ∃ (x12_1 : Int), v12 = .int .i64 x12_1 ∧ Aside0 (spec_l2Value.l0 kq l1 a2 l0_0 (l0_0.length : Int) x12_1 = some r) ∧ Aside0 (kq ≤ k) ∧ Aside0 (w'.heap[gb123]? = some (.cells #[(.slice A0_0 l0_0.length c0_0), (.slice A0_1 l0_1.length c0_1), (.slice A0_2 l0_2.length c0_2)] 27 (0, 0))) ∧ Aside0 (Below w.heap.size w w'))
 case atStart => exact ⟨(0), (by first | rfl | (simp; done) | (simp [*]; done)), H', ⟨Nat.le_refl _⟩, ⟨by (with_reducible repeat (first | refine blk_drewN ?_ _ | refine blk_drew ?_ | refine blk_alloc ?_ _)); exact BK123.out⟩, ⟨by repeat (first | (with_reducible first | exact HB.out | apply below_alloc | apply pw_below_drewN | apply below_drew1 | refine below_set ?_ GE123.out) | exact HB.out)⟩⟩
 case round =>
  clear H'
  try clear c1
  try clear p2
  try clear c5
  try clear hcz5_0
  try clear hcz5_1
  try clear hcz5_2
  try clear hfz5_0
  try clear hfz5_1
  try clear hfz5_2
  obtain ⟨x12_1, rfl, HA, HK1, BK123, HB⟩ := hrel
  cases gk with
  | zero => exact absurd HA.out (by simp [spec_l2Value.l0])
  | succ k1 =>
   have H := HA.out
   clear HA
   simp only [spec_l2Value.l0] at H
   by_cases c6 : x12_1 < (l0_0.length : Int)
   ·rw [if_pos c6] at H
    have c6b0 : decide (x12_1 < (l0_0.length : Int)) = true := decide_eq_true c6
    clear c6
    by_cases c7 : 0 ≤ x12_1
    ·rw [if_pos c7] at H
     have c7b0 : decide (0 ≤ x12_1) = true := decide_eq_true c7
     clear c7
     by_cases c8 : x12_1 < (l0_0.length : Int)
     ·rw [if_pos c8] at H
      have c8b0 : decide (x12_1 < (l0_0.length : Int)) = true := decide_eq_true c8
      clear c8
      by_cases c9 : (rd l0_0 x12_1) = a2
      ·rw [if_pos c9] at H
       have c9b0 : ((rd l0_0 x12_1) == a2) = true := beq_iff_eq.mpr c9
       have c9b1 : ((rd l0_0 x12_1) != a2) = false := bne_eq_false_iff_eq.mpr c9
       clear c9
       by_cases c10 : x12_1 < (l1.length : Int)
       ·rw [if_pos c10] at H
        have c10b0 : decide (x12_1 < (l1.length : Int)) = true := decide_eq_true c10
        clear c10
        obtain rfl := Option.some.inj H
        have p124 : 0 ≤ (x12_1 : Int) := of_decide_eq_true (by first | (with_reducible assumption) | assumption)
        have q124 : x12_1 < (l0_0.length : Int) := of_decide_eq_true (by first | (with_reducible assumption) | assumption)
        obtain ⟨ad124, e124, hx124_0⟩ := Kd.at_int HR0_0.out x12_1 p124 q124
        cases e124
        replace hx124_0 := (HB.out.cell (World.block_lt_of_cell? w _ hx124_0)).trans hx124_0
        replace p124 := eq_true p124
        replace q124 := eq_true q124
        have p125 : 0 ≤ (x12_1 : Int) := of_decide_eq_true (by first | (with_reducible assumption) | assumption)
        have q125 : x12_1 < (l1.length : Int) := of_decide_eq_true (by first | (with_reducible assumption) | assumption)
        obtain ⟨ad125, e125, hx125_0⟩ := Kd.at_int HR1.out x12_1 p125 q125
        cases e125
        replace hx125_0 := (HB.out.cell (World.block_lt_of_cell? w _ hx125_0)).trans hx125_0
        replace p125 := eq_true p125
        replace q125 := eq_true q125
        go_wp2
        go_ret
        exact ⟨by first | rfl | (simp [errW_none, errW_some] <;> rfl) | (simp [*, errW_none, errW_some] <;> rfl), by repeat (first | (with_reducible first | exact HB.out | apply below_alloc | apply pw_below_drewN | apply below_drew1 | refine below_set ?_ GE123.out) | exact HB.out)⟩
       ·rw [if_neg c10] at H
        exact absurd H (by simp)
      ·rw [if_neg c9] at H
       have c9b0 : ((rd l0_0 x12_1) == a2) = false := beq_eq_false_iff_ne.mpr c9
       have c9b1 : ((rd l0_0 x12_1) != a2) = true := bne_iff_ne.mpr c9
       have H' := Aside0.mk H
       clear H
       have p124 : 0 ≤ (x12_1 : Int) := of_decide_eq_true (by first | (with_reducible assumption) | assumption)
       have q124 : x12_1 < (l0_0.length : Int) := of_decide_eq_true (by first | (with_reducible assumption) | assumption)
       obtain ⟨ad124, e124, hx124_0⟩ := Kd.at_int HR0_0.out x12_1 p124 q124
       cases e124
       replace hx124_0 := (HB.out.cell (World.block_lt_of_cell? w _ hx124_0)).trans hx124_0
       replace p124 := eq_true p124
       replace q124 := eq_true q124
       go_wp2
       go_roundg k1
       case measure => have := HK1.out; omega
       case rel => exact ⟨(wrap64 (x12_1 + 1)), (by first | rfl | (simp; done) | (simp [*]; done)), H', ⟨by have := HK1.out; omega⟩, ⟨by (with_reducible repeat (first | refine blk_drewN ?_ _ | refine blk_drew ?_ | refine blk_alloc ?_ _)); exact BK123.out⟩, ⟨by repeat (first | (with_reducible first | exact HB.out | apply below_alloc | apply pw_below_drewN | apply below_drew1 | refine below_set ?_ GE123.out) | exact HB.out)⟩⟩
     ·rw [if_neg c8] at H
      exact absurd H (by simp)
    ·rw [if_neg c7] at H
     exact absurd H (by simp)
   ·rw [if_neg c6] at H
    have c6b0 : decide (x12_1 < (l0_0.length : Int)) = false := decide_eq_false c6
    clear c6
    obtain rfl := Option.some.inj H
    go_wp2
    go_ret
    exact ⟨by first | rfl | (simp [errW_none, errW_some] <;> rfl) | (simp [*, errW_none, errW_some] <;> rfl), by repeat (first | (with_reducible first | exact HB.out | apply below_alloc | apply pw_below_drewN | apply below_drew1 | refine below_set ?_ GE123.out) | exact HB.out)⟩
end Go.Proofs.Ytkohcdddgjaijaa.P
namespace Go.Proofs.Ytkohcdddgjaijaa.P
open Go.RowKit Go.Proofs.YtkohcdddgjaijaaW.PrintWords Go.Proofs.YtkohcdddgjaijaaW.PrintLast Go.Proofs.YtkohcdddgjaijaaW.PrintMore
attribute [local go_sem] max2_int min2_int max_two min_two max_three min_three max_four min_four
set_option linter.unusedVariables false
set_option linter.unusedSimpArgs false
def spec_l2Values.l0 : Nat → List Int → List Int → List Int → Int → Int → List Int → List (List Int) → List Int → Option (List Int)
 | 0, _, _, _, _, _, _, _, _ => none
 | k + 1, x1, x7, x11, x12, x13, x127000, x127001, x127002 => if x13 < x12 then (if 0 ≤ x13 then (if x13 < (x11.length : Int) then ((spec_l2Value.f k x127000 x127001 x127002 x1 (rd x11 x13)).bind fun t131 => (if x7.length < 17592186044416 then (spec_l2Values.l0 k x1 (x7 ++ [t131]) x11 x12 (wrap64 (x13 + 1)) x127000 x127001 x127002) else (none))) else (none)) else (none)) else (some x7)
def spec_l2Values.f (k : Nat) (l0_0 : List Int) (l0_1 : List (List Int)) (l0_2 : List Int) (l1 : List Int) (l2 : List Int) : Option (List Int) := spec_l2Values.l0 k l1 (([] : List Int)) l2 (l2.length : Int) 0 l0_0 l0_1 l0_2
theorem spec_l2Values.mono_l : ∀ k, (∀ y0 y1 y2 y3 y4 y5 y6 y7, LeO (spec_l2Values.l0 k y0 y1 y2 y3 y4 y5 y6 y7) (spec_l2Values.l0 (k + 1) y0 y1 y2 y3 y4 y5 y6 y7))
 | 0 => fun _ _ _ _ _ _ _ _ r h => by simp [spec_l2Values.l0] at h
 | k + 1 => by
  have ih0 := spec_l2Values.mono_l k
  ·intro y0 y1 y2 y3 y4 y5 y6 y7
   unfold spec_l2Values.l0
   repeat' first
   | (with_reducible exact ih0 _ _ _ _ _ _ _ _)
   | (with_reducible exact spec_l2Value.mono _ _ _ _ _ _)
   | (with_reducible exact LeO.refl _)
   | (with_reducible exact LeO.none _)
   | (with_reducible refine LeO.ite ?_ ?_)
   | (with_reducible refine LeO.bind ?_ (fun _ => ?_))
   | exact ih0 _ _ _ _ _ _ _ _
   | exact spec_l2Value.mono _ _ _ _ _ _
   | exact LeO.none _
   | refine LeO.ite ?_ ?_
   | refine LeO.bind ?_ (fun _ => ?_)
theorem spec_l2Values.mono : ∀ a0 a1 a2 a3 a4 k, LeO (spec_l2Values.f k a0 a1 a2 a3 a4) (spec_l2Values.f (k + 1) a0 a1 a2 a3 a4) := by
 intro a0 a1 a2 a3 a4 k
 have ih0 := spec_l2Values.mono_l k
 unfold spec_l2Values.f
 repeat' first
   | (with_reducible exact ih0 _ _ _ _ _ _ _ _)
   | (with_reducible exact spec_l2Value.mono _ _ _ _ _ _)
   | (with_reducible exact LeO.refl _)
   | (with_reducible exact LeO.none _)
   | (with_reducible refine LeO.ite ?_ ?_)
   | (with_reducible refine LeO.bind ?_ (fun _ => ?_))
   | exact ih0 _ _ _ _ _ _ _ _
   | exact spec_l2Value.mono _ _ _ _ _ _
   | exact LeO.none _
   | refine LeO.ite ?_ ?_
   | refine LeO.bind ?_ (fun _ => ?_)
set_option maxHeartbeats 8000000 in
set_option maxRecDepth 100000 in
theorem spec_l2Values.calls (k : Nat) (A0_0 : Option Addr) (c0_0 : Nat) (l0_0 : List Int) (A0_1 : Option Addr) (c0_1 : Nat) (l0_1 : List (List Int)) (A0_2 : Option Addr) (c0_2 : Nat) (l0_2 : List Int) (A1 : Option Addr) (c1 : Nat) (l1 : List Int) (A2 : Option Addr) (c2 : Nat) (l2 : List Int) (r : List Int) (w : World) (hr0_0 : Kd.C (Kd.int .i64) w A0_0 l0_0.length l0_0) (hc0_0 : l0_0.length ≤ c0_0) (hr0_1 : Kd.C (Kd.slice 3 (Kd.int .i64)) w A0_1 l0_1.length l0_1) (hc0_1 : l0_1.length ≤ c0_1) (hr0_2 : Kd.C (Kd.int .i64) w A0_2 l0_2.length l0_2) (hc0_2 : l0_2.length ≤ c0_2) (hr1 : Kd.C (Kd.int .i64) w A1 l1.length l1) (hc1 : l1.length ≤ c1) (hr2 : Kd.C (Kd.int .i64) w A2 l2.length l2) (hc2 : l2.length ≤ c2) (h : spec_l2Values.f k l0_0 l0_1 l0_2 l1 l2 = some r) :
  Calls Try.prog 35 #[.agg #[.slice A0_0 l0_0.length c0_0, .slice A0_1 l0_1.length c0_1, .slice A0_2 l0_2.length c0_2], .slice A1 l1.length c1, .slice A2 l2.length c2] w fun e w' => ∃ v0_ : Value, e = .returned (v0_) ∧ Kd.R (Kd.int .i64) 3 w' w.heap.size (fun _ => True) v0_ r ∧ Below w.heap.size w w' := by
 have hu27 := Try.underlying27
 have HR0_0 := Aside0.mk hr0_0
 have HC0_0 := Aside0.mk hc0_0
 clear hr0_0 hc0_0
 have HR0_1 := Aside0.mk hr0_1
 have HC0_1 := Aside0.mk hc0_1
 clear hr0_1 hc0_1
 have HR0_2 := Aside0.mk hr0_2
 have HC0_2 := Aside0.mk hc0_2
 clear hr0_2 hc0_2
 have HR1 := Aside0.mk hr1
 have HC1 := Aside0.mk hc1
 clear hr1 hc1
 have HR2 := Aside0.mk hr2
 have HC2 := Aside0.mk hc2
 clear hr2 hc2
 have HB := Aside0.mk (Below.refl w.heap.size w)
 have H : (spec_l2Values.l0 k l1 (([] : List Int)) l2 (l2.length : Int) 0 l0_0 l0_1 l0_2) = some r := h
 clear h
 obtain ⟨y127, hy127⟩ : ∃ y_ : List Int, y_ = (([] : List Int)) := ⟨_, rfl⟩
 replace H : (spec_l2Values.l0 k l1 y127 l2 (l2.length : Int) 0 l0_0 l0_1 l0_2) = some r := by first | (rw [hy127]; with_reducible exact H) | (have H2_ := (Option.bind_some _ _).symm.trans H; rw [hy127]; with_reducible exact H2_) | (have H2_ := (Option.bind_some _ _).symm.trans H; with_reducible exact H2_) | with_reducible exact H | (rw [hy127]; exact H) | exact H
 have Ny127 := Aside0.mk hy127
 clear hy127
 have H' := Aside0.mk H
 clear H
 go_enter Try.func35, Try.ntmps35
 go_wp2_with (first | ((with_reducible refine gate_dst (N := 3) rfl ?_); refine box_event ?hg (N := 3) ?hd (cs := #[.slice A0_0 l0_0.length c0_0, .slice A0_1 l0_1.length c0_1, .slice A0_2 l0_2.length c0_2]) (t := 27) ?hr ?_; (case hd => rfl); (case hg => rfl); (case hr => first | (go_simp; done) | (go_simp; rfl)); intro gb126 hg w4 hbox hb; have n0_ := Aside0.mk (below_step (by repeat (first | (with_reducible first | exact HB.out | apply below_alloc | apply pw_below_drewN | apply below_drew1) | exact HB.out)) hb); have n1_ := Aside0.mk (hbox); have n2_ := Aside0.mk ((by rw [hg]; exact (below_size (by repeat (first | (with_reducible first | exact HB.out | apply below_alloc | apply pw_below_drewN | apply below_drew1) | exact HB.out))) : w.heap.size ≤ gb126)); have n3_ := Aside0.mk ((by rw [hg]; exact (below_size (by repeat (first | (with_reducible first | exact HB.out | apply below_alloc | apply pw_below_drewN | apply below_drew1) | exact HB.out))) : w.heap.size ≤ gb126)); clear HB; have HB := n0_; have BK126 := n1_; have GW126 := n2_; have GE126 := n3_; clear n0_ n1_ n2_ n3_; clear hb hbox hg) | ((with_reducible refine gate_dst (N := 10) rfl ?_); refine Kd.R_lit (Kd.int .i64) _ 3 ?hg (N := 10) ?hd (xs := ([] : List Int)) (inner := []) (ok := fun _ => True) (okp := fun _ => True) ?hr ?hp (fun _ hk => hk) trivial (Below.refl _ _) (Nat.le_refl _) (by simp) ?_; (case hd => rfl); (case hg => rfl); (case hr => first | (go_simp; done) | (go_simp; rfl)); (case hp => exact (Reps.none _ _)); intro v128 w5 ho6 hb hg_ hnew_; clear hg_ hnew_; (first | rw [← Ny127.out] at ho6 | (simp only [Int.reduceToNat] at ho6; rw [← Ny127.out] at ho6)); have n0_ := Aside0.mk (Kd.R_lower ho6 (below_size (by repeat (first | (with_reducible first | exact HB.out | apply below_alloc | apply pw_below_drewN | apply below_drew1 | refine below_set ?_ GE126.out) | exact HB.out)))); have n1_ := Aside0.mk (blk_below (g := gb126) (o := .cells #[.slice A0_0 l0_0.length c0_0, .slice A0_1 l0_1.length c0_1, .slice A0_2 l0_2.length c0_2] 27 (0, 0)) (by (with_reducible repeat (first | refine blk_drewN ?_ _ | refine blk_drew ?_ | refine blk_alloc ?_ _)); exact BK126.out) hb); have n2_ := Aside0.mk (below_step (by repeat (first | (with_reducible first | exact HB.out | apply below_alloc | apply pw_below_drewN | apply below_drew1 | refine below_set ?_ GE126.out) | exact HB.out)) hb); clear BK126; clear HB; have HO129 := n0_; have BK126 := n1_; have HB := n2_; clear n0_ n1_ n2_; clear hb ho6))
 go_loopg [7, 13] k (fun kq v7 v13 w' => ∃ (x7_1 : List Int) (x13_1 : Int), v13 = .int .i64 x13_1 ∧ Aside0 (spec_l2Values.l0 kq l1 x7_1 l2 (l2.length : Int) x13_1 l0_0 l0_1 l0_2 = some r) ∧ Aside0 (kq ≤ k) ∧ Aside0 (Kd.R (Kd.int .i64) 3 w' w.heap.size (fun _ => True) v7 x7_1) ∧ Aside0 (w'.heap[gb126]? = some (.cells #[(.slice A0_0 l0_0.length c0_0), (.slice A0_1 l0_1.length c0_1), (.slice A0_2 l0_2.length c0_2)] 27 (0, 0))) ∧ Aside0 (Below w.heap.size w w'))
 case atStart => exact ⟨(y127), (0), (by first | rfl | (simp; done) | (simp [*]; done)), H', ⟨Nat.le_refl _⟩, ⟨by (with_reducible repeat (first | apply Kd.R_alloc | apply Kd.R_drewN | apply Kd.R_drew)); exact HO129.out⟩, ⟨by (with_reducible repeat (first | refine blk_drewN ?_ _ | refine blk_drew ?_ | refine blk_alloc ?_ _)); exact BK126.out⟩, ⟨by repeat (first | (with_reducible first | exact HB.out | apply below_alloc | apply pw_below_drewN | apply below_drew1 | refine below_set ?_ GE126.out) | exact HB.out)⟩⟩
 case round =>
  clear H'
  try clear c1
  try clear c2
  try clear p2
  try clear c3
  obtain ⟨x7_1, x13_1, rfl, HA, HK1, HO_7, BK126, HB⟩ := hrel
  cases gk with
  | zero => exact absurd HA.out (by simp [spec_l2Values.l0])
  | succ k1 =>
   have H := HA.out
   clear HA
   simp only [spec_l2Values.l0] at H
   by_cases c7 : x13_1 < (l2.length : Int)
   ·rw [if_pos c7] at H
    have c7b0 : decide (x13_1 < (l2.length : Int)) = true := decide_eq_true c7
    clear c7
    by_cases c8 : 0 ≤ x13_1
    ·rw [if_pos c8] at H
     have c8b0 : decide (0 ≤ x13_1) = true := decide_eq_true c8
     clear c8
     by_cases c9 : x13_1 < (l2.length : Int)
     ·rw [if_pos c9] at H
      have c9b0 : decide (x13_1 < (l2.length : Int)) = true := decide_eq_true c9
      clear c9
      replace H := Option.bind_eq_some_iff.mp H
      obtain ⟨t131, A100, H⟩ := H
      replace H : (if x7_1.length < 17592186044416 then (spec_l2Values.l0 k1 l1 (x7_1 ++ [t131]) l2 (l2.length : Int) (wrap64 (x13_1 + 1)) l0_0 l0_1 l0_2) else (none)) = some r := H
      have A10 := Aside0.mk A100
      clear A100
      by_cases c11 : x7_1.length < 17592186044416
      ·rw [if_pos c11] at H
       have LMc11 := Aside0.mk c11
       clear c11
       obtain ⟨y132, hy132⟩ : ∃ y_ : List Int, y_ = (x7_1 ++ [t131]) := ⟨_, rfl⟩
       replace H : (spec_l2Values.l0 k1 l1 y132 l2 (l2.length : Int) (wrap64 (x13_1 + 1)) l0_0 l0_1 l0_2) = some r := by first | (rw [hy132]; with_reducible exact H) | (have H2_ := (Option.bind_some _ _).symm.trans H; rw [hy132]; with_reducible exact H2_) | (have H2_ := (Option.bind_some _ _).symm.trans H; with_reducible exact H2_) | with_reducible exact H | (rw [hy132]; exact H) | exact H
       have Ny132 := Aside0.mk hy132
       clear hy132
       have H' := Aside0.mk H
       clear H
       have p130 : 0 ≤ (x13_1 : Int) := of_decide_eq_true (by first | (with_reducible assumption) | assumption)
       have q130 : x13_1 < (l2.length : Int) := of_decide_eq_true (by first | (with_reducible assumption) | assumption)
       obtain ⟨ad130, e130, hx130_0⟩ := Kd.at_int HR2.out x13_1 p130 q130
       cases e130
       replace hx130_0 := (HB.out.cell (World.block_lt_of_cell? w _ hx130_0)).trans hx130_0
       replace p130 := eq_true p130
       replace q130 := eq_true q130
       have hcz12_0 : wr.cell? ⟨gb126, 0, none⟩ = some (.slice A0_0 l0_0.length c0_0) := (blk_cell BK126.out 0).trans rfl
       have hcz12_1 : wr.cell? ⟨gb126, 1, none⟩ = some (.slice A0_1 l0_1.length c0_1) := (blk_cell BK126.out 1).trans rfl
       have hcz12_2 : wr.cell? ⟨gb126, 2, none⟩ = some (.slice A0_2 l0_2.length c0_2) := (blk_cell BK126.out 2).trans rfl
       have hfz12_0 := blk_frozen BK126.out 0
       have hfz12_1 := blk_frozen BK126.out 1
       have hfz12_2 := blk_frozen BK126.out 2
       go_wp2_with (first | ((with_reducible refine gate_callee (f := 51) rfl ?_); refine goesL_ (some 21) rfl rfl Try.func51 (by kernel_rfl) rfl #[.agg #[.slice A0_0 l0_0.length c0_0, .slice A0_1 l0_1.length c0_1, .slice A0_2 l0_2.length c0_2], .slice A1 l1.length c1, .int .i64 (rd l2 x13_1)] rfl (by (try simp only [List.map_toArray, List.map_cons, List.map_nil]); first | done | rfl | (simp only [List.length_drop, List.length_take]; rfl)) ?_; (with_reducible refine (spec_l2Value.calls k1 _ _ l0_0 _ _ l0_1 _ _ l0_2 _ _ l1 (rd l2 x13_1) t131 _ ?side1 ?side2 ?side3 ?side4 ?side5 ?side6 ?side7 ?side8 A10.out).mono ?_); (case side1 => repeat (first | exact (Kd.C_below HR0_0.out HB.out) | (with_reducible refine Kd.C_alloc ?_ _) | (with_reducible refine Kd.C_drewN ?_ _) | (with_reducible refine Kd.C_drew ?_))); (case side2 => exact HC0_0.out); (case side3 => repeat (first | exact (Kd.C_below HR0_1.out HB.out) | (with_reducible refine Kd.C_alloc ?_ _) | (with_reducible refine Kd.C_drewN ?_ _) | (with_reducible refine Kd.C_drew ?_))); (case side4 => exact HC0_1.out); (case side5 => repeat (first | exact (Kd.C_below HR0_2.out HB.out) | (with_reducible refine Kd.C_alloc ?_ _) | (with_reducible refine Kd.C_drewN ?_ _) | (with_reducible refine Kd.C_drew ?_))); (case side6 => exact HC0_2.out); (case side7 => repeat (first | exact (Kd.C_below HR1.out HB.out) | (with_reducible refine Kd.C_alloc ?_ _) | (with_reducible refine Kd.C_drewN ?_ _) | (with_reducible refine Kd.C_drew ?_))); (case side8 => exact HC1.out); rintro e w13 ⟨rfl, hb⟩; refine ⟨_, rfl, ?_⟩; have n0_ := Aside0.mk (Kd.R_below (by (with_reducible repeat (first | apply Kd.R_alloc | apply Kd.R_drewN | apply Kd.R_drew)); exact HO_7.out) hb); have n1_ := Aside0.mk (blk_below (g := gb126) (o := .cells #[.slice A0_0 l0_0.length c0_0, .slice A0_1 l0_1.length c0_1, .slice A0_2 l0_2.length c0_2] 27 (0, 0)) (by (with_reducible repeat (first | refine blk_drewN ?_ _ | refine blk_drew ?_ | refine blk_alloc ?_ _)); exact BK126.out) hb); have n2_ := Aside0.mk (below_step (by repeat (first | (with_reducible first | exact HB.out | apply below_alloc | apply pw_below_drewN | apply below_drew1 | refine below_set ?_ GE126.out) | exact HB.out)) hb); clear HO_7; clear BK126; clear HB; have HO_7 := n0_; have BK126 := n1_; have HB := n2_; clear n0_ n1_ n2_; (try clear hb); (try clear hb2); (try clear hk); (try clear hi)) | ((with_reducible refine gate_builtin (b := .append) (xs := #[.tmp 17, .tmp 22]) rfl ?_); at_builtin; refine Kd.R_append (Kd.int .i64) (w0 := w) w.heap.size rfl (.tmp 17) (.tmp 22) 22 3 (.int .i64 0) 8 rfl Try.underlying22 info3 rfl (by decide) (by omega) u7 x7_1 t131 [.int .i64 t131] (fun _ => True) (fun _ => False) rfl rfl ?aP (fun _ hk => hk.elim) ?aF ?aO ?aB ?aS ?aL ?_; (case aP => exact rfl); (case aB => exact (by repeat (first | (with_reducible first | exact HB.out | apply below_alloc | apply pw_below_drewN | apply below_drew1 | refine below_set ?_ GE126.out) | exact HB.out))); (case aF => exact (fun _ _ => trivial)); (case aO => exact (by (with_reducible repeat (first | apply Kd.R_alloc | apply Kd.R_drewN | apply Kd.R_drew)); exact HO_7.out)); (case aS => exact (below_size (by repeat (first | (with_reducible first | exact HB.out | apply below_alloc | apply pw_below_drewN | apply below_drew1 | refine below_set ?_ GE126.out) | exact HB.out)))); (case aL => have := LMc11.out; omega); intro v133 w14 ho hb hg hat; rw [← Ny132.out] at ho; have n0_ := Aside0.mk (blk_grown (g := gb126) (o := .cells #[.slice A0_0 l0_0.length c0_0, .slice A0_1 l0_1.length c0_1, .slice A0_2 l0_2.length c0_2] 27 (0, 0)) (by (with_reducible repeat (first | refine blk_drewN ?_ _ | refine blk_drew ?_ | refine blk_alloc ?_ _)); exact BK126.out) hg (Kd.R_ne HO_7.out BK126.out (by decide))); have n1_ := Aside0.mk (hb); have n2_ := Aside0.mk (ho); clear BK126; clear HB; clear HO_7; have BK126 := n0_; have HB := n1_; have HO134 := n2_; clear n0_ n1_ n2_; clear ho hb hg hat))
       go_roundg k1
       case measure => have := HK1.out; omega
       case rel => exact ⟨(y132), (wrap64 (x13_1 + 1)), (by first | rfl | (simp; done) | (simp [*]; done)), H', ⟨by have := HK1.out; omega⟩, ⟨by (with_reducible repeat (first | apply Kd.R_alloc | apply Kd.R_drewN | apply Kd.R_drew)); exact HO134.out⟩, ⟨by (with_reducible repeat (first | refine blk_drewN ?_ _ | refine blk_drew ?_ | refine blk_alloc ?_ _)); exact BK126.out⟩, ⟨by repeat (first | (with_reducible first | exact HB.out | apply below_alloc | apply pw_below_drewN | apply below_drew1 | refine below_set ?_ GE126.out) | exact HB.out)⟩⟩
      ·rw [if_neg c11] at H
       exact absurd H (by simp)
     ·rw [if_neg c9] at H
      exact absurd H (by simp)
    ·rw [if_neg c8] at H
     exact absurd H (by simp)
   ·rw [if_neg c7] at H
    have c7b0 : decide (x13_1 < (l2.length : Int)) = false := decide_eq_false c7
    clear c7
    obtain rfl := Option.some.inj H
    go_wp2
    go_ret
    exact ⟨_, by first | rfl | (simp [errW_none, errW_some] <;> rfl) | (simp [*, errW_none, errW_some] <;> rfl), by (with_reducible repeat (first | apply Kd.R_alloc | apply Kd.R_drewN | apply Kd.R_drew)); exact HO_7.out, by repeat (first | (with_reducible first | exact HB.out | apply below_alloc | apply pw_below_drewN | apply below_drew1 | refine below_set ?_ GE126.out) | exact HB.out)⟩
end Go.Proofs.Ytkohcdddgjaijaa.P
namespace Go.Proofs.Ytkohcdddgjaijaa.PT
open Go.RowKit Go.Proofs.Ytkohcdddgjaijaa.P Go.Proofs.YtkohcdddgjaijaaW.PrintWords Go.Proofs.YtkohcdddgjaijaaW.PrintLast Go.Proofs.YtkohcdddgjaijaaW.PrintMore Go.Proofs.Ytkohcdddgjaijaa.EvKit
set_option linter.unusedVariables false
set_option linter.unusedSimpArgs false
abbrev kRo : Kd (List Int) := Kd.slice 3 (Kd.int .i64)
theorem quiet_more1 {W w2 : World} {x : Nat} (h : ∃ k, w2 = (W.drewN x).drewN k) : ∃ m, w2 = W.drewN m := by
 obtain ⟨k, h⟩ := h
 exact ⟨_, h.trans (World.drewN_drewN _ _ _)⟩
theorem quiet_plus1 {W w2 : World} {a x : Nat} (h : ∃ k, w2 = (W.drewN (a + x)).drewN k) : ∃ n, w2 = W.drewN (a + n) := by
 obtain ⟨k, h⟩ := h
 exact ⟨x + k, by rw [h, World.drewN_drewN, Nat.add_assoc]⟩
theorem dr_n1 {W W' : World} {n : Nat} (h : ∃ m, W' = W.drewN m) : ∃ m, W'.drewN n = W.drewN m := by
 obtain ⟨m, rfl⟩ := h
 exact ⟨_, World.drewN_drewN _ _ _⟩
theorem dr_11 {W W' : World} (h : ∃ m, W' = W.drewN m) : ∃ m, W'.drew = W.drewN m := by
 obtain ⟨m, rfl⟩ := h
 exact ⟨m + 1, rfl⟩
theorem V_row {W : World} {base : Nat} {ok : Nat → Prop} {A : Option Addr} {c : Nat} {xs : List (List Int)} (h : Kd.V kRo 22 W base ok (.slice A xs.length c) xs) (i : Nat) (hi : i < xs.length) :
  ∃ ad A1 c1, A = some ad ∧ W.cell? (ad.add i) = some (.slice A1 (xs[i]).length c1) ∧ (xs[i]).length ≤ c1 ∧ Kd.F (Kd.int .i64) W ok A1 (xs[i]).length xs[i] := by
 obtain ⟨ad, cs, he, hcl, hK, hcc, _⟩ := Kd.F_get (Kd.V_F h) [] (i : Int) (by omega) (by omega)
 have e : xs.getD ((i : Int)).toNat [] = xs[i] := by rw [Int.toNat_natCast, List.getD_eq_getElem?_getD, List.getElem?_eq_getElem hi]; rfl
 rw [e] at hK
 obtain ⟨A1, c1, rfl, h1, h2⟩ := Kd.FK_slice_open hK
 have h3 := hcc 0 _ rfl
 rw [Int.toNat_natCast, Nat.add_zero, show (kRo).sz = 1 from rfl, Nat.mul_one] at h3
 exact ⟨ad, A1, c1, he, h3, h1, h2⟩
theorem V_base {W : World} {base base' : Nat} {ok : Nat → Prop} {v : Value} {xs : List (List Int)} (h : Kd.V kRo 22 W base ok v xs) : Kd.V kRo 22 W base' ok v xs := h
theorem N_fresh (W : World) {base : Nat} {ok : Nat → Prop} (hb : base ≤ W.heap.size) (hok : ok W.heap.size) : Kd.N kRo 22 (W.alloc (.cells #[] 22)) base ok (.slice (some ⟨W.heap.size, 0, none⟩) 0 0) [] := by
 refine Kd.R_N ⟨fun k hk => ?_, [], ⟨rfl, .inr ⟨W.heap.size, 0, #[], rfl, hb, ?_, Nat.le_refl _, ?_, ?_, ?_⟩⟩, Reps.none _ _⟩
 ·simp only [Value.ownBlock, Option.some.injEq] at hk; subst hk; exact hok
 ·have : (W.alloc (.cells #[] 22)).heap = W.heap.push (.cells #[] 22) := rfl
  rw [this]; simp
 ·unfold maxLen; omega
 ·simp
 ·simp
theorem V_fresh {W : World} {base : Nat} {ok : Nat → Prop} {v : Value} {xs : List (List Int)} (h : Kd.V kRo 22 W base ok v xs) (o : Obj) : Kd.V kRo 22 (W.alloc o) base (fun k => ok k ∧ some k ≠ (Value.slice (some ⟨W.heap.size, 0, none⟩) 0 0).ownBlock) v xs :=
 Kd.V_alloc (Kd.V_mono (Kd.V_bound h) (fun k hk => ⟨hk.1, by simp only [Value.ownBlock]; intro e; injection e with e; have := hk.2; omega⟩)) o
def SortPost (w : World) (P0 : Nat → Prop) (r : List (List Int)) (e : Ending) (w' : World) : Prop := ∃ v, e = .returned v ∧ Kd.V kRo 22 w' w.heap.size (fun k => P0 k ∨ w.heap.size ≤ k) v r ∧ Below w.heap.size w w'
theorem sdR_short {l : List (List Int)} (h : l.length < 2) : sdR l = l := by
 match l, h with
 | [], _ => rfl
 | [x], _ => rfl
theorem half_eq (n : Nat) (h : n ≤ 1048576) : IntKind.i64.wrap ((n : Int) / 2) = ((n / 2 : Nat) : Int) := by
 rw [i64_w, show (n : Int) / 2 = ((n / 2 : Nat) : Int) by omega]
 exact w64 (by omega) (by omega)
theorem cmp_at {W : World} {A1 A2 : Option Addr} {c1 c2 : Nat} {x y : List Int} (h1 : Kd.C (Kd.int .i64) W A1 x.length x) (hc1 : x.length ≤ c1) (h2 : Kd.C (Kd.int .i64) W A2 y.length y) (hc2 : y.length ≤ c2) (hl : x.length ≤ 1048576) :
  ∀ W', (∃ m, W' = W.drewN m) → Calls Try.prog 50 #[.slice A1 x.length c1, .slice A2 y.length c2] W' fun e w' => e = .returned (.int .i64 (cmpL x y)) ∧ ∃ k, w' = W'.drewN k := by
 rintro W' ⟨m, rfl⟩
 obtain ⟨k, hk⟩ := Ev.rounds (l2Compare_ev x y (by omega))
 exact (spec_l2Compare.calls k A1 c1 x A2 c2 y _ _ (Kd.C_drewN h1 _) hc1 (Kd.C_drewN h2 _) hc2 hk).mono (fun e w' h => ⟨h.1, by obtain ⟨k, hk⟩ := h.2.out; exact ⟨k, hk⟩⟩)
set_option maxHeartbeats 8000000 in
set_option maxRecDepth 100000 in
theorem sort_ref (n : Nat) : ∀ (P0 : Nat → Prop) (A : Option Addr) (c : Nat) (l : List (List Int)) (w : World), l.length ≤ n → l.length ≤ 1048576 → (∀ x, x ∈ l → x.length ≤ 1048576) → Kd.V kRo 22 w w.heap.size P0 (.slice A l.length c) l →
  Calls Try.prog 44 #[.slice A l.length c] w (SortPost w P0 (sdR l)) := by
 induction n with
 | zero =>
  intro P0 A c l w hn hl hx hv
  have e0 : decide ((l.length : Int) < 2) = true := decide_eq_true (by omega)
  have HV : Aside0 (Kd.V kRo 22 w w.heap.size P0 (.slice A l.length c) (sdR l)) := ⟨by rw [sdR_short (by omega)]; exact hv⟩
  have HB := Aside0.mk (Below.refl w.heap.size w)
  clear hx hv hn hl
  go_enter Try.func44, Try.ntmps44
  go_wp2
  go_ret
  exact ⟨_, rfl, Kd.V_mono HV.out (fun k hk => .inl hk), HB.out⟩
 | succ n ih =>
  intro P0 A c l w hn hl hx hv
  have HB := Aside0.mk (Below.refl w.heap.size w)
  by_cases h2 : l.length < 2
  ·have e0 : decide ((l.length : Int) < 2) = true := decide_eq_true (by omega)
   have HV : Aside0 (Kd.V kRo 22 w w.heap.size P0 (.slice A l.length c) (sdR l)) := ⟨by rw [sdR_short h2]; exact hv⟩
   clear hx hv hn hl h2
   go_enter Try.func44, Try.ntmps44
   go_wp2
   go_ret
   exact ⟨_, rfl, Kd.V_mono HV.out (fun k hk => .inl hk), HB.out⟩
  ·have e0 : decide ((l.length : Int) < 2) = false := decide_eq_false (by omega)
   have hhalf := half_eq l.length hl
   obtain ⟨m, hm⟩ : ∃ m, m = l.length / 2 := ⟨_, rfl⟩
   rw [← hm] at hhalf
   have hroom : l.length ≤ c := (Kd.V_reads' hv).2.1
   obtain ⟨i0, hi0, _, hsz, _⟩ := info_parts info22
   have hcut1 := cut_to (P := Try.prog) 23 22 .i64 Try.underlying23 hi0 A l.length c (m : Int) (by omega) (by omega) hroom
   have hcut2 := cut_from (P := Try.prog) 23 22 .i64 Try.underlying23 hi0 1 hsz A l.length c (m : Int) (by omega) (by omega)
   rw [Int.toNat_natCast] at hcut1 hcut2
   have hF : Kd.F kRo w P0 A l.length l := Kd.V_F hv
   obtain ⟨la, hla⟩ : ∃ la, la = l.take m := ⟨_, rfl⟩
   obtain ⟨lb, hlb⟩ : ∃ lb, lb = l.drop m := ⟨_, rfl⟩
   have hla1 : la.length = m := by rw [hla, List.length_take]; omega
   have hlb1 : lb.length = l.length - m := by rw [hlb, List.length_drop]
   have hFa := Kd.F_take (m := m) hF (by omega)
   have hFb := Kd.F_cut (m := m) (c := c) hF (by omega) hroom
   rw [← hla] at hFa
   rw [← hlb] at hFb
   obtain ⟨A2, hA2⟩ : ∃ A2 : Option Addr, A2 = (if c = m then A else A.map (·.add (m * 1))) := ⟨_, rfl⟩
   replace hFb : Kd.F kRo w P0 A2 lb.length lb := by rw [hA2]; exact hFb
   rw [← hA2, ← hlb1] at hcut2
   replace hcut1 : ∀ W : World, (Instr.slice 23 (.slice A l.length c) none (some (.int .i64 (m : Int))) none).run Try.prog W = .ok (.slice A la.length c) W := by rw [hla1]; exact hcut1
   have HVa : Aside0 (Kd.V kRo 22 w w.heap.size P0 (.slice A la.length c) la) := ⟨Kd.V_mk (by omega) hFa⟩
   have HVb : Aside0 (Kd.V kRo 22 w w.heap.size P0 (.slice A2 lb.length (c - m)) lb) := ⟨Kd.V_mk (by omega) hFb⟩
   obtain ⟨c2, hc2⟩ : ∃ c2, c2 = c - m := ⟨_, rfl⟩
   rw [← hc2] at hcut2 HVb
   have HIa := Aside0.mk (fun (P : Nat → Prop) W h => ih P A c la W (by omega) (by omega) (fun x hx1 => hx x (by rw [hla] at hx1; exact List.mem_of_mem_take hx1)) h)
   have HIb := Aside0.mk (fun (P : Nat → Prop) W h => ih P A2 c2 lb W (by omega) (by omega) (fun x hx1 => hx x (by rw [hlb] at hx1; exact List.mem_of_mem_drop hx1)) h)
   have HG : Aside0 (mrg (sdR la) (sdR lb) = sdR l) := ⟨by rw [mrg_sdR, hla, hlb, List.take_append_drop]⟩
   have HLa : Aside0 ((sdR la).length ≤ 1048576 ∧ ∀ x, x ∈ sdR la → x.length ≤ 1048576) := ⟨by have := sdR_len la; omega, fun x hx1 => hx x (by rw [mem_sdR, hla] at hx1; exact List.mem_of_mem_take hx1)⟩
   have HLb : Aside0 ((sdR lb).length ≤ 1048576 ∧ ∀ x, x ∈ sdR lb → x.length ≤ 1048576) := ⟨by have := sdR_len lb; omega, fun x hx1 => hx x (by rw [mem_sdR, hlb] at hx1; exact List.mem_of_mem_drop hx1)⟩
   clear ih hx hv hF hFa hFb hla hlb hA2 hc2 hi0 hsz
   generalize sdR la = a at *
   generalize sdR lb = b at *
   have tok1 : (1 : Nat) < 2 := by decide
   have tok2 : (1 : Nat) < 3 := by decide
   have hm1 : (0 : Int) ≤ (m : Int) := by omega
   have hm2 : (m : Int) ≤ (l.length : Int) := by omega
   clear hm h2 hn hl hroom hla1 hlb1
   go_enter Try.func44, Try.ntmps44
   go_wp2_with (first | (go_at_call 44; (with_reducible refine (HIa.out P0 _ (Kd.V_lower HVa.out (Nat.le_refl _))).mono ?_); clear tok1; rintro e w1 ⟨v1, rfl, hv1, hb1⟩; have HV1 := Aside0.mk hv1; have HB1 := Aside0.mk hb1; clear hv1 hb1) | (go_at_call 44; have htok := tok2; clear tok2; (with_reducible refine (HIb.out P0 _ (V_base (Kd.V_below HVb.out HB1.out))).mono ?_); rintro e w2 ⟨v2, rfl, hv2, hb2⟩; have HV2 := Aside0.mk hv2; have HB2 := Aside0.mk hb2; clear hv2 hb2))
   have HVA : Aside0 (Kd.V kRo 22 w2 w.heap.size (fun k => P0 k ∨ w.heap.size ≤ k) v1 a) := ⟨Kd.V_below HV1.out HB2.out⟩
   have HVB : Aside0 (Kd.V kRo 22 w2 w.heap.size (fun k => P0 k ∨ w.heap.size ≤ k) v2 b) := ⟨Kd.V_mono HV2.out (fun k hk => hk.elim .inl (fun h => .inr (Nat.le_trans HB1.out.size h)))⟩
   have HBw : Aside0 (Below w.heap.size w w2) := ⟨below_step HB1.out HB2.out⟩
   clear HV1 HV2 HB1 HB2 HVa HVb HIa HIb hcut1 hcut2 hhalf
   obtain ⟨Aa, ca, ea⟩ := Kd.V_slice HVA.out
   subst ea
   obtain ⟨Ab, cb, eb⟩ := Kd.V_slice HVB.out
   subst eb
   go_loopw [5, 6, 7] (fun v5 v6 v7 wr => ∃ (out : List (List Int)) (i j : Nat), v6 = .int .i64 (i : Int) ∧ v7 = .int .i64 (j : Int) ∧ i ≤ a.length ∧ j ≤ b.length ∧ Aside0 (out ++ mrg (a.drop i) (b.drop j) = sdR l ∧ out.length ≤ i + j) ∧ Aside0 (Kd.V kRo 22 wr w.heap.size (fun k => (P0 k ∨ w.heap.size ≤ k) ∧ some k ≠ (v5 : Value).ownBlock) (.slice Aa a.length ca) a) ∧ Aside0 (Kd.V kRo 22 wr w.heap.size (fun k => (P0 k ∨ w.heap.size ≤ k) ∧ some k ≠ (v5 : Value).ownBlock) (.slice Ab b.length cb) b) ∧ Aside0 (Kd.N kRo 22 wr w.heap.size (fun k => P0 k ∨ w.heap.size ≤ k) v5 out) ∧ Aside0 (Below w.heap.size w wr)) (fun _ v6 v7 _ => (a.length - (intOf v6).toNat) + (b.length - (intOf v7).toNat))
   case atStart => exact ⟨[], 0, 0, rfl, rfl, Nat.zero_le _, Nat.zero_le _, ⟨by simpa using HG.out, Nat.le_refl _⟩, ⟨V_fresh HVA.out _⟩, ⟨V_fresh HVB.out _⟩, ⟨N_fresh _ HBw.out.size (.inr HBw.out.size)⟩, ⟨below_alloc HBw.out _⟩⟩
   case round =>
    clear HVA HVB HBw HG e0 hm1 hm2
    obtain ⟨out, i, j, rfl, rfl, hi, hj, HI, HVA, HVB, HN, HBW⟩ := hrel
    have hla := HLa.out.1
    have hlb := HLb.out.1
    by_cases ci : i < a.length
    ·have d1 : decide ((i : Int) < (a.length : Int)) = true := decide_eq_true (by omega)
     obtain ⟨ad, A1, c1, e, hx, hc1, hF1⟩ := V_row HVA.out i ci
     subst e
     have HV1 : Aside0 (Kd.V (Kd.int .i64) 3 wr w.heap.size _ (.slice A1 (a[i]).length c1) a[i]) := ⟨Kd.V_mk hc1 hF1⟩
     have hl1 := HLa.out.2 _ (List.getElem_mem ci)
     by_cases cj : j < b.length
     ·have d2 : decide ((j : Int) < (b.length : Int)) = true := decide_eq_true (by omega)
      have d3 : ((j : Int) == (b.length : Int)) = false := by rw [beq_eq_false_iff_ne]; omega
      have d4 : ((i : Int) == (a.length : Int)) = false := by rw [beq_eq_false_iff_ne]; omega
      obtain ⟨bd, A2, c2, e, hy, hc2, hF2⟩ := V_row HVB.out j cj
      subst e
      have hl2 := HLb.out.2 _ (List.getElem_mem cj)
      have HV2 : Aside0 (Kd.V (Kd.int .i64) 3 wr w.heap.size _ (.slice A2 (b[j]).length c2) b[j]) := ⟨Kd.V_mk hc2 hF2⟩
      have HC := Aside0.mk (cmp_at (Kd.F_now hF1) hc1 (Kd.F_now hF2) hc2 hl1)
      clear hF1 hF2
      have hI := HI.out.1
      rw [drop_at ci, drop_at cj, mrg] at hI
      have hI2 := HI.out.2
      clear HI
      generalize hxe : a[i] = x at *
      generalize hye : b[j] = y at *
      by_cases h1 : cmpL x y < 0
      ·rw [if_pos h1] at hI
       have HI : Aside0 ((out ++ [x]) ++ mrg (a.drop (i + 1)) (b.drop j) = sdR l ∧ out.length ≤ i + j) := ⟨by rw [← hI, drop_at cj, hye]; simp, hI2⟩
       have d5 : decide (cmpL x y < 0) = true := decide_eq_true h1
       clear hI hI2 h1 hxe hye
       generalize cmpL x y = z at *
       go_wp2
       go_quiet (first | (go_at_call 50; (with_reducible refine (HC.out _ (by repeat (first | exact ⟨0, rfl⟩ | exact ⟨_, rfl⟩ | apply dr_n1 | apply dr_11))).mono ?_); intro e w1 hh; first | exact ⟨hh.1, quiet_plus1 hh.2⟩ | exact ⟨hh.1, quiet_more1 hh.2⟩))
       go_wp2_with (first | ((with_reducible refine gate_builtin (b := .append) (xs := #[.tmp 69, .tmp 74]) rfl ?_); (try (refine gate_guard (by rfl) ?_; dsimp only)); at_builtin; (refine Kd.N_append kRo (w0 := w) w.heap.size ?a1 (.tmp 69) (.tmp 74) 23 22 (.slice none 0 0) 24 ?a2 ?a3 ?a4 ?a5 ?a6 ?a7 u5 out x [.slice A1 (x).length c1] (fun k => P0 k ∨ w.heap.size ≤ k) (fun k => (P0 k ∨ w.heap.size ≤ k) ∧ some k ≠ (u5 : Value).ownBlock) ?a8 ?a9 ?aP ?aI ?aF ?aO ?aB ?aS ?aL ?_); (case a1 => rfl); (case a2 => rfl); (case a3 => exact Try.underlying23);  (case a4 => exact info22); (case a5 => rfl); (case a6 => decide); (case a7 => decide); (case a8 => rfl); (case a9 => rfl); (case aP => first | exact Kd.FK_slice_mk (Kd.V_reads' HV1.out).2.1 (Kd.V_F HV1.out) | exact Kd.FK_slice_mk (Kd.V_reads' HV1.out).2.1 (Kd.V_F (Kd.V_drewN HV1.out _)) | exact Kd.FK_slice_mk (Kd.V_reads' HV1.out).2.1 (Kd.V_F (Kd.V_drewN (Kd.V_drewN HV1.out _) _))); (case aI => exact fun _ hk => hk); (case aF => exact fun k hk => .inr (Nat.le_trans HBW.out.size hk)); (case aO => first | exact HN.out | exact Kd.N_drewN HN.out _ | exact Kd.N_drewN (Kd.N_drewN HN.out _) _); (case aB => first | exact HBW.out | exact pw_below_drewN HBW.out _ | exact pw_below_drewN (pw_below_drewN HBW.out _) _); (case aS => exact HBW.out.size); (case aL => have := HI.out.2; omega); intro v9 w9 ho9 hb9 hg9 hat9))
       go_roundw
       case rel => exact ⟨out ++ [x], i + 1, j, by first | rfl | (simp; done), by first | rfl | (simp; done), by omega, by omega, ⟨HI.out.1, by have := HI.out.2; simp only [List.length_append, List.length_cons, List.length_nil]; omega⟩, ⟨by first | exact Kd.V_afterv HVA.out hg9 hat9 | exact Kd.V_afterv (Kd.V_drewN HVA.out _) hg9 hat9 | exact Kd.V_afterv (Kd.V_drewN (Kd.V_drewN HVA.out _) _) hg9 hat9⟩, ⟨by first | exact Kd.V_afterv HVB.out hg9 hat9 | exact Kd.V_afterv (Kd.V_drewN HVB.out _) hg9 hat9 | exact Kd.V_afterv (Kd.V_drewN (Kd.V_drewN HVB.out _) _) hg9 hat9⟩, ⟨ho9⟩, ⟨hb9⟩⟩
       case measure => simp [intOf]; omega
      ·rw [if_neg h1] at hI
       have d5 : decide (cmpL x y < 0) = false := decide_eq_false h1
       by_cases h2 : 0 < cmpL x y
       ·rw [if_pos h2] at hI
        have HI : Aside0 ((out ++ [y]) ++ mrg (a.drop i) (b.drop (j + 1)) = sdR l ∧ out.length ≤ i + j) := ⟨by rw [← hI, drop_at ci, hxe]; simp, hI2⟩
        have d6 : decide (0 < cmpL x y) = true := decide_eq_true h2
        clear hI hI2 h1 h2 hxe hye
        generalize cmpL x y = z at *
        go_wp2
        go_quiet (first | (go_at_call 50; (with_reducible refine (HC.out _ (by repeat (first | exact ⟨0, rfl⟩ | exact ⟨_, rfl⟩ | apply dr_n1 | apply dr_11))).mono ?_); intro e w1 hh; first | exact ⟨hh.1, quiet_plus1 hh.2⟩ | exact ⟨hh.1, quiet_more1 hh.2⟩))
        go_wp2
        go_quiet (first | (go_at_call 50; (with_reducible refine (HC.out _ (by repeat (first | exact ⟨0, rfl⟩ | exact ⟨_, rfl⟩ | apply dr_n1 | apply dr_11))).mono ?_); intro e w1 hh; first | exact ⟨hh.1, quiet_plus1 hh.2⟩ | exact ⟨hh.1, quiet_more1 hh.2⟩))
        go_wp2_with (first | ((with_reducible refine gate_builtin (b := .append) (xs := #[.tmp 95, .tmp 100]) rfl ?_); (try (refine gate_guard (by rfl) ?_; dsimp only)); at_builtin; (refine Kd.N_append kRo (w0 := w) w.heap.size ?a1 (.tmp 95) (.tmp 100) 23 22 (.slice none 0 0) 24 ?a2 ?a3 ?a4 ?a5 ?a6 ?a7 u5 out y [.slice A2 (y).length c2] (fun k => P0 k ∨ w.heap.size ≤ k) (fun k => (P0 k ∨ w.heap.size ≤ k) ∧ some k ≠ (u5 : Value).ownBlock) ?a8 ?a9 ?aP ?aI ?aF ?aO ?aB ?aS ?aL ?_); (case a1 => rfl); (case a2 => rfl); (case a3 => exact Try.underlying23);  (case a4 => exact info22); (case a5 => rfl); (case a6 => decide); (case a7 => decide); (case a8 => rfl); (case a9 => rfl); (case aP => first | exact Kd.FK_slice_mk (Kd.V_reads' HV2.out).2.1 (Kd.V_F HV2.out) | exact Kd.FK_slice_mk (Kd.V_reads' HV2.out).2.1 (Kd.V_F (Kd.V_drewN HV2.out _)) | exact Kd.FK_slice_mk (Kd.V_reads' HV2.out).2.1 (Kd.V_F (Kd.V_drewN (Kd.V_drewN HV2.out _) _))); (case aI => exact fun _ hk => hk); (case aF => exact fun k hk => .inr (Nat.le_trans HBW.out.size hk)); (case aO => first | exact HN.out | exact Kd.N_drewN HN.out _ | exact Kd.N_drewN (Kd.N_drewN HN.out _) _); (case aB => first | exact HBW.out | exact pw_below_drewN HBW.out _ | exact pw_below_drewN (pw_below_drewN HBW.out _) _); (case aS => exact HBW.out.size); (case aL => have := HI.out.2; omega); intro v9 w9 ho9 hb9 hg9 hat9))
        go_roundw
        case rel => exact ⟨out ++ [y], i, j + 1, by first | rfl | (simp; done), by first | rfl | (simp; done), by omega, by omega, ⟨HI.out.1, by have := HI.out.2; simp only [List.length_append, List.length_cons, List.length_nil]; omega⟩, ⟨by first | exact Kd.V_afterv HVA.out hg9 hat9 | exact Kd.V_afterv (Kd.V_drewN HVA.out _) hg9 hat9 | exact Kd.V_afterv (Kd.V_drewN (Kd.V_drewN HVA.out _) _) hg9 hat9⟩, ⟨by first | exact Kd.V_afterv HVB.out hg9 hat9 | exact Kd.V_afterv (Kd.V_drewN HVB.out _) hg9 hat9 | exact Kd.V_afterv (Kd.V_drewN (Kd.V_drewN HVB.out _) _) hg9 hat9⟩, ⟨ho9⟩, ⟨hb9⟩⟩
        case measure => simp [intOf]; omega
       ·rw [if_neg h2] at hI
        have HI : Aside0 ((out ++ [x]) ++ mrg (a.drop (i + 1)) (b.drop (j + 1)) = sdR l ∧ out.length ≤ i + j) := ⟨by rw [← hI]; simp, hI2⟩
        have d6 : decide (0 < cmpL x y) = false := decide_eq_false h2
        clear hI hI2 h1 h2 hxe hye
        generalize cmpL x y = z at *
        go_wp2
        go_quiet (first | (go_at_call 50; (with_reducible refine (HC.out _ (by repeat (first | exact ⟨0, rfl⟩ | exact ⟨_, rfl⟩ | apply dr_n1 | apply dr_11))).mono ?_); intro e w1 hh; first | exact ⟨hh.1, quiet_plus1 hh.2⟩ | exact ⟨hh.1, quiet_more1 hh.2⟩))
        go_wp2
        go_quiet (first | (go_at_call 50; (with_reducible refine (HC.out _ (by repeat (first | exact ⟨0, rfl⟩ | exact ⟨_, rfl⟩ | apply dr_n1 | apply dr_11))).mono ?_); intro e w1 hh; first | exact ⟨hh.1, quiet_plus1 hh.2⟩ | exact ⟨hh.1, quiet_more1 hh.2⟩))
        go_wp2_with (first | ((with_reducible refine gate_builtin (b := .append) (xs := #[.tmp 35, .tmp 40]) rfl ?_); (try (refine gate_guard (by rfl) ?_; dsimp only)); at_builtin; (refine Kd.N_append kRo (w0 := w) w.heap.size ?a1 (.tmp 35) (.tmp 40) 23 22 (.slice none 0 0) 24 ?a2 ?a3 ?a4 ?a5 ?a6 ?a7 u5 out x [.slice A1 (x).length c1] (fun k => P0 k ∨ w.heap.size ≤ k) (fun k => (P0 k ∨ w.heap.size ≤ k) ∧ some k ≠ (u5 : Value).ownBlock) ?a8 ?a9 ?aP ?aI ?aF ?aO ?aB ?aS ?aL ?_); (case a1 => rfl); (case a2 => rfl); (case a3 => exact Try.underlying23);  (case a4 => exact info22); (case a5 => rfl); (case a6 => decide); (case a7 => decide); (case a8 => rfl); (case a9 => rfl); (case aP => first | exact Kd.FK_slice_mk (Kd.V_reads' HV1.out).2.1 (Kd.V_F HV1.out) | exact Kd.FK_slice_mk (Kd.V_reads' HV1.out).2.1 (Kd.V_F (Kd.V_drewN HV1.out _)) | exact Kd.FK_slice_mk (Kd.V_reads' HV1.out).2.1 (Kd.V_F (Kd.V_drewN (Kd.V_drewN HV1.out _) _))); (case aI => exact fun _ hk => hk); (case aF => exact fun k hk => .inr (Nat.le_trans HBW.out.size hk)); (case aO => first | exact HN.out | exact Kd.N_drewN HN.out _ | exact Kd.N_drewN (Kd.N_drewN HN.out _) _); (case aB => first | exact HBW.out | exact pw_below_drewN HBW.out _ | exact pw_below_drewN (pw_below_drewN HBW.out _) _); (case aS => exact HBW.out.size); (case aL => have := HI.out.2; omega); intro v9 w9 ho9 hb9 hg9 hat9))
        go_roundw
        case rel => exact ⟨out ++ [x], i + 1, j + 1, by first | rfl | (simp; done), by first | rfl | (simp; done), by omega, by omega, ⟨HI.out.1, by have := HI.out.2; simp only [List.length_append, List.length_cons, List.length_nil]; omega⟩, ⟨by first | exact Kd.V_afterv HVA.out hg9 hat9 | exact Kd.V_afterv (Kd.V_drewN HVA.out _) hg9 hat9 | exact Kd.V_afterv (Kd.V_drewN (Kd.V_drewN HVA.out _) _) hg9 hat9⟩, ⟨by first | exact Kd.V_afterv HVB.out hg9 hat9 | exact Kd.V_afterv (Kd.V_drewN HVB.out _) hg9 hat9 | exact Kd.V_afterv (Kd.V_drewN (Kd.V_drewN HVB.out _) _) hg9 hat9⟩, ⟨ho9⟩, ⟨hb9⟩⟩
        case measure => simp [intOf]; omega
     ·have hjb : j = b.length := by omega
      subst hjb
      have d3 : ((b.length : Int) == (b.length : Int)) = true := beq_self_eq_true _
      have HI : Aside0 ((out ++ [a[i]]) ++ mrg (a.drop (i + 1)) (b.drop b.length) = sdR l ∧ out.length ≤ i + b.length) := ⟨by
       have h9 := HI.out.1
       rw [List.drop_of_length_le (l := b) (Nat.le_refl _), mrg_nil] at h9 ⊢
       rw [← h9, drop_at ci]; simp, HI.out.2⟩
      clear hF1
      generalize hxe : a[i] = x at *
      clear hxe
      go_wp2
      go_quiet (fail)
      go_wp2_with (first | ((with_reducible refine gate_builtin (b := .append) (xs := #[.tmp 69, .tmp 74]) rfl ?_); (try (refine gate_guard (by rfl) ?_; dsimp only)); at_builtin; (refine Kd.N_append kRo (w0 := w) w.heap.size ?a1 (.tmp 69) (.tmp 74) 23 22 (.slice none 0 0) 24 ?a2 ?a3 ?a4 ?a5 ?a6 ?a7 u5 out x [.slice A1 (x).length c1] (fun k => P0 k ∨ w.heap.size ≤ k) (fun k => (P0 k ∨ w.heap.size ≤ k) ∧ some k ≠ (u5 : Value).ownBlock) ?a8 ?a9 ?aP ?aI ?aF ?aO ?aB ?aS ?aL ?_); (case a1 => rfl); (case a2 => rfl); (case a3 => exact Try.underlying23);  (case a4 => exact info22); (case a5 => rfl); (case a6 => decide); (case a7 => decide); (case a8 => rfl); (case a9 => rfl); (case aP => first | exact Kd.FK_slice_mk (Kd.V_reads' HV1.out).2.1 (Kd.V_F HV1.out) | exact Kd.FK_slice_mk (Kd.V_reads' HV1.out).2.1 (Kd.V_F (Kd.V_drewN HV1.out _)) | exact Kd.FK_slice_mk (Kd.V_reads' HV1.out).2.1 (Kd.V_F (Kd.V_drewN (Kd.V_drewN HV1.out _) _))); (case aI => exact fun _ hk => hk); (case aF => exact fun k hk => .inr (Nat.le_trans HBW.out.size hk)); (case aO => first | exact HN.out | exact Kd.N_drewN HN.out _ | exact Kd.N_drewN (Kd.N_drewN HN.out _) _); (case aB => first | exact HBW.out | exact pw_below_drewN HBW.out _ | exact pw_below_drewN (pw_below_drewN HBW.out _) _); (case aS => exact HBW.out.size); (case aL => have := HI.out.2; omega); intro v9 w9 ho9 hb9 hg9 hat9))
      go_roundw
      case rel => exact ⟨out ++ [x], i + 1, b.length, by first | rfl | (simp; done), by first | rfl | (simp; done), by omega, by omega, ⟨HI.out.1, by have := HI.out.2; simp only [List.length_append, List.length_cons, List.length_nil]; omega⟩, ⟨by first | exact Kd.V_afterv HVA.out hg9 hat9 | exact Kd.V_afterv (Kd.V_drewN HVA.out _) hg9 hat9 | exact Kd.V_afterv (Kd.V_drewN (Kd.V_drewN HVA.out _) _) hg9 hat9⟩, ⟨by first | exact Kd.V_afterv HVB.out hg9 hat9 | exact Kd.V_afterv (Kd.V_drewN HVB.out _) hg9 hat9 | exact Kd.V_afterv (Kd.V_drewN (Kd.V_drewN HVB.out _) _) hg9 hat9⟩, ⟨ho9⟩, ⟨hb9⟩⟩
      case measure => simp [intOf]; omega
    ·have hia : i = a.length := by omega
     subst hia
     have d1 : decide ((a.length : Int) < (a.length : Int)) = false := decide_eq_false (by omega)
     have d4 : ((a.length : Int) == (a.length : Int)) = true := beq_self_eq_true _
     by_cases cj : j < b.length
     ·have d2 : decide ((j : Int) < (b.length : Int)) = true := decide_eq_true (by omega)
      have d3 : ((j : Int) == (b.length : Int)) = false := by rw [beq_eq_false_iff_ne]; omega
      obtain ⟨bd, A2, c2, e, hy, hc2, hF2⟩ := V_row HVB.out j cj
      subst e
      have HV2 : Aside0 (Kd.V (Kd.int .i64) 3 wr w.heap.size _ (.slice A2 (b[j]).length c2) b[j]) := ⟨Kd.V_mk hc2 hF2⟩
      have HI : Aside0 ((out ++ [b[j]]) ++ mrg (a.drop a.length) (b.drop (j + 1)) = sdR l ∧ out.length ≤ a.length + j) := ⟨by
       have h9 := HI.out.1
       rw [List.drop_of_length_le (l := a) (Nat.le_refl _)] at h9 ⊢
       rw [← h9, drop_at cj]; simp [mrg], HI.out.2⟩
      clear hF2
      generalize hye : b[j] = y at *
      clear hye
      go_wp2
      go_quiet (fail)
      go_wp2
      go_quiet (fail)
      go_wp2_with (first | ((with_reducible refine gate_builtin (b := .append) (xs := #[.tmp 95, .tmp 100]) rfl ?_); (try (refine gate_guard (by rfl) ?_; dsimp only)); at_builtin; (refine Kd.N_append kRo (w0 := w) w.heap.size ?a1 (.tmp 95) (.tmp 100) 23 22 (.slice none 0 0) 24 ?a2 ?a3 ?a4 ?a5 ?a6 ?a7 u5 out y [.slice A2 (y).length c2] (fun k => P0 k ∨ w.heap.size ≤ k) (fun k => (P0 k ∨ w.heap.size ≤ k) ∧ some k ≠ (u5 : Value).ownBlock) ?a8 ?a9 ?aP ?aI ?aF ?aO ?aB ?aS ?aL ?_); (case a1 => rfl); (case a2 => rfl); (case a3 => exact Try.underlying23);  (case a4 => exact info22); (case a5 => rfl); (case a6 => decide); (case a7 => decide); (case a8 => rfl); (case a9 => rfl); (case aP => first | exact Kd.FK_slice_mk (Kd.V_reads' HV2.out).2.1 (Kd.V_F HV2.out) | exact Kd.FK_slice_mk (Kd.V_reads' HV2.out).2.1 (Kd.V_F (Kd.V_drewN HV2.out _)) | exact Kd.FK_slice_mk (Kd.V_reads' HV2.out).2.1 (Kd.V_F (Kd.V_drewN (Kd.V_drewN HV2.out _) _))); (case aI => exact fun _ hk => hk); (case aF => exact fun k hk => .inr (Nat.le_trans HBW.out.size hk)); (case aO => first | exact HN.out | exact Kd.N_drewN HN.out _ | exact Kd.N_drewN (Kd.N_drewN HN.out _) _); (case aB => first | exact HBW.out | exact pw_below_drewN HBW.out _ | exact pw_below_drewN (pw_below_drewN HBW.out _) _); (case aS => exact HBW.out.size); (case aL => have := HI.out.2; omega); intro v9 w9 ho9 hb9 hg9 hat9))
      go_roundw
      case rel => exact ⟨out ++ [y], a.length, j + 1, by first | rfl | (simp; done), by first | rfl | (simp; done), by omega, by omega, ⟨HI.out.1, by have := HI.out.2; simp only [List.length_append, List.length_cons, List.length_nil]; omega⟩, ⟨by first | exact Kd.V_afterv HVA.out hg9 hat9 | exact Kd.V_afterv (Kd.V_drewN HVA.out _) hg9 hat9 | exact Kd.V_afterv (Kd.V_drewN (Kd.V_drewN HVA.out _) _) hg9 hat9⟩, ⟨by first | exact Kd.V_afterv HVB.out hg9 hat9 | exact Kd.V_afterv (Kd.V_drewN HVB.out _) hg9 hat9 | exact Kd.V_afterv (Kd.V_drewN (Kd.V_drewN HVB.out _) _) hg9 hat9⟩, ⟨ho9⟩, ⟨hb9⟩⟩
      case measure => simp [intOf]; omega
     ·have hjb : j = b.length := by omega
      subst hjb
      have d2 : decide ((b.length : Int) < (b.length : Int)) = false := decide_eq_false (by omega)
      have hr : out = sdR l := by
       have h9 := HI.out.1
       rw [List.drop_of_length_le (l := a) (Nat.le_refl _), List.drop_of_length_le (l := b) (Nat.le_refl _)] at h9
       simpa [mrg] using h9
      have HN2 : Aside0 (Kd.N kRo 22 wr w.heap.size (fun k => P0 k ∨ w.heap.size ≤ k) u5 (sdR l)) := ⟨by rw [← hr]; exact HN.out⟩
      clear hr
      go_wp2
      go_ret
      exact ⟨_, rfl, Kd.N_V HN2.out, HBW.out⟩
end Go.Proofs.Ytkohcdddgjaijaa.PT
namespace Go.Proofs.Ytkohcdddgjaijaa.P
open Go.RowKit Go.Proofs.YtkohcdddgjaijaaW.PrintWords Go.Proofs.YtkohcdddgjaijaaW.PrintLast Go.Proofs.YtkohcdddgjaijaaW.PrintMore
set_option linter.unusedVariables false
def spec_l2Sort.f (k : Nat) (l : List (List Int)) : Option (List (List Int)) := if l.length ≤ 1048576 ∧ ∀ x, x ∈ l → x.length ≤ 1048576 then some (PT.sdR l) else none
theorem spec_l2Sort.mono : ∀ a0 k, LeO (spec_l2Sort.f k a0) (spec_l2Sort.f (k + 1) a0) := fun _ _ => LeO.refl _
theorem spec_l2Sort.calls (k : Nat) : ∀ (P0_ : Nat → Prop) (A0 : Option Addr) (c0 : Nat) (l0 : List (List Int)) (r : List (List Int)) (w : World) (hs0 : Kd.V (Kd.slice 3 (Kd.int .i64)) 22 w w.heap.size (fun k_ => P0_ k_) (.slice A0 l0.length c0) l0) (h : spec_l2Sort.f k l0 = some r),
  Calls Try.prog 44 #[.slice A0 l0.length c0] w fun e w' => ∃ v0_ : Value, e = .returned (v0_) ∧ Kd.V (Kd.slice 3 (Kd.int .i64)) 22 w' w.heap.size (fun k_ => (P0_ k_ ∨ w.heap.size ≤ k_)) v0_ r ∧ Below w.heap.size w w' := by
 intro P0 A c l r w hs h
 unfold spec_l2Sort.f at h
 by_cases hc : l.length ≤ 1048576 ∧ ∀ x, x ∈ l → x.length ≤ 1048576
 ·rw [if_pos hc] at h
  obtain rfl := Option.some.inj h
  exact PT.sort_ref l.length P0 A c l w (Nat.le_refl _) hc.1 hc.2 hs
 ·rw [if_neg hc] at h
  exact absurd h (by simp)
end Go.Proofs.Ytkohcdddgjaijaa.P
namespace Go.Proofs.Ytkohcdddgjaijaa.P
open Go.RowKit Go.Proofs.YtkohcdddgjaijaaW.PrintWords Go.Proofs.YtkohcdddgjaijaaW.PrintLast Go.Proofs.YtkohcdddgjaijaaW.PrintMore
attribute [local go_sem] max2_int min2_int max_two min_two max_three min_three max_four min_four
set_option linter.unusedVariables false
set_option linter.unusedSimpArgs false
mutual
def spec_l2Project.l0 : Nat → List Int → List (List Int) → List (List Int) → Int → Int → List Int → List (List Int) → List Int → Option (List Int × (List (List Int)) × List Int)
 | 0, _, _, _, _, _, _, _, _ => none
 | k + 1, x1, x5, x11, x12, x13, x177000, x177001, x177002 => if x13 < x12 then (if 0 ≤ x13 then (if x13 < (x11.length : Int) then ((spec_l2Values.f k x177000 x177001 x177002 (rd_L1 x11 x13) x1).bind fun t182 => (if x5.length < 5864062014805 then (spec_l2Project.l0 k x1 (x5 ++ [t182]) x11 x12 (wrap64 (x13 + 1)) x177000 x177001 x177002) else (none))) else (none)) else (none)) else ((some (([] : List Int) : List Int)).bind fun y188 => (if y188.length + x1.length < 17592186044416 then ((spec_l2Sort.f k x5).bind fun t194 => (spec_l2Project.l1 k (t194.length : Int) 0 (y188 ++ x1) t194 ([] : List Int))) else (none)))
def spec_l2Project.l1 : Nat → Int → Int → List Int → List (List Int) → List Int → Option (List Int × (List (List Int)) × List Int)
 | 0, _, _, _, _, _ => none
 | k + 1, x33, x34, x198000, x198001, x198002 => if x34 < x33 then (if x198002.length < 17592186044416 then (spec_l2Project.l1 k x33 (wrap64 (x34 + 1)) x198000 x198001 (x198002 ++ [1])) else (none)) else (some (x198000, x198001, x198002))
end
def spec_l2Project.f (k : Nat) (l0_0 : List Int) (l0_1 : List (List Int)) (l0_2 : List Int) (l1 : List Int) : Option (List Int × (List (List Int)) × List Int) := spec_l2Project.l0 k l1 (([] : List (List Int))) l0_1 (l0_1.length : Int) 0 l0_0 l0_1 l0_2
theorem spec_l2Project.mono_l : ∀ k, (∀ y0 y1 y2 y3 y4 y5 y6 y7, LeO (spec_l2Project.l0 k y0 y1 y2 y3 y4 y5 y6 y7) (spec_l2Project.l0 (k + 1) y0 y1 y2 y3 y4 y5 y6 y7)) ∧ (∀ y0 y1 y2 y3 y4, LeO (spec_l2Project.l1 k y0 y1 y2 y3 y4) (spec_l2Project.l1 (k + 1) y0 y1 y2 y3 y4))
 | 0 => ⟨fun _ _ _ _ _ _ _ _ r h => by simp [spec_l2Project.l0] at h, fun _ _ _ _ _ r h => by simp [spec_l2Project.l1] at h⟩
 | k + 1 => by
  obtain ⟨ih0, ih1⟩ := spec_l2Project.mono_l k
  refine ⟨?_, ?_⟩
  ·intro y0 y1 y2 y3 y4 y5 y6 y7
   unfold spec_l2Project.l0
   repeat' first
   | (with_reducible exact ih0 _ _ _ _ _ _ _ _)
   | (with_reducible exact ih1 _ _ _ _ _)
   | (with_reducible exact spec_l2Sort.mono _ _)
   | (with_reducible exact spec_l2Values.mono _ _ _ _ _ _)
   | (with_reducible exact LeO.refl _)
   | (with_reducible exact LeO.none _)
   | (with_reducible refine LeO.ite ?_ ?_)
   | (with_reducible refine LeO.bind ?_ (fun _ => ?_))
   | exact ih0 _ _ _ _ _ _ _ _
   | exact ih1 _ _ _ _ _
   | exact spec_l2Sort.mono _ _
   | exact spec_l2Values.mono _ _ _ _ _ _
   | exact LeO.none _
   | refine LeO.ite ?_ ?_
   | refine LeO.bind ?_ (fun _ => ?_)
  ·intro y0 y1 y2 y3 y4
   unfold spec_l2Project.l1
   repeat' first
   | (with_reducible exact ih0 _ _ _ _ _ _ _ _)
   | (with_reducible exact ih1 _ _ _ _ _)
   | (with_reducible exact spec_l2Sort.mono _ _)
   | (with_reducible exact spec_l2Values.mono _ _ _ _ _ _)
   | (with_reducible exact LeO.refl _)
   | (with_reducible exact LeO.none _)
   | (with_reducible refine LeO.ite ?_ ?_)
   | (with_reducible refine LeO.bind ?_ (fun _ => ?_))
   | exact ih0 _ _ _ _ _ _ _ _
   | exact ih1 _ _ _ _ _
   | exact spec_l2Sort.mono _ _
   | exact spec_l2Values.mono _ _ _ _ _ _
   | exact LeO.none _
   | refine LeO.ite ?_ ?_
   | refine LeO.bind ?_ (fun _ => ?_)
theorem spec_l2Project.mono : ∀ a0 a1 a2 a3 k, LeO (spec_l2Project.f k a0 a1 a2 a3) (spec_l2Project.f (k + 1) a0 a1 a2 a3) := by
 intro a0 a1 a2 a3 k
 obtain ⟨ih0, ih1⟩ := spec_l2Project.mono_l k
 unfold spec_l2Project.f
 repeat' first
   | (with_reducible exact ih0 _ _ _ _ _ _ _ _)
   | (with_reducible exact ih1 _ _ _ _ _)
   | (with_reducible exact spec_l2Sort.mono _ _)
   | (with_reducible exact spec_l2Values.mono _ _ _ _ _ _)
   | (with_reducible exact LeO.refl _)
   | (with_reducible exact LeO.none _)
   | (with_reducible refine LeO.ite ?_ ?_)
   | (with_reducible refine LeO.bind ?_ (fun _ => ?_))
   | exact ih0 _ _ _ _ _ _ _ _
   | exact ih1 _ _ _ _ _
   | exact spec_l2Sort.mono _ _
   | exact spec_l2Values.mono _ _ _ _ _ _
   | exact LeO.none _
   | refine LeO.ite ?_ ?_
   | refine LeO.bind ?_ (fun _ => ?_)
set_option maxHeartbeats 8000000 in
set_option maxRecDepth 100000 in
theorem spec_l2Project.calls (k : Nat) (A0_0 : Option Addr) (c0_0 : Nat) (l0_0 : List Int) (A0_1 : Option Addr) (c0_1 : Nat) (l0_1 : List (List Int)) (A0_2 : Option Addr) (c0_2 : Nat) (l0_2 : List Int) (A1 : Option Addr) (c1 : Nat) (l1 : List Int) (r1 : List Int) (r2 : List (List Int)) (r3 : List Int) (w : World) (hr0_0 : Kd.C (Kd.int .i64) w A0_0 l0_0.length l0_0) (hc0_0 : l0_0.length ≤ c0_0) (hr0_1 : Kd.C (Kd.slice 3 (Kd.int .i64)) w A0_1 l0_1.length l0_1) (hc0_1 : l0_1.length ≤ c0_1) (hr0_2 : Kd.C (Kd.int .i64) w A0_2 l0_2.length l0_2) (hc0_2 : l0_2.length ≤ c0_2) (hr1 : Kd.C (Kd.int .i64) w A1 l1.length l1) (hc1 : l1.length ≤ c1) (h : spec_l2Project.f k l0_0 l0_1 l0_2 l1 = some (r1, r2, r3)) :
  Calls Try.prog 22 #[.agg #[.slice A0_0 l0_0.length c0_0, .slice A0_1 l0_1.length c0_1, .slice A0_2 l0_2.length c0_2], .slice A1 l1.length c1] w fun e w' => ∃ v0_ v1_ v2_ : Value, e = .returned (.agg #[v0_, v1_, v2_]) ∧ Kd.R (Kd.int .i64) 3 w' w.heap.size (fun k_ => (w.heap.size ≤ k_) ∧ some k_ ≠ (v2_ : Value).ownBlock) v0_ r1 ∧ Kd.V (Kd.slice 3 (Kd.int .i64)) 22 w' w.heap.size (fun k_ => (w.heap.size ≤ k_) ∧ some k_ ≠ (v0_ : Value).ownBlock ∧ some k_ ≠ (v2_ : Value).ownBlock) v1_ r2 ∧ Kd.R (Kd.int .i64) 3 w' w.heap.size (fun k_ => (w.heap.size ≤ k_) ∧ some k_ ≠ (v0_ : Value).ownBlock) v2_ r3 ∧ Below w.heap.size w w' := by
 have hu27 := Try.underlying27
 have HR0_0 := Aside0.mk hr0_0
 have HC0_0 := Aside0.mk hc0_0
 clear hr0_0 hc0_0
 have HR0_1 := Aside0.mk hr0_1
 have HC0_1 := Aside0.mk hc0_1
 clear hr0_1 hc0_1
 have HR0_2 := Aside0.mk hr0_2
 have HC0_2 := Aside0.mk hc0_2
 clear hr0_2 hc0_2
 have HR1 := Aside0.mk hr1
 have HC1 := Aside0.mk hc1
 clear hr1 hc1
 have HB := Aside0.mk (Below.refl w.heap.size w)
 have H : (spec_l2Project.l0 k l1 (([] : List (List Int))) l0_1 (l0_1.length : Int) 0 l0_0 l0_1 l0_2) = some (r1, r2, r3) := h
 clear h
 obtain ⟨y178, hy178⟩ : ∃ y_ : List (List Int), y_ = (([] : List (List Int))) := ⟨_, rfl⟩
 replace H : (spec_l2Project.l0 k l1 y178 l0_1 (l0_1.length : Int) 0 l0_0 l0_1 l0_2) = some (r1, r2, r3) := by first | (rw [hy178]; with_reducible exact H) | (have H2_ := (Option.bind_some _ _).symm.trans H; rw [hy178]; with_reducible exact H2_) | (have H2_ := (Option.bind_some _ _).symm.trans H; with_reducible exact H2_) | with_reducible exact H | (rw [hy178]; exact H) | exact H
 have Ny178 := Aside0.mk hy178
 clear hy178
 have H' := Aside0.mk H
 clear H
 go_enter Try.func22, Try.ntmps22
 go_wp2_with (first | ((with_reducible refine gate_dst (N := 2) rfl ?_); refine box_event ?hg (N := 2) ?hd (cs := #[.slice A0_0 l0_0.length c0_0, .slice A0_1 l0_1.length c0_1, .slice A0_2 l0_2.length c0_2]) (t := 27) ?hr ?_; (case hd => rfl); (case hg => rfl); (case hr => first | (go_simp; done) | (go_simp; rfl)); intro gb176 hg w3 hbox hb; have n0_ := Aside0.mk (below_step (by repeat (first | (with_reducible first | exact HB.out | apply below_alloc | apply pw_below_drewN | apply below_drew1) | exact HB.out)) hb); have n1_ := Aside0.mk (hbox); have n2_ := Aside0.mk ((by rw [hg]; exact (below_size (by repeat (first | (with_reducible first | exact HB.out | apply below_alloc | apply pw_below_drewN | apply below_drew1) | exact HB.out))) : w.heap.size ≤ gb176)); have n3_ := Aside0.mk ((by rw [hg]; exact (below_size (by repeat (first | (with_reducible first | exact HB.out | apply below_alloc | apply pw_below_drewN | apply below_drew1) | exact HB.out))) : w.heap.size ≤ gb176)); clear HB; have HB := n0_; have BK176 := n1_; have GW176 := n2_; have GE176 := n3_; clear n0_ n1_ n2_ n3_; clear hb hbox hg) | ((with_reducible refine gate_dst (N := 4) rfl ?_); refine box_event ?hg (N := 4) ?hd (cs := #[.slice none 0 0, .slice none 0 0, .slice none 0 0]) (t := 27) ?hr ?_; (case hd => rfl); (case hg => rfl); (case hr => first | (go_simp; done) | (go_simp; rfl)); intro gb177 hg w4 hbox hb; have n0_ := Aside0.mk (blk_below (g := gb176) (o := .cells #[.slice A0_0 l0_0.length c0_0, .slice A0_1 l0_1.length c0_1, .slice A0_2 l0_2.length c0_2] 27 (0, 0)) (by (with_reducible repeat (first | refine blk_drewN ?_ _ | refine blk_drew ?_ | refine blk_alloc ?_ _)); exact BK176.out) hb); have n1_ := Aside0.mk (below_step (by repeat (first | (with_reducible first | exact HB.out | apply below_alloc | apply pw_below_drewN | apply below_drew1 | refine below_set ?_ GE176.out) | exact HB.out)) hb); have n2_ := Aside0.mk (hbox); have n3_ := Aside0.mk ((by rw [hg]; exact (below_size (by repeat (first | (with_reducible first | exact HB.out | apply below_alloc | apply pw_below_drewN | apply below_drew1 | refine below_set ?_ GE176.out) | exact HB.out))) : w.heap.size ≤ gb177)); have n4_ := Aside0.mk ((by rw [hg]; exact (below_size (by repeat (first | (with_reducible first | exact HB.out | apply below_alloc | apply pw_below_drewN | apply below_drew1 | refine below_set ?_ GE176.out) | exact HB.out))) : w.heap.size ≤ gb177)); have n5_ := Aside0.mk ((by rw [hg]; exact Nat.ne_of_lt (blk_lt (g := gb176) (o := .cells #[.slice A0_0 l0_0.length c0_0, .slice A0_1 l0_1.length c0_1, .slice A0_2 l0_2.length c0_2] 27 (0, 0)) (by (with_reducible repeat (first | refine blk_drewN ?_ _ | refine blk_drew ?_ | refine blk_alloc ?_ _)); exact BK176.out)) : gb176 ≠ gb177)); have n6_ := Aside0.mk ((by rw [hg]; exact Nat.ne_of_gt (blk_lt (g := gb176) (o := .cells #[.slice A0_0 l0_0.length c0_0, .slice A0_1 l0_1.length c0_1, .slice A0_2 l0_2.length c0_2] 27 (0, 0)) (by (with_reducible repeat (first | refine blk_drewN ?_ _ | refine blk_drew ?_ | refine blk_alloc ?_ _)); exact BK176.out)) : gb177 ≠ gb176)); clear BK176; clear HB; have BK176 := n0_; have HB := n1_; have BK177 := n2_; have GW177 := n3_; have GE177 := n4_; have NB176_177 := n5_; have NB177_176 := n6_; clear n0_ n1_ n2_ n3_ n4_ n5_ n6_; clear hb hbox hg) | ((with_reducible refine gate_dst (N := 9) rfl ?_); refine Kd.S_lit (Kd.slice 3 (Kd.int .i64)) _ 22 ?hg (N := 9) ?hd (xs := ([] : List (List Int))) (inner := []) (ok := fun _ => True) (okp := fun _ => True) ?hr ?hp (fun _ hk => hk) trivial (Below.refl _ _) (Nat.le_refl _) (by simp) ?_; (case hd => rfl); (case hg => rfl); (case hr => first | (go_simp; done) | (go_simp; rfl)); (case hp => exact (Reps.none _ _)); intro v179 w5 ho6 hb hg_ hnew_; clear hg_ hnew_; (first | rw [← Ny178.out] at ho6 | (simp only [Int.reduceToNat] at ho6; rw [← Ny178.out] at ho6)); have n0_ := Aside0.mk (Kd.S_lower (Kd.S_newM (M := fun k_ => (w.heap.size ≤ k_)) ho6 (below_size (by repeat (first | (with_reducible first | exact HB.out | apply below_alloc | apply pw_below_drewN | apply below_drew1 | refine below_set ?_ GE176.out | refine below_set ?_ GE177.out) | exact HB.out))) (fun k_ h_ => h_)) (below_size (by repeat (first | (with_reducible first | exact HB.out | apply below_alloc | apply pw_below_drewN | apply below_drew1 | refine below_set ?_ GE176.out | refine below_set ?_ GE177.out) | exact HB.out)))); have n1_ := Aside0.mk (blk_below (g := gb176) (o := .cells #[.slice A0_0 l0_0.length c0_0, .slice A0_1 l0_1.length c0_1, .slice A0_2 l0_2.length c0_2] 27 (0, 0)) (by (with_reducible repeat (first | refine blk_drewN ?_ _ | refine blk_drew ?_ | refine blk_alloc ?_ _)); exact BK176.out) hb); have n2_ := Aside0.mk (blk_below (g := gb177) (o := .cells #[.slice none 0 0, .slice none 0 0, .slice none 0 0] 27 (0, 0)) (by (with_reducible repeat (first | refine blk_drewN ?_ _ | refine blk_drew ?_ | refine blk_alloc ?_ _)); exact BK177.out) hb); have n3_ := Aside0.mk (below_step (by repeat (first | (with_reducible first | exact HB.out | apply below_alloc | apply pw_below_drewN | apply below_drew1 | refine below_set ?_ GE176.out | refine below_set ?_ GE177.out) | exact HB.out)) hb); clear BK176; clear BK177; clear HB; have HO180 := n0_; have BK176 := n1_; have BK177 := n2_; have HB := n3_; clear n0_ n1_ n2_ n3_; clear hb ho6; have hnb7 := NB176_177.out; have hnc7 := NB177_176.out; have hcz8_0 : w5.cell? ⟨gb176, 0, none⟩ = some (.slice A0_0 l0_0.length c0_0) := (blk_cell BK176.out 0).trans rfl; have hcz8_1 : w5.cell? ⟨gb176, 1, none⟩ = some (.slice A0_1 l0_1.length c0_1) := (blk_cell BK176.out 1).trans rfl; have hcz8_2 : w5.cell? ⟨gb176, 2, none⟩ = some (.slice A0_2 l0_2.length c0_2) := (blk_cell BK176.out 2).trans rfl; have hfz8_0 := blk_frozen BK176.out 0; have hfz8_1 := blk_frozen BK176.out 1; have hfz8_2 := blk_frozen BK176.out 2))
 go_loopg [5, 13] k (fun kq v5 v13 w' => ∃ (x5_1 : List (List Int)) (x13_1 : Int), v13 = .int .i64 x13_1 ∧ Aside0 (spec_l2Project.l0 kq l1 x5_1 l0_1 (l0_1.length : Int) x13_1 l0_0 l0_1 l0_2 = some (r1, r2, r3)) ∧ Aside0 (kq ≤ k) ∧ Aside0 (Kd.S (Kd.slice 3 (Kd.int .i64)) 22 w' w.heap.size (fun k_ => (w.heap.size ≤ k_)) v5 x5_1) ∧ Aside0 (w'.heap[gb176]? = some (.cells #[(.slice A0_0 l0_0.length c0_0), (.slice A0_1 l0_1.length c0_1), (.slice A0_2 l0_2.length c0_2)] 27 (0, 0))) ∧ Aside0 (w'.heap[gb177]? = some (.cells #[(.slice none 0 0), (.slice none 0 0), (.slice none 0 0)] 27 (0, 0))) ∧ Aside0 (Below w.heap.size w w'))
 case atStart => exact ⟨(y178), (0), (by first | rfl | (simp; done) | (simp [*]; done)), H', ⟨Nat.le_refl _⟩, ⟨by (with_reducible repeat (first | apply Kd.S_alloc | apply Kd.S_drewN | apply Kd.S_drew)); exact Kd.S_mono HO180.out (fun _ hk => hk.1)⟩, ⟨by (with_reducible repeat (first | refine blk_drewN ?_ _ | refine blk_drew ?_ | refine blk_alloc ?_ _)); exact BK176.out⟩, ⟨by (with_reducible repeat (first | refine blk_drewN ?_ _ | refine blk_drew ?_ | refine blk_alloc ?_ _)); exact BK177.out⟩, ⟨by repeat (first | (with_reducible first | exact HB.out | apply below_alloc | apply pw_below_drewN | apply below_drew1 | refine below_set ?_ GE176.out | refine below_set ?_ GE177.out) | exact HB.out)⟩⟩
 case round =>
  clear H'
  try clear c1
  try clear c2
  try clear p2
  try clear c7
  try clear hcz8_0
  try clear hcz8_1
  try clear hcz8_2
  try clear hfz8_0
  try clear hfz8_1
  try clear hfz8_2
  obtain ⟨x5_1, x13_1, rfl, HA, HK1, HO_5, BK176, BK177, HB⟩ := hrel
  cases gk with
  | zero => exact absurd HA.out (by simp [spec_l2Project.l0])
  | succ k1 =>
   have H := HA.out
   clear HA
   simp only [spec_l2Project.l0] at H
   by_cases c9 : x13_1 < (l0_1.length : Int)
   ·rw [if_pos c9] at H
    have c9b0 : decide (x13_1 < (l0_1.length : Int)) = true := decide_eq_true c9
    clear c9
    by_cases c10 : 0 ≤ x13_1
    ·rw [if_pos c10] at H
     have c10b0 : decide (0 ≤ x13_1) = true := decide_eq_true c10
     clear c10
     by_cases c11 : x13_1 < (l0_1.length : Int)
     ·rw [if_pos c11] at H
      have c11b0 : decide (x13_1 < (l0_1.length : Int)) = true := decide_eq_true c11
      clear c11
      replace H := Option.bind_eq_some_iff.mp H
      obtain ⟨t182, A120, H⟩ := H
      replace H : (if x5_1.length < 5864062014805 then (spec_l2Project.l0 k1 l1 (x5_1 ++ [t182]) l0_1 (l0_1.length : Int) (wrap64 (x13_1 + 1)) l0_0 l0_1 l0_2) else (none)) = some (r1, r2, r3) := H
      have A12 := Aside0.mk A120
      clear A120
      by_cases c13 : x5_1.length < 5864062014805
      ·rw [if_pos c13] at H
       have LMc13 := Aside0.mk c13
       clear c13
       obtain ⟨y185, hy185⟩ : ∃ y_ : List (List Int), y_ = (x5_1 ++ [t182]) := ⟨_, rfl⟩
       replace H : (spec_l2Project.l0 k1 l1 y185 l0_1 (l0_1.length : Int) (wrap64 (x13_1 + 1)) l0_0 l0_1 l0_2) = some (r1, r2, r3) := by first | (rw [hy185]; with_reducible exact H) | (have H2_ := (Option.bind_some _ _).symm.trans H; rw [hy185]; with_reducible exact H2_) | (have H2_ := (Option.bind_some _ _).symm.trans H; with_reducible exact H2_) | with_reducible exact H | (rw [hy185]; exact H) | exact H
       have Ny185 := Aside0.mk hy185
       clear hy185
       have H' := Aside0.mk H
       clear H
       have p181 : 0 ≤ (x13_1 : Int) := of_decide_eq_true (by first | (with_reducible assumption) | assumption)
       have q181 : x13_1 < (l0_1.length : Int) := of_decide_eq_true (by first | (with_reducible assumption) | assumption)
       obtain ⟨ad181, A181_0, c181_0, e181, hx181_0, hl181_0, hi181_0⟩ := at_L1 HR0_1.out x13_1 p181 q181
       cases e181
       replace hx181_0 := (HB.out.cell (World.block_lt_of_cell? w _ hx181_0)).trans hx181_0
       have HR181_0 := Aside0.mk hi181_0
       have HC181_0 := Aside0.mk hl181_0
       clear hi181_0 hl181_0
       replace p181 := eq_true p181
       replace q181 := eq_true q181
       have hnb14 := NB176_177.out
       have hnc14 := NB177_176.out
       have hcz15_0 : wr.cell? ⟨gb176, 0, none⟩ = some (.slice A0_0 l0_0.length c0_0) := (blk_cell BK176.out 0).trans rfl
       have hcz15_1 : wr.cell? ⟨gb176, 1, none⟩ = some (.slice (some ad181) l0_1.length c0_1) := (blk_cell BK176.out 1).trans rfl
       have hcz15_2 : wr.cell? ⟨gb176, 2, none⟩ = some (.slice A0_2 l0_2.length c0_2) := (blk_cell BK176.out 2).trans rfl
       have hfz15_0 := blk_frozen BK176.out 0
       have hfz15_1 := blk_frozen BK176.out 1
       have hfz15_2 := blk_frozen BK176.out 2
       go_wp2_with (first | ((with_reducible refine gate_callee (f := 35) rfl ?_); refine goesL_ (some 21) rfl rfl Try.func35 (by kernel_rfl) rfl #[.agg #[.slice A0_0 l0_0.length c0_0, .slice (some ad181) l0_1.length c0_1, .slice A0_2 l0_2.length c0_2], .slice A181_0 (rd_L1 l0_1 x13_1).length c181_0, .slice A1 l1.length c1] rfl (by (try simp only [List.map_toArray, List.map_cons, List.map_nil]); first | done | rfl | (simp only [List.length_drop, List.length_take]; rfl)) ?_; (with_reducible refine (spec_l2Values.calls k1 _ _ l0_0 _ _ l0_1 _ _ l0_2 _ _ (rd_L1 l0_1 x13_1) _ _ l1 t182 _ ?side1 ?side2 ?side3 ?side4 ?side5 ?side6 ?side7 ?side8 ?side9 ?side10 A12.out).mono ?_); (case side1 => repeat (first | exact (Kd.C_below HR0_0.out HB.out) | (with_reducible refine Kd.C_alloc ?_ _) | (with_reducible refine Kd.C_drewN ?_ _) | (with_reducible refine Kd.C_drew ?_))); (case side2 => exact HC0_0.out); (case side3 => repeat (first | exact (Kd.C_below HR0_1.out HB.out) | (with_reducible refine Kd.C_alloc ?_ _) | (with_reducible refine Kd.C_drewN ?_ _) | (with_reducible refine Kd.C_drew ?_))); (case side4 => exact HC0_1.out); (case side5 => repeat (first | exact (Kd.C_below HR0_2.out HB.out) | (with_reducible refine Kd.C_alloc ?_ _) | (with_reducible refine Kd.C_drewN ?_ _) | (with_reducible refine Kd.C_drew ?_))); (case side6 => exact HC0_2.out); (case side7 => repeat (first | exact (Kd.C_below HR181_0.out HB.out) | (with_reducible refine Kd.C_alloc ?_ _) | (with_reducible refine Kd.C_drewN ?_ _) | (with_reducible refine Kd.C_drew ?_))); (case side8 => exact HC181_0.out); (case side9 => repeat (first | exact (Kd.C_below HR1.out HB.out) | (with_reducible refine Kd.C_alloc ?_ _) | (with_reducible refine Kd.C_drewN ?_ _) | (with_reducible refine Kd.C_drew ?_))); (case side10 => exact HC1.out); rintro e w16 ⟨v183, rfl, ho0, hb⟩; refine ⟨_, rfl, ?_⟩; have n0_ := Aside0.mk (Kd.S_elder' (by (with_reducible repeat (first | apply Kd.S_alloc | apply Kd.S_drewN | apply Kd.S_drew)); exact HO_5.out) (Kd.R_base ho0) hb); have n1_ := Aside0.mk (Kd.R_lower (Kd.R_newM (M := fun k_ => (w.heap.size ≤ k_)) ho0 (below_size (by repeat (first | (with_reducible first | exact HB.out | apply below_alloc | apply pw_below_drewN | apply below_drew1 | refine below_set ?_ GE176.out | refine below_set ?_ GE177.out) | exact HB.out))) (fun k_ h_ => h_)) (below_size (by repeat (first | (with_reducible first | exact HB.out | apply below_alloc | apply pw_below_drewN | apply below_drew1 | refine below_set ?_ GE176.out | refine below_set ?_ GE177.out) | exact HB.out)))); have n2_ := Aside0.mk (blk_below (g := gb176) (o := .cells #[.slice A0_0 l0_0.length c0_0, .slice (some ad181) l0_1.length c0_1, .slice A0_2 l0_2.length c0_2] 27 (0, 0)) (by (with_reducible repeat (first | refine blk_drewN ?_ _ | refine blk_drew ?_ | refine blk_alloc ?_ _)); exact BK176.out) hb); have n3_ := Aside0.mk (blk_below (g := gb177) (o := .cells #[.slice none 0 0, .slice none 0 0, .slice none 0 0] 27 (0, 0)) (by (with_reducible repeat (first | refine blk_drewN ?_ _ | refine blk_drew ?_ | refine blk_alloc ?_ _)); exact BK177.out) hb); have n4_ := Aside0.mk (below_step (by repeat (first | (with_reducible first | exact HB.out | apply below_alloc | apply pw_below_drewN | apply below_drew1 | refine below_set ?_ GE176.out | refine below_set ?_ GE177.out) | exact HB.out)) hb); clear HO_5; clear BK176; clear BK177; clear HB; have HO_5 := n0_; have HO184 := n1_; have BK176 := n2_; have BK177 := n3_; have HB := n4_; clear n0_ n1_ n2_ n3_ n4_; (try clear hb); (try clear hb2); (try clear hk); (try clear hi); (try clear ho0); obtain ⟨Ao18, co18, eo18⟩ := Kd.R_slice HO184.out; subst eo18) | ((with_reducible refine gate_builtin (b := .append) (xs := #[.tmp 17, .tmp 22]) rfl ?_); at_builtin; refine Kd.S_append (Kd.slice 3 (Kd.int .i64)) (w0 := w) w.heap.size rfl (.tmp 17) (.tmp 22) 23 22 (.slice none 0 0) 24 rfl Try.underlying23 info22 rfl (by decide) (by omega) u5 x5_1 t182 [.slice Ao18 t182.length co18] (fun k_ => (w.heap.size ≤ k_)) (fun k_ => some k_ = (.slice Ao18 t182.length co18 : Value).ownBlock) rfl rfl ?aP (fun k_ hk_ => ((Kd.R_mono (ok' := fun k_ => ((fun k_ => (w.heap.size ≤ k_))) k_ ∧ some k_ ≠ (u5 : Value).ownBlock) (Kd.R_apart' (HO184.out) (Kd.S_typed HO_5.out) (by decide)) (fun k_ hk => ⟨hk.1.1, hk.2⟩))).1 k_ hk_.symm) ?aF ?aO ?aB ?aS ?aL ?_; (case aP => exact Kd.M_row (Kd.R_mono (Kd.R_tight rfl (Kd.R_mono (ok' := fun k_ => ((fun k_ => (w.heap.size ≤ k_))) k_ ∧ some k_ ≠ (u5 : Value).ownBlock) (Kd.R_apart' (HO184.out) (Kd.S_typed HO_5.out) (by decide)) (fun k_ hk => ⟨hk.1.1, hk.2⟩))) (fun _ h_ => h_))); (case aB => exact (by repeat (first | (with_reducible first | exact HB.out | apply below_alloc | apply pw_below_drewN | apply below_drew1 | refine below_set ?_ GE176.out | refine below_set ?_ GE177.out) | exact HB.out))); (case aF => exact (fun k_ hk => (Nat.le_trans (below_size (by repeat (first | (with_reducible first | exact HB.out | apply below_alloc | apply pw_below_drewN | apply below_drew1 | refine below_set ?_ GE176.out | refine below_set ?_ GE177.out) | exact HB.out))) hk))); (case aO => exact (by (with_reducible repeat (first | apply Kd.S_alloc | apply Kd.S_drewN | apply Kd.S_drew)); exact Kd.S_mono HO_5.out (fun k_ hk => ⟨hk.1, fun e_ => hk.2 e_⟩))); (case aS => exact (below_size (by repeat (first | (with_reducible first | exact HB.out | apply below_alloc | apply pw_below_drewN | apply below_drew1 | refine below_set ?_ GE176.out | refine below_set ?_ GE177.out) | exact HB.out)))); (case aL => have := LMc13.out; omega); intro v186 w17 ho hb hg hat; rw [← Ny185.out] at ho; have n0_ := Aside0.mk (blk_grown (g := gb176) (o := .cells #[.slice A0_0 l0_0.length c0_0, .slice (some ad181) l0_1.length c0_1, .slice A0_2 l0_2.length c0_2] 27 (0, 0)) (by (with_reducible repeat (first | refine blk_drewN ?_ _ | refine blk_drew ?_ | refine blk_alloc ?_ _)); exact BK176.out) hg (Kd.S_ne HO_5.out BK176.out (by decide))); have n1_ := Aside0.mk (blk_grown (g := gb177) (o := .cells #[.slice none 0 0, .slice none 0 0, .slice none 0 0] 27 (0, 0)) (by (with_reducible repeat (first | refine blk_drewN ?_ _ | refine blk_drew ?_ | refine blk_alloc ?_ _)); exact BK177.out) hg (Kd.S_ne HO_5.out BK177.out (by decide))); have n2_ := Aside0.mk (hb); have n3_ := Aside0.mk (ho); clear BK176; clear BK177; clear HB; clear HO_5; clear HO184; have BK176 := n0_; have BK177 := n1_; have HB := n2_; have HO187 := n3_; clear n0_ n1_ n2_ n3_; clear ho hb hg hat))
       go_roundg k1
       case measure => have := HK1.out; omega
       case rel => exact ⟨(y185), (wrap64 (x13_1 + 1)), (by first | rfl | (simp; done) | (simp [*]; done)), H', ⟨by have := HK1.out; omega⟩, ⟨by (with_reducible repeat (first | apply Kd.S_alloc | apply Kd.S_drewN | apply Kd.S_drew)); exact HO187.out⟩, ⟨by (with_reducible repeat (first | refine blk_drewN ?_ _ | refine blk_drew ?_ | refine blk_alloc ?_ _)); exact BK176.out⟩, ⟨by (with_reducible repeat (first | refine blk_drewN ?_ _ | refine blk_drew ?_ | refine blk_alloc ?_ _)); exact BK177.out⟩, ⟨by repeat (first | (with_reducible first | exact HB.out | apply below_alloc | apply pw_below_drewN | apply below_drew1 | refine below_set ?_ GE176.out | refine below_set ?_ GE177.out) | exact HB.out)⟩⟩
      ·rw [if_neg c13] at H
       exact absurd H (by simp)
     ·rw [if_neg c11] at H
      exact absurd H (by simp)
    ·rw [if_neg c10] at H
     exact absurd H (by simp)
   ·rw [if_neg c9] at H
    have c9b0 : decide (x13_1 < (l0_1.length : Int)) = false := decide_eq_false c9
    clear c9
    obtain ⟨y188, hy188⟩ : ∃ y_ : List Int, y_ = (([] : List Int)) := ⟨_, rfl⟩
    replace H : (if y188.length + l1.length < 17592186044416 then ((spec_l2Sort.f k1 x5_1).bind fun t194 => (spec_l2Project.l1 k1 (t194.length : Int) 0 (y188 ++ l1) t194 ([] : List Int))) else (none)) = some (r1, r2, r3) := by first | (rw [hy188]; with_reducible exact H) | (have H2_ := (Option.bind_some _ _).symm.trans H; rw [hy188]; with_reducible exact H2_) | (have H2_ := (Option.bind_some _ _).symm.trans H; with_reducible exact H2_) | with_reducible exact H | (rw [hy188]; exact H) | exact H
    have Ny188 := Aside0.mk hy188
    clear hy188
    by_cases c19 : y188.length + l1.length < 17592186044416
    ·rw [if_pos c19] at H
     have LMc19 := Aside0.mk c19
     clear c19
     obtain ⟨y191, hy191⟩ : ∃ y_ : List Int, y_ = (y188 ++ l1) := ⟨_, rfl⟩
     replace H : ((spec_l2Sort.f k1 x5_1).bind fun t194 => (spec_l2Project.l1 k1 (t194.length : Int) 0 y191 t194 ([] : List Int))) = some (r1, r2, r3) := by first | (rw [hy191]; with_reducible exact H) | (have H2_ := (Option.bind_some _ _).symm.trans H; rw [hy191]; with_reducible exact H2_) | (have H2_ := (Option.bind_some _ _).symm.trans H; with_reducible exact H2_) | with_reducible exact H | (rw [hy191]; exact H) | exact H
     have Ny191 := Aside0.mk hy191
     clear hy191
     replace H := Option.bind_eq_some_iff.mp H
     obtain ⟨t194, A200, H⟩ := H
     replace H : (spec_l2Project.l1 k1 (t194.length : Int) 0 y191 t194 ([] : List Int)) = some (r1, r2, r3) := H
     have A20 := Aside0.mk A200
     clear A200
     have H' := Aside0.mk H
     clear H
     go_wp2_with (first | ((with_reducible refine gate_dst (N := 25) rfl ?_); refine Kd.R_lit (Kd.int .i64) _ 3 ?hg (N := 25) ?hd (xs := ([] : List Int)) (inner := []) (ok := fun _ => True) (okp := fun _ => True) ?hr ?hp (fun _ hk => hk) trivial (Below.refl _ _) (Nat.le_refl _) (by simp) ?_; (case hd => rfl); (case hg => rfl); (case hr => first | (go_simp; done) | (go_simp; rfl)); (case hp => exact (Reps.none _ _)); intro v189 w21 ho22 hb hg_ hnew_; clear hg_ hnew_; (first | rw [← Ny188.out] at ho22 | (simp only [Int.reduceToNat] at ho22; rw [← Ny188.out] at ho22)); have n0_ := Aside0.mk (Kd.S_elder' (by (with_reducible repeat (first | apply Kd.S_alloc | apply Kd.S_drewN | apply Kd.S_drew)); exact HO_5.out) (Kd.R_base ho22) hb); have n1_ := Aside0.mk (Kd.R_lower (Kd.R_newM (M := fun k_ => (w.heap.size ≤ k_)) ho22 (below_size (by repeat (first | (with_reducible first | exact HB.out | apply below_alloc | apply pw_below_drewN | apply below_drew1 | refine below_set ?_ GE176.out | refine below_set ?_ GE177.out) | exact HB.out))) (fun k_ h_ => h_)) (below_size (by repeat (first | (with_reducible first | exact HB.out | apply below_alloc | apply pw_below_drewN | apply below_drew1 | refine below_set ?_ GE176.out | refine below_set ?_ GE177.out) | exact HB.out)))); have n2_ := Aside0.mk (blk_below (g := gb176) (o := .cells #[.slice A0_0 l0_0.length c0_0, .slice A0_1 l0_1.length c0_1, .slice A0_2 l0_2.length c0_2] 27 (0, 0)) (by (with_reducible repeat (first | refine blk_drewN ?_ _ | refine blk_drew ?_ | refine blk_alloc ?_ _)); exact BK176.out) hb); have n3_ := Aside0.mk (blk_below (g := gb177) (o := .cells #[.slice none 0 0, .slice none 0 0, .slice none 0 0] 27 (0, 0)) (by (with_reducible repeat (first | refine blk_drewN ?_ _ | refine blk_drew ?_ | refine blk_alloc ?_ _)); exact BK177.out) hb); have n4_ := Aside0.mk (below_step (by repeat (first | (with_reducible first | exact HB.out | apply below_alloc | apply pw_below_drewN | apply below_drew1 | refine below_set ?_ GE176.out | refine below_set ?_ GE177.out) | exact HB.out)) hb); clear HO_5; clear BK176; clear BK177; clear HB; have HO_5 := n0_; have HO190 := n1_; have BK176 := n2_; have BK177 := n3_; have HB := n4_; clear n0_ n1_ n2_ n3_ n4_; clear hb ho22) | ((with_reducible refine gate_builtin (b := .append) (xs := #[.tmp 25, .tmp 26]) rfl ?_); at_builtin; refine Kd.R_append_rows (Kd.int .i64) (w0 := w) w.heap.size rfl (.tmp 25) (.tmp 26) 22 3 (.int .i64 0) 8 rfl Try.underlying22 info3 rfl (by decide) (by omega) v189 y188 l1 _ _ _ (fun k_ => (w.heap.size ≤ k_)) (fun _ => False) rfl rfl ?aO ?aR (fun _ _ h => h) (fun _ h => h.elim) ?aF ?aB ?aS ?aL ?_; (case aR => repeat (first | exact (Kd.C_below HR1.out HB.out) | (with_reducible refine Kd.C_alloc ?_ _) | (with_reducible refine Kd.C_drewN ?_ _) | (with_reducible refine Kd.C_drew ?_))); (case aB => exact (by repeat (first | (with_reducible first | exact HB.out | apply below_alloc | apply pw_below_drewN | apply below_drew1 | refine below_set ?_ GE176.out | refine below_set ?_ GE177.out) | exact HB.out))); (case aF => exact (fun k_ hk => (Nat.le_trans (below_size (by repeat (first | (with_reducible first | exact HB.out | apply below_alloc | apply pw_below_drewN | apply below_drew1 | refine below_set ?_ GE176.out | refine below_set ?_ GE177.out) | exact HB.out))) hk))); (case aO => exact (by (with_reducible repeat (first | apply Kd.R_alloc | apply Kd.R_drewN | apply Kd.R_drew)); exact Kd.R_mono HO190.out (fun _ hk => hk.1))); (case aS => exact (below_size (by repeat (first | (with_reducible first | exact HB.out | apply below_alloc | apply pw_below_drewN | apply below_drew1 | refine below_set ?_ GE176.out | refine below_set ?_ GE177.out) | exact HB.out)))); (case aL => have := LMc19.out; omega); intro v192 w23 ho hb hg hat; rw [← Ny191.out] at ho; have n0_ := Aside0.mk (Kd.S_after (ok := (fun k_ => (w.heap.size ≤ k_))) (by (with_reducible repeat (first | apply Kd.S_alloc | apply Kd.S_drewN | apply Kd.S_drew)); exact HO_5.out) hg hat); have n1_ := Aside0.mk (blk_grown (g := gb176) (o := .cells #[.slice A0_0 l0_0.length c0_0, .slice A0_1 l0_1.length c0_1, .slice A0_2 l0_2.length c0_2] 27 (0, 0)) (by (with_reducible repeat (first | refine blk_drewN ?_ _ | refine blk_drew ?_ | refine blk_alloc ?_ _)); exact BK176.out) hg (Kd.R_ne HO190.out BK176.out (by decide))); have n2_ := Aside0.mk (blk_grown (g := gb177) (o := .cells #[.slice none 0 0, .slice none 0 0, .slice none 0 0] 27 (0, 0)) (by (with_reducible repeat (first | refine blk_drewN ?_ _ | refine blk_drew ?_ | refine blk_alloc ?_ _)); exact BK177.out) hg (Kd.R_ne HO190.out BK177.out (by decide))); have n3_ := Aside0.mk (hb); have n4_ := Aside0.mk (ho); clear HO_5; clear BK176; clear BK177; clear HB; clear HO190; have HO_5 := n0_; have BK176 := n1_; have BK177 := n2_; have HB := n3_; have HO193 := n4_; clear n0_ n1_ n2_ n3_ n4_; clear ho hb hg hat; obtain ⟨Ao24, co24, eo24⟩ := Kd.S_slice HO_5.out; subst eo24) | ((with_reducible refine gate_callee (f := 44) rfl ?_); refine goesL_ (some 29) rfl rfl Try.func44 (by kernel_rfl) rfl #[.slice Ao24 x5_1.length co24] rfl (by (try simp only [List.map_toArray, List.map_cons, List.map_nil]); first | done | rfl | (simp only [List.length_drop, List.length_take]; rfl)) ?_; (with_reducible refine (spec_l2Sort.calls k1 (fun k_ => ((((w.heap.size ≤ k_) ∧ some k_ ≠ (v192 : Value).ownBlock) ∧ k_ ≠ gb176) ∧ k_ ≠ gb177)) _ _ x5_1 t194 _ ?side1 A20.out).mono ?_); (case side1 => exact Kd.S_V (Kd.S_types (Kd.S_types (HO_5.out) BK176.out (by decide)) BK177.out (by decide))); rintro e w25 ⟨v195, rfl, ho0, hb⟩; refine ⟨_, rfl, ?_⟩; have n0_ := Aside0.mk (Kd.S_below (by (with_reducible repeat (first | apply Kd.S_alloc | apply Kd.S_drewN | apply Kd.S_drew)); exact HO_5.out) hb); have n1_ := Aside0.mk (Kd.R_below (by (with_reducible repeat (first | apply Kd.R_alloc | apply Kd.R_drewN | apply Kd.R_drew)); exact HO193.out) hb); have n2_ := Aside0.mk (Kd.V_lower (Kd.V_mono (ok' := fun k_ => (w.heap.size ≤ k_) ∧ some k_ ≠ (v192 : Value).ownBlock ∧ k_ ≠ gb176 ∧ k_ ≠ gb177) ho0 (fun k_ hk_ => ⟨Or.elim hk_ (fun hs_ => hs_.1.1.1) (fun hn_ => (Nat.le_trans (below_size (by repeat (first | (with_reducible first | exact HB.out | apply below_alloc | apply pw_below_drewN | apply below_drew1 | refine below_set ?_ GE176.out | refine below_set ?_ GE177.out) | exact HB.out))) hn_)), Or.elim hk_ (fun hs_ => hs_.1.1.2) (fun hn_ => (Kd.fresh' (Kd.R_lt (by (with_reducible repeat (first | apply Kd.R_alloc | apply Kd.R_drewN | apply Kd.R_drew)); exact HO193.out)) k_ hn_)), Or.elim hk_ (fun hs_ => hs_.1.2) (fun hn_ => (Kd.freshB (g := gb176) (o := .cells #[.slice A0_0 l0_0.length c0_0, .slice A0_1 l0_1.length c0_1, .slice A0_2 l0_2.length c0_2] 27 (0, 0)) (by (with_reducible repeat (first | refine blk_drewN ?_ _ | refine blk_drew ?_ | refine blk_alloc ?_ _)); exact BK176.out) k_ hn_)), Or.elim hk_ (fun hs_ => hs_.2) (fun hn_ => (Kd.freshB (g := gb177) (o := .cells #[.slice none 0 0, .slice none 0 0, .slice none 0 0] 27 (0, 0)) (by (with_reducible repeat (first | refine blk_drewN ?_ _ | refine blk_drew ?_ | refine blk_alloc ?_ _)); exact BK177.out) k_ hn_))⟩)) (below_size (by repeat (first | (with_reducible first | exact HB.out | apply below_alloc | apply pw_below_drewN | apply below_drew1 | refine below_set ?_ GE176.out | refine below_set ?_ GE177.out) | exact HB.out)))); have n3_ := Aside0.mk (blk_below (g := gb176) (o := .cells #[.slice A0_0 l0_0.length c0_0, .slice A0_1 l0_1.length c0_1, .slice A0_2 l0_2.length c0_2] 27 (0, 0)) (by (with_reducible repeat (first | refine blk_drewN ?_ _ | refine blk_drew ?_ | refine blk_alloc ?_ _)); exact BK176.out) hb); have n4_ := Aside0.mk (blk_below (g := gb177) (o := .cells #[.slice none 0 0, .slice none 0 0, .slice none 0 0] 27 (0, 0)) (by (with_reducible repeat (first | refine blk_drewN ?_ _ | refine blk_drew ?_ | refine blk_alloc ?_ _)); exact BK177.out) hb); have n5_ := Aside0.mk (below_step (by repeat (first | (with_reducible first | exact HB.out | apply below_alloc | apply pw_below_drewN | apply below_drew1 | refine below_set ?_ GE176.out | refine below_set ?_ GE177.out) | exact HB.out)) hb); clear HO_5; clear HO193; clear BK176; clear BK177; clear HB; have HO_5 := n0_; have HO193 := n1_; have HO196 := n2_; have BK176 := n3_; have BK177 := n4_; have HB := n5_; clear n0_ n1_ n2_ n3_ n4_ n5_; (try clear hb); (try clear hb2); (try clear hk); (try clear hi); (try clear ho0); obtain ⟨Ao26, co26, eo26⟩ := Kd.V_slice HO196.out; subst eo26; obtain ⟨Ao27, co27, eo27⟩ := Kd.R_slice HO193.out; subst eo27) | ((with_reducible refine gate_dst (N := 8) rfl ?_); refine box_event ?hg (N := 8) ?hd (cs := #[.slice none 0 0, .slice none 0 0, .slice none 0 0]) (t := 27) ?hr ?_; (case hd => rfl); (case hg => rfl); (case hr => first | (go_simp; done) | (go_simp; rfl)); intro gb197 hg w28 hbox hb; have n0_ := Aside0.mk (Kd.S_below (by (with_reducible repeat (first | apply Kd.S_alloc | apply Kd.S_drewN | apply Kd.S_drew)); exact HO_5.out) hb); have n1_ := Aside0.mk (Kd.R_below (by (with_reducible repeat (first | apply Kd.R_alloc | apply Kd.R_drewN | apply Kd.R_drew)); exact HO193.out) hb); have n2_ := Aside0.mk (Kd.V_below (Kd.V_elderB (by (with_reducible repeat (first | apply Kd.V_alloc | apply Kd.V_drewN | apply Kd.V_drew)); exact HO196.out) gb197 (Nat.le_of_eq hg.symm)) hb); have n3_ := Aside0.mk (blk_below (g := gb176) (o := .cells #[.slice A0_0 l0_0.length c0_0, .slice A0_1 l0_1.length c0_1, .slice A0_2 l0_2.length c0_2] 27 (0, 0)) (by (with_reducible repeat (first | refine blk_drewN ?_ _ | refine blk_drew ?_ | refine blk_alloc ?_ _)); exact BK176.out) hb); have n4_ := Aside0.mk (blk_below (g := gb177) (o := .cells #[.slice none 0 0, .slice none 0 0, .slice none 0 0] 27 (0, 0)) (by (with_reducible repeat (first | refine blk_drewN ?_ _ | refine blk_drew ?_ | refine blk_alloc ?_ _)); exact BK177.out) hb); have n5_ := Aside0.mk (below_step (by repeat (first | (with_reducible first | exact HB.out | apply below_alloc | apply pw_below_drewN | apply below_drew1 | refine below_set ?_ GE176.out | refine below_set ?_ GE177.out) | exact HB.out)) hb); have n6_ := Aside0.mk (hbox); have n7_ := Aside0.mk ((by rw [hg]; exact (below_size (by repeat (first | (with_reducible first | exact HB.out | apply below_alloc | apply pw_below_drewN | apply below_drew1 | refine below_set ?_ GE176.out | refine below_set ?_ GE177.out) | exact HB.out))) : w.heap.size ≤ gb197)); have n8_ := Aside0.mk ((by rw [hg]; exact (below_size (by repeat (first | (with_reducible first | exact HB.out | apply below_alloc | apply pw_below_drewN | apply below_drew1 | refine below_set ?_ GE176.out | refine below_set ?_ GE177.out) | exact HB.out))) : w.heap.size ≤ gb197)); have n9_ := Aside0.mk ((by rw [hg]; exact Nat.ne_of_lt (blk_lt (g := gb176) (o := .cells #[.slice A0_0 l0_0.length c0_0, .slice A0_1 l0_1.length c0_1, .slice A0_2 l0_2.length c0_2] 27 (0, 0)) (by (with_reducible repeat (first | refine blk_drewN ?_ _ | refine blk_drew ?_ | refine blk_alloc ?_ _)); exact BK176.out)) : gb176 ≠ gb197)); have n10_ := Aside0.mk ((by rw [hg]; exact Nat.ne_of_gt (blk_lt (g := gb176) (o := .cells #[.slice A0_0 l0_0.length c0_0, .slice A0_1 l0_1.length c0_1, .slice A0_2 l0_2.length c0_2] 27 (0, 0)) (by (with_reducible repeat (first | refine blk_drewN ?_ _ | refine blk_drew ?_ | refine blk_alloc ?_ _)); exact BK176.out)) : gb197 ≠ gb176)); have n11_ := Aside0.mk ((by rw [hg]; exact Nat.ne_of_lt (blk_lt (g := gb177) (o := .cells #[.slice none 0 0, .slice none 0 0, .slice none 0 0] 27 (0, 0)) (by (with_reducible repeat (first | refine blk_drewN ?_ _ | refine blk_drew ?_ | refine blk_alloc ?_ _)); exact BK177.out)) : gb177 ≠ gb197)); have n12_ := Aside0.mk ((by rw [hg]; exact Nat.ne_of_gt (blk_lt (g := gb177) (o := .cells #[.slice none 0 0, .slice none 0 0, .slice none 0 0] 27 (0, 0)) (by (with_reducible repeat (first | refine blk_drewN ?_ _ | refine blk_drew ?_ | refine blk_alloc ?_ _)); exact BK177.out)) : gb197 ≠ gb177)); clear HO_5; clear HO193; clear HO196; clear BK176; clear BK177; clear HB; have HO_5 := n0_; have HO193 := n1_; have HO196 := n2_; have BK176 := n3_; have BK177 := n4_; have HB := n5_; have BK197 := n6_; have GW197 := n7_; have GE197 := n8_; have NB176_197 := n9_; have NB197_176 := n10_; have NB177_197 := n11_; have NB197_177 := n12_; clear n0_ n1_ n2_ n3_ n4_ n5_ n6_ n7_ n8_ n9_ n10_ n11_ n12_; clear hb hbox hg; have hnb29 := NB197_176.out; have hnc29 := NB176_197.out; have hnb30 := NB197_177.out; have hnc30 := NB177_197.out; have hcz31_0 : w28.cell? ⟨gb197, 0, none⟩ = some (.slice none 0 0) := (blk_cell BK197.out 0).trans rfl; have hcz31_1 : w28.cell? ⟨gb197, 1, none⟩ = some (.slice none 0 0) := (blk_cell BK197.out 1).trans rfl; have hcz31_2 : w28.cell? ⟨gb197, 2, none⟩ = some (.slice none 0 0) := (blk_cell BK197.out 2).trans rfl; have hfz31_0 := blk_frozen BK197.out 0; have hfz31_1 := blk_frozen BK197.out 1; have hfz31_2 := blk_frozen BK197.out 2))
     go_loopg [34] k1 (fun kq v34 w' => ∃ (x34_2 : Int) (x198002_2 : List Int) (u198002 : Value), v34 = .int .i64 x34_2 ∧ Aside0 (spec_l2Project.l1 kq (t194.length : Int) x34_2 y191 t194 x198002_2 = some (r1, r2, r3)) ∧ Aside0 (kq ≤ k1) ∧ Aside0 (Kd.R (Kd.int .i64) 3 w' w.heap.size (fun k_ => (w.heap.size ≤ k_) ∧ some k_ ≠ (u198002 : Value).ownBlock) (.slice Ao27 y191.length co27) y191) ∧ Aside0 (Kd.V (Kd.slice 3 (Kd.int .i64)) 22 w' w.heap.size (fun k_ => (w.heap.size ≤ k_) ∧ some k_ ≠ ((.slice Ao27 y191.length co27) : Value).ownBlock ∧ some k_ ≠ (u198002 : Value).ownBlock ∧ k_ ≠ gb176 ∧ k_ ≠ gb177 ∧ k_ ≠ gb197) (.slice Ao26 t194.length co26) t194) ∧ Aside0 (Kd.R (Kd.int .i64) 3 w' w.heap.size (fun k_ => (w.heap.size ≤ k_) ∧ some k_ ≠ ((.slice Ao27 y191.length co27) : Value).ownBlock) u198002 x198002_2) ∧ Aside0 (w'.heap[gb176]? = some (.cells #[(.slice A0_0 l0_0.length c0_0), (.slice A0_1 l0_1.length c0_1), (.slice A0_2 l0_2.length c0_2)] 27 (0, 0))) ∧ Aside0 (w'.heap[gb177]? = some (.cells #[(.slice none 0 0), (.slice none 0 0), (.slice none 0 0)] 27 (0, 0))) ∧ Aside0 (w'.heap[gb197]? = some (.cells #[(.slice Ao27 y191.length co27), (.slice Ao26 t194.length co26), u198002] 27 (0, 0))) ∧ Aside0 (Below w.heap.size w w'))
     case atStart => exact ⟨(0), (([] : List Int)), (.slice none 0 0), (by first | rfl | (simp; done) | (simp [*]; done)), H', ⟨Nat.le_refl _⟩, ⟨by (with_reducible repeat (first | apply Kd.R_alloc | apply Kd.R_drewN | apply Kd.R_drew)); exact Kd.R_mono (Kd.R_far (p := ⟨gb197, 2, none⟩) (Kd.R_far (p := ⟨gb197, 1, none⟩) (Kd.R_far (p := ⟨gb197, 0, none⟩) (Kd.R_types HO193.out BK197.out (by decide)) (fun _ hk => hk.2) (.slice Ao27 y191.length co27)) (fun _ hk => hk.2) (.slice Ao26 t194.length co26)) (fun _ hk => hk.2) (.slice none 0 0)) (fun _ hk => ⟨hk.1, (by simp [Value.ownBlock])⟩)⟩, ⟨by (with_reducible repeat (first | apply Kd.V_alloc | apply Kd.V_drewN | apply Kd.V_drew)); exact Kd.V_mono (Kd.V_far (p := ⟨gb197, 2, none⟩) (Kd.V_far (p := ⟨gb197, 1, none⟩) (Kd.V_far (p := ⟨gb197, 0, none⟩) (Kd.V_mono HO196.out (fun k_ hk => (⟨hk, hk.2⟩ : _ ∧ k_ ≠ gb197))) (fun _ hk => hk.2) (.slice Ao27 y191.length co27)) (fun _ hk => hk.2) (.slice Ao26 t194.length co26)) (fun _ hk => hk.2) (.slice none 0 0)) (fun _ hk => ⟨hk.1.1.1, ⟨hk.1.1.2.1, ⟨(by simp [Value.ownBlock]), ⟨hk.1.1.2.2.1, ⟨hk.1.1.2.2.2, hk.1.2⟩⟩⟩⟩⟩)⟩, ⟨by first | exact Kd.R_nil _ _ _ _ _ | exact Kd.N_nil _ _ _ _ _ | exact Kd.V_nil _ _ _ _ _ | exact Kd.Q_nil _ _ _ _ _ | exact Kd.S_nil _ _ _ _ _⟩, ⟨by (with_reducible repeat (first | refine blk_drewN ?_ _ | refine blk_drew ?_ | refine blk_alloc ?_ _)); refine blk_far ?_ NB176_197.out _; (with_reducible repeat (first | refine blk_drewN ?_ _ | refine blk_drew ?_ | refine blk_alloc ?_ _)); refine blk_far ?_ NB176_197.out _; (with_reducible repeat (first | refine blk_drewN ?_ _ | refine blk_drew ?_ | refine blk_alloc ?_ _)); refine blk_far ?_ NB176_197.out _; (with_reducible repeat (first | refine blk_drewN ?_ _ | refine blk_drew ?_ | refine blk_alloc ?_ _)); exact BK176.out⟩, ⟨by (with_reducible repeat (first | refine blk_drewN ?_ _ | refine blk_drew ?_ | refine blk_alloc ?_ _)); refine blk_far ?_ NB177_197.out _; (with_reducible repeat (first | refine blk_drewN ?_ _ | refine blk_drew ?_ | refine blk_alloc ?_ _)); refine blk_far ?_ NB177_197.out _; (with_reducible repeat (first | refine blk_drewN ?_ _ | refine blk_drew ?_ | refine blk_alloc ?_ _)); refine blk_far ?_ NB177_197.out _; (with_reducible repeat (first | refine blk_drewN ?_ _ | refine blk_drew ?_ | refine blk_alloc ?_ _)); exact BK177.out⟩, ⟨by (with_reducible repeat (first | refine blk_drewN ?_ _ | refine blk_drew ?_ | refine blk_alloc ?_ _)); refine blk_put (cs := #[.slice Ao27 y191.length co27, .slice Ao26 t194.length co26, .slice none 0 0]) ?_ 2 _ rfl; (with_reducible repeat (first | refine blk_drewN ?_ _ | refine blk_drew ?_ | refine blk_alloc ?_ _)); refine blk_put (cs := #[.slice Ao27 y191.length co27, .slice none 0 0, .slice none 0 0]) ?_ 1 _ rfl; (with_reducible repeat (first | refine blk_drewN ?_ _ | refine blk_drew ?_ | refine blk_alloc ?_ _)); refine blk_put (cs := #[.slice none 0 0, .slice none 0 0, .slice none 0 0]) ?_ 0 _ rfl; (with_reducible repeat (first | refine blk_drewN ?_ _ | refine blk_drew ?_ | refine blk_alloc ?_ _)); exact BK197.out⟩, ⟨by repeat (first | (with_reducible first | exact HB.out | apply below_alloc | apply pw_below_drewN | apply below_drew1 | refine below_set ?_ GE176.out | refine below_set ?_ GE177.out | refine below_set ?_ GE197.out) | exact HB.out)⟩⟩
     case round =>
      clear H'
      try clear c1
      try clear p1
      try clear q1
      try clear hx1
      try clear c2
      try clear p2
      try clear c3
      try clear c4
      try clear p6
      try clear c7
      try clear c9
      try clear c9b0
      try clear c10
      try clear c10b0
      try clear c11
      try clear c11b0
      try clear c13
      try clear c14
      try clear c18
      try clear p18
      try clear q18
      try clear hx18
      try clear c19
      try clear c22
      try clear c29
      try clear c30
      try clear hcz15_0
      try clear hcz15_1
      try clear hcz15_2
      try clear hcz31_0
      try clear hcz31_1
      try clear hcz31_2
      try clear hcz8_0
      try clear hcz8_1
      try clear hcz8_2
      try clear hfz15_0
      try clear hfz15_1
      try clear hfz15_2
      try clear hfz31_0
      try clear hfz31_1
      try clear hfz31_2
      try clear hfz8_0
      try clear hfz8_1
      try clear hfz8_2
      try clear hx181_0
      try clear p181
      try clear p2
      try clear q181
      obtain ⟨x34_2, x198002_2, u198002, rfl, HA, HK2, HO_198000, HO_198001, HO_198002, BK176, BK177, BK197, HB⟩ := hrel
      cases gk with
      | zero => exact absurd HA.out (by simp [spec_l2Project.l1])
      | succ k2 =>
       have H := HA.out
       clear HA
       simp only [spec_l2Project.l1] at H
       by_cases c32 : x34_2 < (t194.length : Int)
       ·rw [if_pos c32] at H
        have c32b0 : decide (x34_2 < (t194.length : Int)) = true := decide_eq_true c32
        clear c32
        by_cases c33 : x198002_2.length < 17592186044416
        ·rw [if_pos c33] at H
         have LMc33 := Aside0.mk c33
         clear c33
         obtain ⟨y198, hy198⟩ : ∃ y_ : List Int, y_ = (x198002_2 ++ [1]) := ⟨_, rfl⟩
         replace H : (spec_l2Project.l1 k2 (t194.length : Int) (wrap64 (x34_2 + 1)) y191 t194 y198) = some (r1, r2, r3) := by first | (rw [hy198]; with_reducible exact H) | (have H2_ := (Option.bind_some _ _).symm.trans H; rw [hy198]; with_reducible exact H2_) | (have H2_ := (Option.bind_some _ _).symm.trans H; with_reducible exact H2_) | with_reducible exact H | (rw [hy198]; exact H) | exact H
         have Ny198 := Aside0.mk hy198
         clear hy198
         have H' := Aside0.mk H
         clear H
         have hnb34 := NB197_176.out
         have hnc34 := NB176_197.out
         have hnb35 := NB197_177.out
         have hnc35 := NB177_197.out
         have hcz36_0 : wr.cell? ⟨gb197, 0, none⟩ = some (.slice Ao27 y191.length co27) := (blk_cell BK197.out 0).trans rfl
         have hcz36_1 : wr.cell? ⟨gb197, 1, none⟩ = some (.slice Ao26 t194.length co26) := (blk_cell BK197.out 1).trans rfl
         have hcz36_2 : wr.cell? ⟨gb197, 2, none⟩ = some (u198002) := (blk_cell BK197.out 2).trans rfl
         have hfz36_0 := blk_frozen BK197.out 0
         have hfz36_1 := blk_frozen BK197.out 1
         have hfz36_2 := blk_frozen BK197.out 2
         go_wp2_with (first | ((with_reducible refine gate_builtin (b := .append) (xs := #[.tmp 37, .tmp 38]) rfl ?_); at_builtin; refine Kd.R_append (Kd.int .i64) (w0 := w) w.heap.size rfl (.tmp 37) (.tmp 38) 22 3 (.int .i64 0) 8 rfl Try.underlying22 info3 rfl (by decide) (by omega) u198002 x198002_2 1 [.int .i64 1] (fun k_ => (w.heap.size ≤ k_) ∧ some k_ ≠ (.slice Ao27 y191.length co27 : Value).ownBlock) (fun _ => False) rfl rfl ?aP (fun _ hk => hk.elim) ?aF ?aO ?aB ?aS ?aL ?_; (case aP => exact rfl); (case aB => exact (by repeat (first | (with_reducible first | exact HB.out | apply below_alloc | apply pw_below_drewN | apply below_drew1 | refine below_set ?_ GE176.out | refine below_set ?_ GE177.out | refine below_set ?_ GE197.out) | exact HB.out))); (case aF => exact (fun k_ hk => ⟨(Nat.le_trans (below_size (by repeat (first | (with_reducible first | exact HB.out | apply below_alloc | apply pw_below_drewN | apply below_drew1 | refine below_set ?_ GE176.out | refine below_set ?_ GE177.out | refine below_set ?_ GE197.out) | exact HB.out))) hk), Kd.fresh' (Kd.R_lt (by (with_reducible repeat (first | apply Kd.R_alloc | apply Kd.R_drewN | apply Kd.R_drew)); exact HO_198000.out)) k_ hk⟩)); (case aO => exact (by (with_reducible repeat (first | apply Kd.R_alloc | apply Kd.R_drewN | apply Kd.R_drew)); exact HO_198002.out)); (case aS => exact (below_size (by repeat (first | (with_reducible first | exact HB.out | apply below_alloc | apply pw_below_drewN | apply below_drew1 | refine below_set ?_ GE176.out | refine below_set ?_ GE177.out | refine below_set ?_ GE197.out) | exact HB.out)))); (case aL => have := LMc33.out; omega); intro v199 w37 ho hb hg hat; rw [← Ny198.out] at ho; have n0_ := Aside0.mk (Kd.R_after (ok := (fun k_ => (w.heap.size ≤ k_))) (by (with_reducible repeat (first | apply Kd.R_alloc | apply Kd.R_drewN | apply Kd.R_drew)); exact HO_198000.out) hg hat); have n1_ := Aside0.mk (Kd.V_afterv (ok := (fun k_ => (w.heap.size ≤ k_) ∧ some k_ ≠ (.slice Ao27 y191.length co27 : Value).ownBlock ∧ k_ ≠ gb176 ∧ k_ ≠ gb177 ∧ k_ ≠ gb197)) (by (with_reducible repeat (first | apply Kd.V_alloc | apply Kd.V_drewN | apply Kd.V_drew)); exact Kd.V_mono HO_198001.out (fun _ hk => ⟨⟨hk.1, ⟨hk.2.1, ⟨hk.2.2.2.1, ⟨hk.2.2.2.2.1, hk.2.2.2.2.2⟩⟩⟩⟩, hk.2.2.1⟩)) hg hat); have n2_ := Aside0.mk (blk_grown (g := gb176) (o := .cells #[.slice A0_0 l0_0.length c0_0, .slice A0_1 l0_1.length c0_1, .slice A0_2 l0_2.length c0_2] 27 (0, 0)) (by (with_reducible repeat (first | refine blk_drewN ?_ _ | refine blk_drew ?_ | refine blk_alloc ?_ _)); exact BK176.out) hg (Kd.R_ne HO_198002.out BK176.out (by decide))); have n3_ := Aside0.mk (blk_grown (g := gb177) (o := .cells #[.slice none 0 0, .slice none 0 0, .slice none 0 0] 27 (0, 0)) (by (with_reducible repeat (first | refine blk_drewN ?_ _ | refine blk_drew ?_ | refine blk_alloc ?_ _)); exact BK177.out) hg (Kd.R_ne HO_198002.out BK177.out (by decide))); have n4_ := Aside0.mk (blk_grown (g := gb197) (o := .cells #[.slice Ao27 y191.length co27, .slice Ao26 t194.length co26, u198002] 27 (0, 0)) (by (with_reducible repeat (first | refine blk_drewN ?_ _ | refine blk_drew ?_ | refine blk_alloc ?_ _)); exact BK197.out) hg (Kd.R_ne HO_198002.out BK197.out (by decide))); have n5_ := Aside0.mk (hb); have n6_ := Aside0.mk (ho); clear HO_198000; clear HO_198001; clear BK176; clear BK177; clear BK197; clear HB; clear HO_198002; have HO_198000 := n0_; have HO_198001 := n1_; have BK176 := n2_; have BK177 := n3_; have BK197 := n4_; have HB := n5_; have HO200 := n6_; clear n0_ n1_ n2_ n3_ n4_ n5_ n6_; clear ho hb hg hat; obtain ⟨Ao38, co38, eo38⟩ := Kd.R_slice HO200.out; subst eo38; have hcz39_0 : w37.cell? ⟨gb197, 0, none⟩ = some (.slice Ao27 y191.length co27) := (blk_cell BK197.out 0).trans rfl; have hcz39_1 : w37.cell? ⟨gb197, 1, none⟩ = some (.slice Ao26 t194.length co26) := (blk_cell BK197.out 1).trans rfl; have hcz39_2 : w37.cell? ⟨gb197, 2, none⟩ = some (u198002) := (blk_cell BK197.out 2).trans rfl; have hfz39_0 := blk_frozen BK197.out 0; have hfz39_1 := blk_frozen BK197.out 1; have hfz39_2 := blk_frozen BK197.out 2))
         go_roundg k2
         case measure => have := HK1.out; have := HK2.out; omega
         case rel => exact ⟨(wrap64 (x34_2 + 1)), (y198), (.slice Ao38 y198.length co38), (by first | rfl | (simp; done) | (simp [*]; done)), H', ⟨by have := HK1.out; have := HK2.out; omega⟩, ⟨by (with_reducible repeat (first | apply Kd.R_alloc | apply Kd.R_drewN | apply Kd.R_drew)); exact Kd.R_mono (Kd.R_far (p := ⟨gb197, 2, none⟩) (Kd.R_types HO_198000.out BK197.out (by decide)) (fun _ hk => hk.2) (.slice Ao38 y198.length co38)) (fun _ hk => ⟨hk.1.1, hk.1.2⟩)⟩, ⟨by (with_reducible repeat (first | apply Kd.V_alloc | apply Kd.V_drewN | apply Kd.V_drew)); exact Kd.V_mono (Kd.V_far (p := ⟨gb197, 2, none⟩) (Kd.V_mono HO_198001.out (fun k_ hk => (⟨hk, hk.1.2.2.2.2⟩ : _ ∧ k_ ≠ gb197))) (fun _ hk => hk.2) (.slice Ao38 y198.length co38)) (fun _ hk => ⟨hk.1.1.1, ⟨hk.1.1.2.1, ⟨hk.1.2, ⟨hk.1.1.2.2.1, ⟨hk.1.1.2.2.2.1, hk.1.1.2.2.2.2⟩⟩⟩⟩⟩)⟩, ⟨by (with_reducible repeat (first | apply Kd.R_alloc | apply Kd.R_drewN | apply Kd.R_drew)); exact Kd.R_mono (Kd.R_far (p := ⟨gb197, 2, none⟩) (Kd.R_types HO200.out BK197.out (by decide)) (fun _ hk => hk.2) (.slice Ao38 y198.length co38)) (fun _ hk => ⟨hk.1.1, hk.1.2⟩)⟩, ⟨by (with_reducible repeat (first | refine blk_drewN ?_ _ | refine blk_drew ?_ | refine blk_alloc ?_ _)); refine blk_far ?_ NB176_197.out _; (with_reducible repeat (first | refine blk_drewN ?_ _ | refine blk_drew ?_ | refine blk_alloc ?_ _)); exact BK176.out⟩, ⟨by (with_reducible repeat (first | refine blk_drewN ?_ _ | refine blk_drew ?_ | refine blk_alloc ?_ _)); refine blk_far ?_ NB177_197.out _; (with_reducible repeat (first | refine blk_drewN ?_ _ | refine blk_drew ?_ | refine blk_alloc ?_ _)); exact BK177.out⟩, ⟨by (with_reducible repeat (first | refine blk_drewN ?_ _ | refine blk_drew ?_ | refine blk_alloc ?_ _)); refine blk_put (cs := #[.slice Ao27 y191.length co27, .slice Ao26 t194.length co26, u198002]) ?_ 2 _ rfl; (with_reducible repeat (first | refine blk_drewN ?_ _ | refine blk_drew ?_ | refine blk_alloc ?_ _)); exact BK197.out⟩, ⟨by repeat (first | (with_reducible first | exact HB.out | apply below_alloc | apply pw_below_drewN | apply below_drew1 | refine below_set ?_ GE176.out | refine below_set ?_ GE177.out | refine below_set ?_ GE197.out) | exact HB.out)⟩⟩
        ·rw [if_neg c33] at H
         exact absurd H (by simp)
       ·rw [if_neg c32] at H
        have c32b0 : decide (x34_2 < (t194.length : Int)) = false := decide_eq_false c32
        clear c32
        simp only [Option.some.injEq, Prod.mk.injEq] at H
        obtain ⟨rfl, rfl, rfl⟩ := H
        have hnb40 := NB197_176.out
        have hnc40 := NB176_197.out
        have hnb41 := NB197_177.out
        have hnc41 := NB177_197.out
        have hcz42_0 : wr.cell? ⟨gb197, 0, none⟩ = some (.slice Ao27 y191.length co27) := (blk_cell BK197.out 0).trans rfl
        have hcz42_1 : wr.cell? ⟨gb197, 1, none⟩ = some (.slice Ao26 t194.length co26) := (blk_cell BK197.out 1).trans rfl
        have hcz42_2 : wr.cell? ⟨gb197, 2, none⟩ = some (u198002) := (blk_cell BK197.out 2).trans rfl
        have hfz42_0 := blk_frozen BK197.out 0
        have hfz42_1 := blk_frozen BK197.out 1
        have hfz42_2 := blk_frozen BK197.out 2
        have hnb43 := NB177_176.out
        have hnc43 := NB176_177.out
        have hcz44_0 : wr.cell? ⟨gb177, 0, none⟩ = some (.slice none 0 0) := (blk_cell BK177.out 0).trans rfl
        have hcz44_1 : wr.cell? ⟨gb177, 1, none⟩ = some (.slice none 0 0) := (blk_cell BK177.out 1).trans rfl
        have hcz44_2 : wr.cell? ⟨gb177, 2, none⟩ = some (.slice none 0 0) := (blk_cell BK177.out 2).trans rfl
        have hfz44_0 := blk_frozen BK177.out 0
        have hfz44_1 := blk_frozen BK177.out 1
        have hfz44_2 := blk_frozen BK177.out 2
        obtain ⟨Ao45, co45, eo45⟩ := Kd.R_slice HO_198002.out
        subst eo45
        go_wp2
        refine bodyPost_ret (results_cell_row rfl _ _ gb177 27 #[.slice Ao27 y191.length co27, .slice Ao26 t194.length co26, .slice Ao45 x198002_2.length co45] (0, 0) _ rfl (by (with_reducible repeat (first | refine blk_drewN ?_ _ | refine blk_drew ?_ | refine blk_alloc ?_ _)); refine blk_put (cs := #[.slice Ao27 y191.length co27, .slice Ao26 t194.length co26, .slice none 0 0]) ?_ 2 _ rfl; (with_reducible repeat (first | refine blk_drewN ?_ _ | refine blk_drew ?_ | refine blk_alloc ?_ _)); refine blk_put (cs := #[.slice Ao27 y191.length co27, .slice none 0 0, .slice none 0 0]) ?_ 1 _ rfl; (with_reducible repeat (first | refine blk_drewN ?_ _ | refine blk_drew ?_ | refine blk_alloc ?_ _)); refine blk_put (cs := #[.slice none 0 0, .slice none 0 0, .slice none 0 0]) ?_ 0 _ rfl; (with_reducible repeat (first | refine blk_drewN ?_ _ | refine blk_drew ?_ | refine blk_alloc ?_ _)); exact BK177.out) Try.underlying27 rfl (by kernel_rfl)) rfl ?_
        exact ⟨_, _, _, by first | rfl | (simp [errW_none, errW_some] <;> rfl) | (simp [*, errW_none, errW_some] <;> rfl), by (with_reducible repeat (first | apply Kd.R_alloc | apply Kd.R_drewN | apply Kd.R_drew)); exact Kd.R_mono (Kd.R_far (p := ⟨gb177, 2, none⟩) (Kd.R_far (p := ⟨gb177, 1, none⟩) (Kd.R_far (p := ⟨gb177, 0, none⟩) (Kd.R_types HO_198000.out BK177.out (by decide)) (fun _ hk => hk.2) (.slice Ao27 y191.length co27)) (fun _ hk => hk.2) (.slice Ao26 t194.length co26)) (fun _ hk => hk.2) (.slice Ao45 x198002_2.length co45)) (fun _ hk => ⟨hk.1.1, hk.1.2⟩), by (with_reducible repeat (first | apply Kd.V_alloc | apply Kd.V_drewN | apply Kd.V_drew)); exact Kd.V_mono (Kd.V_far (p := ⟨gb177, 2, none⟩) (Kd.V_far (p := ⟨gb177, 1, none⟩) (Kd.V_far (p := ⟨gb177, 0, none⟩) (Kd.V_mono HO_198001.out (fun k_ hk => (⟨hk, hk.2.2.2.2.1⟩ : _ ∧ k_ ≠ gb177))) (fun _ hk => hk.2) (.slice Ao27 y191.length co27)) (fun _ hk => hk.2) (.slice Ao26 t194.length co26)) (fun _ hk => hk.2) (.slice Ao45 x198002_2.length co45)) (fun _ hk => ⟨hk.1.1, ⟨hk.1.2.1, hk.1.2.2.1⟩⟩), by (with_reducible repeat (first | apply Kd.R_alloc | apply Kd.R_drewN | apply Kd.R_drew)); exact Kd.R_mono (Kd.R_far (p := ⟨gb177, 2, none⟩) (Kd.R_far (p := ⟨gb177, 1, none⟩) (Kd.R_far (p := ⟨gb177, 0, none⟩) (Kd.R_types HO_198002.out BK177.out (by decide)) (fun _ hk => hk.2) (.slice Ao27 y191.length co27)) (fun _ hk => hk.2) (.slice Ao26 t194.length co26)) (fun _ hk => hk.2) (.slice Ao45 x198002_2.length co45)) (fun _ hk => ⟨hk.1.1, hk.1.2⟩), by repeat (first | (with_reducible first | exact HB.out | apply below_alloc | apply pw_below_drewN | apply below_drew1 | refine below_set ?_ GE176.out | refine below_set ?_ GE177.out | refine below_set ?_ GE197.out) | exact HB.out)⟩
    ·rw [if_neg c19] at H
     exact absurd H (by simp)
end Go.Proofs.Ytkohcdddgjaijaa.P
