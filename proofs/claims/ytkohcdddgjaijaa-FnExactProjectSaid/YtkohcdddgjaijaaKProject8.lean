/-
  The law FnExactProject answers true at every argument.
-/
import Derived.Test.YtkohcdddgjaijaaRows
import Derived.Test.YtkohcdddgjaijaaKProject2
import Derived.Test.YtkohcdddgjaijaaKProject3
import Derived.Test.YtkohcdddgjaijaaKProject4
import Derived.Test.YtkohcdddgjaijaaKProject5
import Derived.Test.YtkohcdddgjaijaaKProject6
import Derived.Test.YtkohcdddgjaijaaKProject7
import Derived.WalkKit
import Derived.ProofKit
import Derived.OpenShut
import Derived.ShutString
import Derived.ChangeOld
import Derived.Below
import Derived.SizedLaws
import Derived.Lib.SmallJoins
namespace Go.Proofs.Ytkohcdddgjaijaa.P
open Go.RowKit Go.Proofs.YtkohcdddgjaijaaW.PrintWords Go.Proofs.YtkohcdddgjaijaaW.PrintLast Go.Proofs.YtkohcdddgjaijaaW.PrintMore
attribute [local go_sem] max2_int min2_int max_two min_two max_three min_three max_four min_four
set_option linter.unusedVariables false
set_option linter.unusedSimpArgs false
def spec_Project.f (k : Nat) (l0_0 : List Int) (l0_1 : List (List Int)) (l0_2 : List Int) (l1 : List Int) : Option (List Int × (List (List Int)) × List Int) := (spec_TableOK.f k l0_0 l0_1 l0_2).bind fun t203 => (if t203 = true then ((spec_l1SetOK.f k l1 6).bind fun t204 => (if t204 = true then ((spec_l2Subset.f k l1 l0_0).bind fun t205 => (if t205 = true then ((spec_l2Project.f k l0_0 l0_1 l0_2 l1).bind fun bt206 => (some (bt206.1, bt206.2.1, bt206.2.2))) else (some (([] : List Int), ([] : List (List Int)), ([] : List Int))))) else (some (([] : List Int), ([] : List (List Int)), ([] : List Int))))) else (some (([] : List Int), ([] : List (List Int)), ([] : List Int))))
theorem spec_Project.mono : ∀ a0 a1 a2 a3 k, LeO (spec_Project.f k a0 a1 a2 a3) (spec_Project.f (k + 1) a0 a1 a2 a3) := by
 intro a0 a1 a2 a3 k
 unfold spec_Project.f
 repeat' first
   | (with_reducible exact spec_TableOK.mono _ _ _ _)
   | (with_reducible exact spec_l1SetOK.mono _ _ _)
   | (with_reducible exact spec_l2Project.mono _ _ _ _ _)
   | (with_reducible exact spec_l2Subset.mono _ _ _)
   | (with_reducible exact LeO.refl _)
   | (with_reducible exact LeO.none _)
   | (with_reducible refine LeO.ite ?_ ?_)
   | (with_reducible refine LeO.bind ?_ (fun _ => ?_))
   | exact spec_TableOK.mono _ _ _ _
   | exact spec_l1SetOK.mono _ _ _
   | exact spec_l2Project.mono _ _ _ _ _
   | exact spec_l2Subset.mono _ _ _
   | exact LeO.none _
   | refine LeO.ite ?_ ?_
   | refine LeO.bind ?_ (fun _ => ?_)
set_option maxHeartbeats 8000000 in
set_option maxRecDepth 100000 in
theorem spec_Project.calls (k : Nat) (A0_0 : Option Addr) (c0_0 : Nat) (l0_0 : List Int) (A0_1 : Option Addr) (c0_1 : Nat) (l0_1 : List (List Int)) (A0_2 : Option Addr) (c0_2 : Nat) (l0_2 : List Int) (A1 : Option Addr) (c1 : Nat) (l1 : List Int) (r1 : List Int) (r2 : List (List Int)) (r3 : List Int) (w : World) (hr0_0 : Kd.C (Kd.int .i64) w A0_0 l0_0.length l0_0) (hc0_0 : l0_0.length ≤ c0_0) (hr0_1 : Kd.C (Kd.slice 3 (Kd.int .i64)) w A0_1 l0_1.length l0_1) (hc0_1 : l0_1.length ≤ c0_1) (hr0_2 : Kd.C (Kd.int .i64) w A0_2 l0_2.length l0_2) (hc0_2 : l0_2.length ≤ c0_2) (hr1 : Kd.C (Kd.int .i64) w A1 l1.length l1) (hc1 : l1.length ≤ c1) (h : spec_Project.f k l0_0 l0_1 l0_2 l1 = some (r1, r2, r3)) :
  Calls Try.prog 6 #[.agg #[.slice A0_0 l0_0.length c0_0, .slice A0_1 l0_1.length c0_1, .slice A0_2 l0_2.length c0_2], .slice A1 l1.length c1] w fun e w' => ∃ v0_ v1_ v2_ : Value, e = .returned (.agg #[v0_, v1_, v2_]) ∧ Kd.R (Kd.int .i64) 3 w' w.heap.size (fun k_ => (w.heap.size ≤ k_) ∧ some k_ ≠ (v2_ : Value).ownBlock) v0_ r1 ∧ Kd.V (Kd.slice 3 (Kd.int .i64)) 22 w' w.heap.size (fun k_ => (w.heap.size ≤ k_) ∧ some k_ ≠ (v0_ : Value).ownBlock ∧ some k_ ≠ (v2_ : Value).ownBlock) v1_ r2 ∧ Kd.R (Kd.int .i64) 3 w' w.heap.size (fun k_ => (w.heap.size ≤ k_) ∧ some k_ ≠ (v0_ : Value).ownBlock) v2_ r3 ∧ Below w.heap.size w w' := by
 have hu27 := Try.underlying27
 have HR0_0 := Aside0.mk hr0_0
 have HC0_0 := Aside0.mk hc0_0
 clear hr0_0 hc0_0
 have HR0_1 := Aside0.mk hr0_1
 have HC0_1 := Aside0.mk hc0_1
 clear hr0_1 hc0_1
 have HR0_2 := Aside0.mk hr0_2
 have HC0_2 := Aside0.mk hc0_2
 clear hr0_2 hc0_2
 have HR1 := Aside0.mk hr1
 have HC1 := Aside0.mk hc1
 clear hr1 hc1
 have HB := Aside0.mk (Below.refl w.heap.size w)
 have H : ((spec_TableOK.f k l0_0 l0_1 l0_2).bind fun t203 => (if t203 = true then ((spec_l1SetOK.f k l1 6).bind fun t204 => (if t204 = true then ((spec_l2Subset.f k l1 l0_0).bind fun t205 => (if t205 = true then ((spec_l2Project.f k l0_0 l0_1 l0_2 l1).bind fun bt206 => (some (bt206.1, bt206.2.1, bt206.2.2))) else (some (([] : List Int), ([] : List (List Int)), ([] : List Int))))) else (some (([] : List Int), ([] : List (List Int)), ([] : List Int))))) else (some (([] : List Int), ([] : List (List Int)), ([] : List Int))))) = some (r1, r2, r3) := h
 clear h
 replace H := Option.bind_eq_some_iff.mp H
 obtain ⟨t203, A30, H⟩ := H
 replace H : (if t203 = true then ((spec_l1SetOK.f k l1 6).bind fun t204 => (if t204 = true then ((spec_l2Subset.f k l1 l0_0).bind fun t205 => (if t205 = true then ((spec_l2Project.f k l0_0 l0_1 l0_2 l1).bind fun bt206 => (some (bt206.1, bt206.2.1, bt206.2.2))) else (some (([] : List Int), ([] : List (List Int)), ([] : List Int))))) else (some (([] : List Int), ([] : List (List Int)), ([] : List Int))))) else (some (([] : List Int), ([] : List (List Int)), ([] : List Int)))) = some (r1, r2, r3) := H
 have A3 := Aside0.mk A30
 clear A30
 by_cases c4 : t203 = true
 ·subst c4
  have H1 : ((spec_l1SetOK.f k l1 6).bind fun t204 => (if t204 = true then ((spec_l2Subset.f k l1 l0_0).bind fun t205 => (if t205 = true then ((spec_l2Project.f k l0_0 l0_1 l0_2 l1).bind fun bt206 => (some (bt206.1, bt206.2.1, bt206.2.2))) else (some (([] : List Int), ([] : List (List Int)), ([] : List Int))))) else (some (([] : List Int), ([] : List (List Int)), ([] : List Int))))) = some (r1, r2, r3) := by rw [if_pos rfl] at H; exact H
  clear H
  have H := H1
  clear H1
  replace H := Option.bind_eq_some_iff.mp H
  obtain ⟨t204, A50, H⟩ := H
  replace H : (if t204 = true then ((spec_l2Subset.f k l1 l0_0).bind fun t205 => (if t205 = true then ((spec_l2Project.f k l0_0 l0_1 l0_2 l1).bind fun bt206 => (some (bt206.1, bt206.2.1, bt206.2.2))) else (some (([] : List Int), ([] : List (List Int)), ([] : List Int))))) else (some (([] : List Int), ([] : List (List Int)), ([] : List Int)))) = some (r1, r2, r3) := H
  have A5 := Aside0.mk A50
  clear A50
  by_cases c6 : t204 = true
  ·subst c6
   have H1 : ((spec_l2Subset.f k l1 l0_0).bind fun t205 => (if t205 = true then ((spec_l2Project.f k l0_0 l0_1 l0_2 l1).bind fun bt206 => (some (bt206.1, bt206.2.1, bt206.2.2))) else (some (([] : List Int), ([] : List (List Int)), ([] : List Int))))) = some (r1, r2, r3) := by rw [if_pos rfl] at H; exact H
   clear H
   have H := H1
   clear H1
   replace H := Option.bind_eq_some_iff.mp H
   obtain ⟨t205, A70, H⟩ := H
   replace H : (if t205 = true then ((spec_l2Project.f k l0_0 l0_1 l0_2 l1).bind fun bt206 => (some (bt206.1, bt206.2.1, bt206.2.2))) else (some (([] : List Int), ([] : List (List Int)), ([] : List Int)))) = some (r1, r2, r3) := H
   have A7 := Aside0.mk A70
   clear A70
   by_cases c8 : t205 = true
   ·subst c8
    have H1 : ((spec_l2Project.f k l0_0 l0_1 l0_2 l1).bind fun bt206 => (some (bt206.1, bt206.2.1, bt206.2.2))) = some (r1, r2, r3) := by rw [if_pos rfl] at H; exact H
    clear H
    have H := H1
    clear H1
    replace H := Option.bind_eq_some_iff.mp H
    obtain ⟨⟨t206, t209, t212⟩, A90, H⟩ := H
    replace H : (some (t206, t209, t212)) = some (r1, r2, r3) := H
    have A9 := Aside0.mk A90
    clear A90
    simp only [Option.some.injEq, Prod.mk.injEq] at H
    obtain ⟨rfl, rfl, rfl⟩ := H
    go_enter Try.func6, Try.ntmps6
    go_wp2_with (first | ((with_reducible refine gate_dst (N := 2) rfl ?_); refine box_event ?hg (N := 2) ?hd (cs := #[.slice A0_0 l0_0.length c0_0, .slice A0_1 l0_1.length c0_1, .slice A0_2 l0_2.length c0_2]) (t := 27) ?hr ?_; (case hd => rfl); (case hg => rfl); (case hr => first | (go_simp; done) | (go_simp; rfl)); intro gb201 hg w10 hbox hb; have n0_ := Aside0.mk (below_step (by repeat (first | (with_reducible first | exact HB.out | apply below_alloc | apply pw_below_drewN | apply below_drew1) | exact HB.out)) hb); have n1_ := Aside0.mk (hbox); have n2_ := Aside0.mk ((by rw [hg]; exact (below_size (by repeat (first | (with_reducible first | exact HB.out | apply below_alloc | apply pw_below_drewN | apply below_drew1) | exact HB.out))) : w.heap.size ≤ gb201)); have n3_ := Aside0.mk ((by rw [hg]; exact (below_size (by repeat (first | (with_reducible first | exact HB.out | apply below_alloc | apply pw_below_drewN | apply below_drew1) | exact HB.out))) : w.heap.size ≤ gb201)); clear HB; have HB := n0_; have BK201 := n1_; have GW201 := n2_; have GE201 := n3_; clear n0_ n1_ n2_ n3_; clear hb hbox hg) | ((with_reducible refine gate_dst (N := 4) rfl ?_); refine box_event ?hg (N := 4) ?hd (cs := #[.slice none 0 0, .slice none 0 0, .slice none 0 0]) (t := 27) ?hr ?_; (case hd => rfl); (case hg => rfl); (case hr => first | (go_simp; done) | (go_simp; rfl)); intro gb202 hg w11 hbox hb; have n0_ := Aside0.mk (blk_below (g := gb201) (o := .cells #[.slice A0_0 l0_0.length c0_0, .slice A0_1 l0_1.length c0_1, .slice A0_2 l0_2.length c0_2] 27 (0, 0)) (by (with_reducible repeat (first | refine blk_drewN ?_ _ | refine blk_drew ?_ | refine blk_alloc ?_ _)); exact BK201.out) hb); have n1_ := Aside0.mk (below_step (by repeat (first | (with_reducible first | exact HB.out | apply below_alloc | apply pw_below_drewN | apply below_drew1 | refine below_set ?_ GE201.out) | exact HB.out)) hb); have n2_ := Aside0.mk (hbox); have n3_ := Aside0.mk ((by rw [hg]; exact (below_size (by repeat (first | (with_reducible first | exact HB.out | apply below_alloc | apply pw_below_drewN | apply below_drew1 | refine below_set ?_ GE201.out) | exact HB.out))) : w.heap.size ≤ gb202)); have n4_ := Aside0.mk ((by rw [hg]; exact (below_size (by repeat (first | (with_reducible first | exact HB.out | apply below_alloc | apply pw_below_drewN | apply below_drew1 | refine below_set ?_ GE201.out) | exact HB.out))) : w.heap.size ≤ gb202)); have n5_ := Aside0.mk ((by rw [hg]; exact Nat.ne_of_lt (blk_lt (g := gb201) (o := .cells #[.slice A0_0 l0_0.length c0_0, .slice A0_1 l0_1.length c0_1, .slice A0_2 l0_2.length c0_2] 27 (0, 0)) (by (with_reducible repeat (first | refine blk_drewN ?_ _ | refine blk_drew ?_ | refine blk_alloc ?_ _)); exact BK201.out)) : gb201 ≠ gb202)); have n6_ := Aside0.mk ((by rw [hg]; exact Nat.ne_of_gt (blk_lt (g := gb201) (o := .cells #[.slice A0_0 l0_0.length c0_0, .slice A0_1 l0_1.length c0_1, .slice A0_2 l0_2.length c0_2] 27 (0, 0)) (by (with_reducible repeat (first | refine blk_drewN ?_ _ | refine blk_drew ?_ | refine blk_alloc ?_ _)); exact BK201.out)) : gb202 ≠ gb201)); clear BK201; clear HB; have BK201 := n0_; have HB := n1_; have BK202 := n2_; have GW202 := n3_; have GE202 := n4_; have NB201_202 := n5_; have NB202_201 := n6_; clear n0_ n1_ n2_ n3_ n4_ n5_ n6_; clear hb hbox hg; have hnb12 := NB201_202.out; have hnc12 := NB202_201.out; have hcz13_0 : w11.cell? ⟨gb201, 0, none⟩ = some (.slice A0_0 l0_0.length c0_0) := (blk_cell BK201.out 0).trans rfl; have hcz13_1 : w11.cell? ⟨gb201, 1, none⟩ = some (.slice A0_1 l0_1.length c0_1) := (blk_cell BK201.out 1).trans rfl; have hcz13_2 : w11.cell? ⟨gb201, 2, none⟩ = some (.slice A0_2 l0_2.length c0_2) := (blk_cell BK201.out 2).trans rfl; have hfz13_0 := blk_frozen BK201.out 0; have hfz13_1 := blk_frozen BK201.out 1; have hfz13_2 := blk_frozen BK201.out 2) | ((with_reducible refine gate_callee (f := 19) rfl ?_); refine goesL_ (some 6) rfl rfl Try.func19 (by kernel_rfl) rfl #[.agg #[.slice A0_0 l0_0.length c0_0, .slice A0_1 l0_1.length c0_1, .slice A0_2 l0_2.length c0_2]] rfl (by (try simp only [List.map_toArray, List.map_cons, List.map_nil]); first | done | rfl | (simp only [List.length_drop, List.length_take]; rfl)) ?_; (with_reducible refine (spec_TableOK.calls k _ _ l0_0 _ _ l0_1 _ _ l0_2 true _ ?side1 ?side2 ?side3 ?side4 ?side5 ?side6 A3.out).mono ?_); (case side1 => repeat (first | exact (Kd.C_below HR0_0.out HB.out) | (with_reducible refine Kd.C_alloc ?_ _) | (with_reducible refine Kd.C_drewN ?_ _) | (with_reducible refine Kd.C_drew ?_))); (case side2 => exact HC0_0.out); (case side3 => repeat (first | exact (Kd.C_below HR0_1.out HB.out) | (with_reducible refine Kd.C_alloc ?_ _) | (with_reducible refine Kd.C_drewN ?_ _) | (with_reducible refine Kd.C_drew ?_))); (case side4 => exact HC0_1.out); (case side5 => repeat (first | exact (Kd.C_below HR0_2.out HB.out) | (with_reducible refine Kd.C_alloc ?_ _) | (with_reducible refine Kd.C_drewN ?_ _) | (with_reducible refine Kd.C_drew ?_))); (case side6 => exact HC0_2.out); rintro e w14 ⟨rfl, hb⟩; refine ⟨_, rfl, ?_⟩; have n0_ := Aside0.mk (blk_below (g := gb201) (o := .cells #[.slice A0_0 l0_0.length c0_0, .slice A0_1 l0_1.length c0_1, .slice A0_2 l0_2.length c0_2] 27 (0, 0)) (by (with_reducible repeat (first | refine blk_drewN ?_ _ | refine blk_drew ?_ | refine blk_alloc ?_ _)); exact BK201.out) hb); have n1_ := Aside0.mk (blk_below (g := gb202) (o := .cells #[.slice none 0 0, .slice none 0 0, .slice none 0 0] 27 (0, 0)) (by (with_reducible repeat (first | refine blk_drewN ?_ _ | refine blk_drew ?_ | refine blk_alloc ?_ _)); exact BK202.out) hb); have n2_ := Aside0.mk (below_step (by repeat (first | (with_reducible first | exact HB.out | apply below_alloc | apply pw_below_drewN | apply below_drew1 | refine below_set ?_ GE201.out | refine below_set ?_ GE202.out) | exact HB.out)) hb); clear BK201; clear BK202; clear HB; have BK201 := n0_; have BK202 := n1_; have HB := n2_; clear n0_ n1_ n2_; (try clear hb); (try clear hb2); (try clear hk); (try clear hi)) | (go_at_call 20; (with_reducible refine (spec_l1SetOK.calls k _ _ l1 6 true _ ?side1 ?side2 A5.out).mono ?_); (case side1 => repeat (first | exact (Kd.C_below HR1.out HB.out) | (with_reducible refine Kd.C_alloc ?_ _) | (with_reducible refine Kd.C_drewN ?_ _) | (with_reducible refine Kd.C_drew ?_))); (case side2 => exact HC1.out); rintro e w' ⟨rfl, ⟨nd, rfl⟩⟩; (try (rw [drewN_self w14]; generalize hq_ : World.drewN w14 _ = w14; have n0_ : Aside0 (w14.heap[gb201]? = some (.cells #[.slice A0_0 l0_0.length c0_0, .slice A0_1 l0_1.length c0_1, .slice A0_2 l0_2.length c0_2] 27 (0, 0))) := ⟨by rw [← hq_]; exact (by (with_reducible repeat (first | refine blk_drewN ?_ _ | refine blk_drew ?_ | refine blk_alloc ?_ _)); exact BK201.out)⟩; have n1_ : Aside0 (w14.heap[gb202]? = some (.cells #[.slice none 0 0, .slice none 0 0, .slice none 0 0] 27 (0, 0))) := ⟨by rw [← hq_]; exact (by (with_reducible repeat (first | refine blk_drewN ?_ _ | refine blk_drew ?_ | refine blk_alloc ?_ _)); exact BK202.out)⟩; have n2_ : Aside0 (Below w.heap.size w w14) := ⟨by rw [← hq_]; exact (by repeat (first | (with_reducible first | exact HB.out | apply below_alloc | apply pw_below_drewN | apply below_drew1 | refine below_set ?_ GE201.out | refine below_set ?_ GE202.out) | exact HB.out))⟩; clear BK201 BK202 HB hq_; have BK201 := n0_; have BK202 := n1_; have HB := n2_; clear n0_ n1_ n2_)); have hcz15_0 : w14.cell? ⟨gb201, 0, none⟩ = some (.slice A0_0 l0_0.length c0_0) := (blk_cell BK201.out 0).trans rfl; have hcz15_1 : w14.cell? ⟨gb201, 1, none⟩ = some (.slice A0_1 l0_1.length c0_1) := (blk_cell BK201.out 1).trans rfl; have hcz15_2 : w14.cell? ⟨gb201, 2, none⟩ = some (.slice A0_2 l0_2.length c0_2) := (blk_cell BK201.out 2).trans rfl; have hfz15_0 := blk_frozen BK201.out 0; have hfz15_1 := blk_frozen BK201.out 1; have hfz15_2 := blk_frozen BK201.out 2) | (go_at_call 21; (with_reducible refine (spec_l2Subset.calls k _ _ l1 _ _ l0_0 true _ ?side1 ?side2 ?side3 ?side4 A7.out).mono ?_); (case side1 => repeat (first | exact (Kd.C_below HR1.out HB.out) | (with_reducible refine Kd.C_alloc ?_ _) | (with_reducible refine Kd.C_drewN ?_ _) | (with_reducible refine Kd.C_drew ?_))); (case side2 => exact HC1.out); (case side3 => repeat (first | exact (Kd.C_below HR0_0.out HB.out) | (with_reducible refine Kd.C_alloc ?_ _) | (with_reducible refine Kd.C_drewN ?_ _) | (with_reducible refine Kd.C_drew ?_))); (case side4 => exact HC0_0.out); rintro e w' ⟨rfl, ⟨nd, rfl⟩⟩; (try (rw [drewN_self w14]; generalize hq_ : World.drewN w14 _ = w14; have n0_ : Aside0 (w14.heap[gb201]? = some (.cells #[.slice A0_0 l0_0.length c0_0, .slice A0_1 l0_1.length c0_1, .slice A0_2 l0_2.length c0_2] 27 (0, 0))) := ⟨by rw [← hq_]; exact (by (with_reducible repeat (first | refine blk_drewN ?_ _ | refine blk_drew ?_ | refine blk_alloc ?_ _)); exact BK201.out)⟩; have n1_ : Aside0 (w14.heap[gb202]? = some (.cells #[.slice none 0 0, .slice none 0 0, .slice none 0 0] 27 (0, 0))) := ⟨by rw [← hq_]; exact (by (with_reducible repeat (first | refine blk_drewN ?_ _ | refine blk_drew ?_ | refine blk_alloc ?_ _)); exact BK202.out)⟩; have n2_ : Aside0 (Below w.heap.size w w14) := ⟨by rw [← hq_]; exact (by repeat (first | (with_reducible first | exact HB.out | apply below_alloc | apply pw_below_drewN | apply below_drew1 | refine below_set ?_ GE201.out | refine below_set ?_ GE202.out) | exact HB.out))⟩; clear BK201 BK202 HB hq_; have BK201 := n0_; have BK202 := n1_; have HB := n2_; clear n0_ n1_ n2_)); have hcz15_0 : w14.cell? ⟨gb201, 0, none⟩ = some (.slice A0_0 l0_0.length c0_0) := (blk_cell BK201.out 0).trans rfl; have hcz15_1 : w14.cell? ⟨gb201, 1, none⟩ = some (.slice A0_1 l0_1.length c0_1) := (blk_cell BK201.out 1).trans rfl; have hcz15_2 : w14.cell? ⟨gb201, 2, none⟩ = some (.slice A0_2 l0_2.length c0_2) := (blk_cell BK201.out 2).trans rfl; have hfz15_0 := blk_frozen BK201.out 0; have hfz15_1 := blk_frozen BK201.out 1; have hfz15_2 := blk_frozen BK201.out 2) | ((with_reducible refine gate_callee (f := 22) rfl ?_); refine goesL_ (some 23) rfl rfl Try.func22 (by kernel_rfl) rfl #[.agg #[.slice A0_0 l0_0.length c0_0, .slice A0_1 l0_1.length c0_1, .slice A0_2 l0_2.length c0_2], .slice A1 l1.length c1] rfl (by (try simp only [List.map_toArray, List.map_cons, List.map_nil]); first | done | rfl | (simp only [List.length_drop, List.length_take]; rfl)) ?_; (with_reducible refine (spec_l2Project.calls k _ _ l0_0 _ _ l0_1 _ _ l0_2 _ _ l1 t206 t209 t212 _ ?side1 ?side2 ?side3 ?side4 ?side5 ?side6 ?side7 ?side8 A9.out).mono ?_); (case side1 => repeat (first | exact (Kd.C_below HR0_0.out HB.out) | (with_reducible refine Kd.C_alloc ?_ _) | (with_reducible refine Kd.C_drewN ?_ _) | (with_reducible refine Kd.C_drew ?_))); (case side2 => exact HC0_0.out); (case side3 => repeat (first | exact (Kd.C_below HR0_1.out HB.out) | (with_reducible refine Kd.C_alloc ?_ _) | (with_reducible refine Kd.C_drewN ?_ _) | (with_reducible refine Kd.C_drew ?_))); (case side4 => exact HC0_1.out); (case side5 => repeat (first | exact (Kd.C_below HR0_2.out HB.out) | (with_reducible refine Kd.C_alloc ?_ _) | (with_reducible refine Kd.C_drewN ?_ _) | (with_reducible refine Kd.C_drew ?_))); (case side6 => exact HC0_2.out); (case side7 => repeat (first | exact (Kd.C_below HR1.out HB.out) | (with_reducible refine Kd.C_alloc ?_ _) | (with_reducible refine Kd.C_drewN ?_ _) | (with_reducible refine Kd.C_drew ?_))); (case side8 => exact HC1.out); rintro e w16 ⟨v207, v210, v213, rfl, ho0, ho1, ho2, hb⟩; refine ⟨_, rfl, ?_⟩; have n0_ := Aside0.mk (Kd.R_lower (Kd.R_newM (M := fun k_ => (w.heap.size ≤ k_)) (Kd.R_mono (ok' := fun k_ => some k_ ≠ (v213 : Value).ownBlock) ho0 (fun _ hk_ => hk_.2)) (below_size (by repeat (first | (with_reducible first | exact HB.out | apply below_alloc | apply pw_below_drewN | apply below_drew1 | refine below_set ?_ GE201.out | refine below_set ?_ GE202.out) | exact HB.out))) (fun k_ h_ => h_)) (below_size (by repeat (first | (with_reducible first | exact HB.out | apply below_alloc | apply pw_below_drewN | apply below_drew1 | refine below_set ?_ GE201.out | refine below_set ?_ GE202.out) | exact HB.out)))); have n1_ := Aside0.mk (Kd.V_lower (Kd.V_mono (ok' := fun k_ => (w.heap.size ≤ k_) ∧ some k_ ≠ (v207 : Value).ownBlock ∧ some k_ ≠ (v213 : Value).ownBlock ∧ k_ ≠ gb201 ∧ k_ ≠ gb202) ho1 (fun k_ hk_ => ⟨(Nat.le_trans (below_size (by repeat (first | (with_reducible first | exact HB.out | apply below_alloc | apply pw_below_drewN | apply below_drew1 | refine below_set ?_ GE201.out | refine below_set ?_ GE202.out) | exact HB.out))) hk_.1), hk_.2.1, hk_.2.2, (Kd.freshB (g := gb201) (o := .cells #[.slice A0_0 l0_0.length c0_0, .slice A0_1 l0_1.length c0_1, .slice A0_2 l0_2.length c0_2] 27 (0, 0)) (by (with_reducible repeat (first | refine blk_drewN ?_ _ | refine blk_drew ?_ | refine blk_alloc ?_ _)); exact BK201.out) k_ hk_.1), (Kd.freshB (g := gb202) (o := .cells #[.slice none 0 0, .slice none 0 0, .slice none 0 0] 27 (0, 0)) (by (with_reducible repeat (first | refine blk_drewN ?_ _ | refine blk_drew ?_ | refine blk_alloc ?_ _)); exact BK202.out) k_ hk_.1)⟩)) (below_size (by repeat (first | (with_reducible first | exact HB.out | apply below_alloc | apply pw_below_drewN | apply below_drew1 | refine below_set ?_ GE201.out | refine below_set ?_ GE202.out) | exact HB.out)))); have n2_ := Aside0.mk (Kd.R_lower (Kd.R_newM (M := fun k_ => (w.heap.size ≤ k_)) (Kd.R_mono (ok' := fun k_ => some k_ ≠ (v207 : Value).ownBlock) ho2 (fun _ hk_ => hk_.2)) (below_size (by repeat (first | (with_reducible first | exact HB.out | apply below_alloc | apply pw_below_drewN | apply below_drew1 | refine below_set ?_ GE201.out | refine below_set ?_ GE202.out) | exact HB.out))) (fun k_ h_ => h_)) (below_size (by repeat (first | (with_reducible first | exact HB.out | apply below_alloc | apply pw_below_drewN | apply below_drew1 | refine below_set ?_ GE201.out | refine below_set ?_ GE202.out) | exact HB.out)))); have n3_ := Aside0.mk (blk_below (g := gb201) (o := .cells #[.slice A0_0 l0_0.length c0_0, .slice A0_1 l0_1.length c0_1, .slice A0_2 l0_2.length c0_2] 27 (0, 0)) (by (with_reducible repeat (first | refine blk_drewN ?_ _ | refine blk_drew ?_ | refine blk_alloc ?_ _)); exact BK201.out) hb); have n4_ := Aside0.mk (blk_below (g := gb202) (o := .cells #[.slice none 0 0, .slice none 0 0, .slice none 0 0] 27 (0, 0)) (by (with_reducible repeat (first | refine blk_drewN ?_ _ | refine blk_drew ?_ | refine blk_alloc ?_ _)); exact BK202.out) hb); have n5_ := Aside0.mk (below_step (by repeat (first | (with_reducible first | exact HB.out | apply below_alloc | apply pw_below_drewN | apply below_drew1 | refine below_set ?_ GE201.out | refine below_set ?_ GE202.out) | exact HB.out)) hb); clear BK201; clear BK202; clear HB; have HO208 := n0_; have HO211 := n1_; have HO214 := n2_; have BK201 := n3_; have BK202 := n4_; have HB := n5_; clear n0_ n1_ n2_ n3_ n4_ n5_; (try clear hb); (try clear hb2); (try clear hk); (try clear hi); (try clear ho0); (try clear ho1); (try clear ho2); obtain ⟨Ao17, co17, eo17⟩ := Kd.R_slice HO208.out; subst eo17; have hcz18_0 : w16.cell? ⟨gb202, 0, none⟩ = some (.slice none 0 0) := (blk_cell BK202.out 0).trans rfl; have hcz18_1 : w16.cell? ⟨gb202, 1, none⟩ = some (.slice none 0 0) := (blk_cell BK202.out 1).trans rfl; have hcz18_2 : w16.cell? ⟨gb202, 2, none⟩ = some (.slice none 0 0) := (blk_cell BK202.out 2).trans rfl; have hfz18_0 := blk_frozen BK202.out 0; have hfz18_1 := blk_frozen BK202.out 1; have hfz18_2 := blk_frozen BK202.out 2; obtain ⟨Ao19, co19, eo19⟩ := Kd.V_slice HO211.out; subst eo19; obtain ⟨Ao20, co20, eo20⟩ := Kd.R_slice HO214.out; subst eo20))
    refine bodyPost_ret (results_cell_row rfl _ _ gb202 27 #[.slice Ao17 t206.length co17, .slice Ao19 t209.length co19, .slice Ao20 t212.length co20] (0, 0) _ rfl (by (with_reducible repeat (first | refine blk_drewN ?_ _ | refine blk_drew ?_ | refine blk_alloc ?_ _)); refine blk_put (cs := #[.slice Ao17 t206.length co17, .slice Ao19 t209.length co19, .slice none 0 0]) ?_ 2 _ rfl; (with_reducible repeat (first | refine blk_drewN ?_ _ | refine blk_drew ?_ | refine blk_alloc ?_ _)); refine blk_put (cs := #[.slice Ao17 t206.length co17, .slice none 0 0, .slice none 0 0]) ?_ 1 _ rfl; (with_reducible repeat (first | refine blk_drewN ?_ _ | refine blk_drew ?_ | refine blk_alloc ?_ _)); refine blk_put (cs := #[.slice none 0 0, .slice none 0 0, .slice none 0 0]) ?_ 0 _ rfl; (with_reducible repeat (first | refine blk_drewN ?_ _ | refine blk_drew ?_ | refine blk_alloc ?_ _)); exact BK202.out) Try.underlying27 rfl (by kernel_rfl)) rfl ?_
    exact ⟨_, _, _, by first | rfl | (simp [errW_none, errW_some] <;> rfl) | (simp [*, errW_none, errW_some] <;> rfl), by (with_reducible repeat (first | apply Kd.R_alloc | apply Kd.R_drewN | apply Kd.R_drew)); exact Kd.R_mono (Kd.R_far (p := ⟨gb202, 2, none⟩) (Kd.R_far (p := ⟨gb202, 1, none⟩) (Kd.R_far (p := ⟨gb202, 0, none⟩) (Kd.R_types HO208.out BK202.out (by decide)) (fun _ hk => hk.2) (.slice Ao17 t206.length co17)) (fun _ hk => hk.2) (.slice Ao19 t209.length co19)) (fun _ hk => hk.2) (.slice Ao20 t212.length co20)) (fun _ hk => ⟨hk.1.1, hk.1.2⟩), by (with_reducible repeat (first | apply Kd.V_alloc | apply Kd.V_drewN | apply Kd.V_drew)); exact Kd.V_mono (Kd.V_far (p := ⟨gb202, 2, none⟩) (Kd.V_far (p := ⟨gb202, 1, none⟩) (Kd.V_far (p := ⟨gb202, 0, none⟩) (Kd.V_mono HO211.out (fun k_ hk => (⟨hk, hk.2.2.2.2⟩ : _ ∧ k_ ≠ gb202))) (fun _ hk => hk.2) (.slice Ao17 t206.length co17)) (fun _ hk => hk.2) (.slice Ao19 t209.length co19)) (fun _ hk => hk.2) (.slice Ao20 t212.length co20)) (fun _ hk => ⟨hk.1.1, ⟨hk.1.2.1, hk.1.2.2.1⟩⟩), by (with_reducible repeat (first | apply Kd.R_alloc | apply Kd.R_drewN | apply Kd.R_drew)); exact Kd.R_mono (Kd.R_far (p := ⟨gb202, 2, none⟩) (Kd.R_far (p := ⟨gb202, 1, none⟩) (Kd.R_far (p := ⟨gb202, 0, none⟩) (Kd.R_types HO214.out BK202.out (by decide)) (fun _ hk => hk.2) (.slice Ao17 t206.length co17)) (fun _ hk => hk.2) (.slice Ao19 t209.length co19)) (fun _ hk => hk.2) (.slice Ao20 t212.length co20)) (fun _ hk => ⟨hk.1.1, hk.1.2⟩), by repeat (first | (with_reducible first | exact HB.out | apply below_alloc | apply pw_below_drewN | apply below_drew1 | refine below_set ?_ GE201.out | refine below_set ?_ GE202.out) | exact HB.out)⟩
   ·replace c8 := Bool.eq_false_iff.mpr c8
    subst c8
    have H1 : (some (([] : List Int), ([] : List (List Int)), ([] : List Int))) = some (r1, r2, r3) := by rw [if_neg (show ¬ (false = true) by decide)] at H; exact H
    clear H
    have H := H1
    clear H1
    simp only [Option.some.injEq, Prod.mk.injEq] at H
    obtain ⟨rfl, rfl, rfl⟩ := H
    go_enter Try.func6, Try.ntmps6
    go_wp2_with (first | ((with_reducible refine gate_dst (N := 2) rfl ?_); refine box_event ?hg (N := 2) ?hd (cs := #[.slice A0_0 l0_0.length c0_0, .slice A0_1 l0_1.length c0_1, .slice A0_2 l0_2.length c0_2]) (t := 27) ?hr ?_; (case hd => rfl); (case hg => rfl); (case hr => first | (go_simp; done) | (go_simp; rfl)); intro gb201 hg w21 hbox hb; have n0_ := Aside0.mk (below_step (by repeat (first | (with_reducible first | exact HB.out | apply below_alloc | apply pw_below_drewN | apply below_drew1) | exact HB.out)) hb); have n1_ := Aside0.mk (hbox); have n2_ := Aside0.mk ((by rw [hg]; exact (below_size (by repeat (first | (with_reducible first | exact HB.out | apply below_alloc | apply pw_below_drewN | apply below_drew1) | exact HB.out))) : w.heap.size ≤ gb201)); have n3_ := Aside0.mk ((by rw [hg]; exact (below_size (by repeat (first | (with_reducible first | exact HB.out | apply below_alloc | apply pw_below_drewN | apply below_drew1) | exact HB.out))) : w.heap.size ≤ gb201)); clear HB; have HB := n0_; have BK201 := n1_; have GW201 := n2_; have GE201 := n3_; clear n0_ n1_ n2_ n3_; clear hb hbox hg) | ((with_reducible refine gate_dst (N := 4) rfl ?_); refine box_event ?hg (N := 4) ?hd (cs := #[.slice none 0 0, .slice none 0 0, .slice none 0 0]) (t := 27) ?hr ?_; (case hd => rfl); (case hg => rfl); (case hr => first | (go_simp; done) | (go_simp; rfl)); intro gb202 hg w22 hbox hb; have n0_ := Aside0.mk (blk_below (g := gb201) (o := .cells #[.slice A0_0 l0_0.length c0_0, .slice A0_1 l0_1.length c0_1, .slice A0_2 l0_2.length c0_2] 27 (0, 0)) (by (with_reducible repeat (first | refine blk_drewN ?_ _ | refine blk_drew ?_ | refine blk_alloc ?_ _)); exact BK201.out) hb); have n1_ := Aside0.mk (below_step (by repeat (first | (with_reducible first | exact HB.out | apply below_alloc | apply pw_below_drewN | apply below_drew1 | refine below_set ?_ GE201.out) | exact HB.out)) hb); have n2_ := Aside0.mk (hbox); have n3_ := Aside0.mk ((by rw [hg]; exact (below_size (by repeat (first | (with_reducible first | exact HB.out | apply below_alloc | apply pw_below_drewN | apply below_drew1 | refine below_set ?_ GE201.out) | exact HB.out))) : w.heap.size ≤ gb202)); have n4_ := Aside0.mk ((by rw [hg]; exact (below_size (by repeat (first | (with_reducible first | exact HB.out | apply below_alloc | apply pw_below_drewN | apply below_drew1 | refine below_set ?_ GE201.out) | exact HB.out))) : w.heap.size ≤ gb202)); have n5_ := Aside0.mk ((by rw [hg]; exact Nat.ne_of_lt (blk_lt (g := gb201) (o := .cells #[.slice A0_0 l0_0.length c0_0, .slice A0_1 l0_1.length c0_1, .slice A0_2 l0_2.length c0_2] 27 (0, 0)) (by (with_reducible repeat (first | refine blk_drewN ?_ _ | refine blk_drew ?_ | refine blk_alloc ?_ _)); exact BK201.out)) : gb201 ≠ gb202)); have n6_ := Aside0.mk ((by rw [hg]; exact Nat.ne_of_gt (blk_lt (g := gb201) (o := .cells #[.slice A0_0 l0_0.length c0_0, .slice A0_1 l0_1.length c0_1, .slice A0_2 l0_2.length c0_2] 27 (0, 0)) (by (with_reducible repeat (first | refine blk_drewN ?_ _ | refine blk_drew ?_ | refine blk_alloc ?_ _)); exact BK201.out)) : gb202 ≠ gb201)); clear BK201; clear HB; have BK201 := n0_; have HB := n1_; have BK202 := n2_; have GW202 := n3_; have GE202 := n4_; have NB201_202 := n5_; have NB202_201 := n6_; clear n0_ n1_ n2_ n3_ n4_ n5_ n6_; clear hb hbox hg; have hnb23 := NB201_202.out; have hnc23 := NB202_201.out; have hcz24_0 : w22.cell? ⟨gb201, 0, none⟩ = some (.slice A0_0 l0_0.length c0_0) := (blk_cell BK201.out 0).trans rfl; have hcz24_1 : w22.cell? ⟨gb201, 1, none⟩ = some (.slice A0_1 l0_1.length c0_1) := (blk_cell BK201.out 1).trans rfl; have hcz24_2 : w22.cell? ⟨gb201, 2, none⟩ = some (.slice A0_2 l0_2.length c0_2) := (blk_cell BK201.out 2).trans rfl; have hfz24_0 := blk_frozen BK201.out 0; have hfz24_1 := blk_frozen BK201.out 1; have hfz24_2 := blk_frozen BK201.out 2) | ((with_reducible refine gate_callee (f := 19) rfl ?_); refine goesL_ (some 6) rfl rfl Try.func19 (by kernel_rfl) rfl #[.agg #[.slice A0_0 l0_0.length c0_0, .slice A0_1 l0_1.length c0_1, .slice A0_2 l0_2.length c0_2]] rfl (by (try simp only [List.map_toArray, List.map_cons, List.map_nil]); first | done | rfl | (simp only [List.length_drop, List.length_take]; rfl)) ?_; (with_reducible refine (spec_TableOK.calls k _ _ l0_0 _ _ l0_1 _ _ l0_2 true _ ?side1 ?side2 ?side3 ?side4 ?side5 ?side6 A3.out).mono ?_); (case side1 => repeat (first | exact (Kd.C_below HR0_0.out HB.out) | (with_reducible refine Kd.C_alloc ?_ _) | (with_reducible refine Kd.C_drewN ?_ _) | (with_reducible refine Kd.C_drew ?_))); (case side2 => exact HC0_0.out); (case side3 => repeat (first | exact (Kd.C_below HR0_1.out HB.out) | (with_reducible refine Kd.C_alloc ?_ _) | (with_reducible refine Kd.C_drewN ?_ _) | (with_reducible refine Kd.C_drew ?_))); (case side4 => exact HC0_1.out); (case side5 => repeat (first | exact (Kd.C_below HR0_2.out HB.out) | (with_reducible refine Kd.C_alloc ?_ _) | (with_reducible refine Kd.C_drewN ?_ _) | (with_reducible refine Kd.C_drew ?_))); (case side6 => exact HC0_2.out); rintro e w25 ⟨rfl, hb⟩; refine ⟨_, rfl, ?_⟩; have n0_ := Aside0.mk (blk_below (g := gb201) (o := .cells #[.slice A0_0 l0_0.length c0_0, .slice A0_1 l0_1.length c0_1, .slice A0_2 l0_2.length c0_2] 27 (0, 0)) (by (with_reducible repeat (first | refine blk_drewN ?_ _ | refine blk_drew ?_ | refine blk_alloc ?_ _)); exact BK201.out) hb); have n1_ := Aside0.mk (blk_below (g := gb202) (o := .cells #[.slice none 0 0, .slice none 0 0, .slice none 0 0] 27 (0, 0)) (by (with_reducible repeat (first | refine blk_drewN ?_ _ | refine blk_drew ?_ | refine blk_alloc ?_ _)); exact BK202.out) hb); have n2_ := Aside0.mk (below_step (by repeat (first | (with_reducible first | exact HB.out | apply below_alloc | apply pw_below_drewN | apply below_drew1 | refine below_set ?_ GE201.out | refine below_set ?_ GE202.out) | exact HB.out)) hb); clear BK201; clear BK202; clear HB; have BK201 := n0_; have BK202 := n1_; have HB := n2_; clear n0_ n1_ n2_; (try clear hb); (try clear hb2); (try clear hk); (try clear hi)) | (go_at_call 20; (with_reducible refine (spec_l1SetOK.calls k _ _ l1 6 true _ ?side1 ?side2 A5.out).mono ?_); (case side1 => repeat (first | exact (Kd.C_below HR1.out HB.out) | (with_reducible refine Kd.C_alloc ?_ _) | (with_reducible refine Kd.C_drewN ?_ _) | (with_reducible refine Kd.C_drew ?_))); (case side2 => exact HC1.out); rintro e w' ⟨rfl, ⟨nd, rfl⟩⟩; (try (rw [drewN_self w25]; generalize hq_ : World.drewN w25 _ = w25; have n0_ : Aside0 (w25.heap[gb201]? = some (.cells #[.slice A0_0 l0_0.length c0_0, .slice A0_1 l0_1.length c0_1, .slice A0_2 l0_2.length c0_2] 27 (0, 0))) := ⟨by rw [← hq_]; exact (by (with_reducible repeat (first | refine blk_drewN ?_ _ | refine blk_drew ?_ | refine blk_alloc ?_ _)); exact BK201.out)⟩; have n1_ : Aside0 (w25.heap[gb202]? = some (.cells #[.slice none 0 0, .slice none 0 0, .slice none 0 0] 27 (0, 0))) := ⟨by rw [← hq_]; exact (by (with_reducible repeat (first | refine blk_drewN ?_ _ | refine blk_drew ?_ | refine blk_alloc ?_ _)); exact BK202.out)⟩; have n2_ : Aside0 (Below w.heap.size w w25) := ⟨by rw [← hq_]; exact (by repeat (first | (with_reducible first | exact HB.out | apply below_alloc | apply pw_below_drewN | apply below_drew1 | refine below_set ?_ GE201.out | refine below_set ?_ GE202.out) | exact HB.out))⟩; clear BK201 BK202 HB hq_; have BK201 := n0_; have BK202 := n1_; have HB := n2_; clear n0_ n1_ n2_)); have hcz26_0 : w25.cell? ⟨gb201, 0, none⟩ = some (.slice A0_0 l0_0.length c0_0) := (blk_cell BK201.out 0).trans rfl; have hcz26_1 : w25.cell? ⟨gb201, 1, none⟩ = some (.slice A0_1 l0_1.length c0_1) := (blk_cell BK201.out 1).trans rfl; have hcz26_2 : w25.cell? ⟨gb201, 2, none⟩ = some (.slice A0_2 l0_2.length c0_2) := (blk_cell BK201.out 2).trans rfl; have hfz26_0 := blk_frozen BK201.out 0; have hfz26_1 := blk_frozen BK201.out 1; have hfz26_2 := blk_frozen BK201.out 2) | (go_at_call 21; (with_reducible refine (spec_l2Subset.calls k _ _ l1 _ _ l0_0 false _ ?side1 ?side2 ?side3 ?side4 A7.out).mono ?_); (case side1 => repeat (first | exact (Kd.C_below HR1.out HB.out) | (with_reducible refine Kd.C_alloc ?_ _) | (with_reducible refine Kd.C_drewN ?_ _) | (with_reducible refine Kd.C_drew ?_))); (case side2 => exact HC1.out); (case side3 => repeat (first | exact (Kd.C_below HR0_0.out HB.out) | (with_reducible refine Kd.C_alloc ?_ _) | (with_reducible refine Kd.C_drewN ?_ _) | (with_reducible refine Kd.C_drew ?_))); (case side4 => exact HC0_0.out); rintro e w' ⟨rfl, ⟨nd, rfl⟩⟩; (try (rw [drewN_self w25]; generalize hq_ : World.drewN w25 _ = w25; have n0_ : Aside0 (w25.heap[gb201]? = some (.cells #[.slice A0_0 l0_0.length c0_0, .slice A0_1 l0_1.length c0_1, .slice A0_2 l0_2.length c0_2] 27 (0, 0))) := ⟨by rw [← hq_]; exact (by (with_reducible repeat (first | refine blk_drewN ?_ _ | refine blk_drew ?_ | refine blk_alloc ?_ _)); exact BK201.out)⟩; have n1_ : Aside0 (w25.heap[gb202]? = some (.cells #[.slice none 0 0, .slice none 0 0, .slice none 0 0] 27 (0, 0))) := ⟨by rw [← hq_]; exact (by (with_reducible repeat (first | refine blk_drewN ?_ _ | refine blk_drew ?_ | refine blk_alloc ?_ _)); exact BK202.out)⟩; have n2_ : Aside0 (Below w.heap.size w w25) := ⟨by rw [← hq_]; exact (by repeat (first | (with_reducible first | exact HB.out | apply below_alloc | apply pw_below_drewN | apply below_drew1 | refine below_set ?_ GE201.out | refine below_set ?_ GE202.out) | exact HB.out))⟩; clear BK201 BK202 HB hq_; have BK201 := n0_; have BK202 := n1_; have HB := n2_; clear n0_ n1_ n2_)); have hcz27_0 : w25.cell? ⟨gb202, 0, none⟩ = some (.slice none 0 0) := (blk_cell BK202.out 0).trans rfl; have hcz27_1 : w25.cell? ⟨gb202, 1, none⟩ = some (.slice none 0 0) := (blk_cell BK202.out 1).trans rfl; have hcz27_2 : w25.cell? ⟨gb202, 2, none⟩ = some (.slice none 0 0) := (blk_cell BK202.out 2).trans rfl; have hfz27_0 := blk_frozen BK202.out 0; have hfz27_1 := blk_frozen BK202.out 1; have hfz27_2 := blk_frozen BK202.out 2))
    refine bodyPost_ret (results_cell_row rfl _ _ gb202 27 #[.slice none 0 0, .slice none 0 0, .slice none 0 0] (0, 0) _ rfl (by (with_reducible repeat (first | refine blk_drewN ?_ _ | refine blk_drew ?_ | refine blk_alloc ?_ _)); refine blk_put (cs := #[.slice none 0 0, .slice none 0 0, .slice none 0 0]) ?_ 2 _ rfl; (with_reducible repeat (first | refine blk_drewN ?_ _ | refine blk_drew ?_ | refine blk_alloc ?_ _)); refine blk_put (cs := #[.slice none 0 0, .slice none 0 0, .slice none 0 0]) ?_ 1 _ rfl; (with_reducible repeat (first | refine blk_drewN ?_ _ | refine blk_drew ?_ | refine blk_alloc ?_ _)); refine blk_put (cs := #[.slice none 0 0, .slice none 0 0, .slice none 0 0]) ?_ 0 _ rfl; (with_reducible repeat (first | refine blk_drewN ?_ _ | refine blk_drew ?_ | refine blk_alloc ?_ _)); exact BK202.out) Try.underlying27 rfl (by kernel_rfl)) rfl ?_
    exact ⟨_, _, _, by first | rfl | (simp [errW_none, errW_some] <;> rfl) | (simp [*, errW_none, errW_some] <;> rfl), by first | exact Kd.R_nil _ _ _ _ _ | exact Kd.N_nil _ _ _ _ _ | exact Kd.V_nil _ _ _ _ _ | exact Kd.Q_nil _ _ _ _ _ | exact Kd.S_nil _ _ _ _ _, Kd.V_nil _ _ _ _ _, by first | exact Kd.R_nil _ _ _ _ _ | exact Kd.N_nil _ _ _ _ _ | exact Kd.V_nil _ _ _ _ _ | exact Kd.Q_nil _ _ _ _ _ | exact Kd.S_nil _ _ _ _ _, by repeat (first | (with_reducible first | exact HB.out | apply below_alloc | apply pw_below_drewN | apply below_drew1 | refine below_set ?_ GE201.out | refine below_set ?_ GE202.out) | exact HB.out)⟩
  ·replace c6 := Bool.eq_false_iff.mpr c6
   subst c6
   have H1 : (some (([] : List Int), ([] : List (List Int)), ([] : List Int))) = some (r1, r2, r3) := by rw [if_neg (show ¬ (false = true) by decide)] at H; exact H
   clear H
   have H := H1
   clear H1
   simp only [Option.some.injEq, Prod.mk.injEq] at H
   obtain ⟨rfl, rfl, rfl⟩ := H
   go_enter Try.func6, Try.ntmps6
   go_wp2_with (first | ((with_reducible refine gate_dst (N := 2) rfl ?_); refine box_event ?hg (N := 2) ?hd (cs := #[.slice A0_0 l0_0.length c0_0, .slice A0_1 l0_1.length c0_1, .slice A0_2 l0_2.length c0_2]) (t := 27) ?hr ?_; (case hd => rfl); (case hg => rfl); (case hr => first | (go_simp; done) | (go_simp; rfl)); intro gb201 hg w28 hbox hb; have n0_ := Aside0.mk (below_step (by repeat (first | (with_reducible first | exact HB.out | apply below_alloc | apply pw_below_drewN | apply below_drew1) | exact HB.out)) hb); have n1_ := Aside0.mk (hbox); have n2_ := Aside0.mk ((by rw [hg]; exact (below_size (by repeat (first | (with_reducible first | exact HB.out | apply below_alloc | apply pw_below_drewN | apply below_drew1) | exact HB.out))) : w.heap.size ≤ gb201)); have n3_ := Aside0.mk ((by rw [hg]; exact (below_size (by repeat (first | (with_reducible first | exact HB.out | apply below_alloc | apply pw_below_drewN | apply below_drew1) | exact HB.out))) : w.heap.size ≤ gb201)); clear HB; have HB := n0_; have BK201 := n1_; have GW201 := n2_; have GE201 := n3_; clear n0_ n1_ n2_ n3_; clear hb hbox hg) | ((with_reducible refine gate_dst (N := 4) rfl ?_); refine box_event ?hg (N := 4) ?hd (cs := #[.slice none 0 0, .slice none 0 0, .slice none 0 0]) (t := 27) ?hr ?_; (case hd => rfl); (case hg => rfl); (case hr => first | (go_simp; done) | (go_simp; rfl)); intro gb202 hg w29 hbox hb; have n0_ := Aside0.mk (blk_below (g := gb201) (o := .cells #[.slice A0_0 l0_0.length c0_0, .slice A0_1 l0_1.length c0_1, .slice A0_2 l0_2.length c0_2] 27 (0, 0)) (by (with_reducible repeat (first | refine blk_drewN ?_ _ | refine blk_drew ?_ | refine blk_alloc ?_ _)); exact BK201.out) hb); have n1_ := Aside0.mk (below_step (by repeat (first | (with_reducible first | exact HB.out | apply below_alloc | apply pw_below_drewN | apply below_drew1 | refine below_set ?_ GE201.out) | exact HB.out)) hb); have n2_ := Aside0.mk (hbox); have n3_ := Aside0.mk ((by rw [hg]; exact (below_size (by repeat (first | (with_reducible first | exact HB.out | apply below_alloc | apply pw_below_drewN | apply below_drew1 | refine below_set ?_ GE201.out) | exact HB.out))) : w.heap.size ≤ gb202)); have n4_ := Aside0.mk ((by rw [hg]; exact (below_size (by repeat (first | (with_reducible first | exact HB.out | apply below_alloc | apply pw_below_drewN | apply below_drew1 | refine below_set ?_ GE201.out) | exact HB.out))) : w.heap.size ≤ gb202)); have n5_ := Aside0.mk ((by rw [hg]; exact Nat.ne_of_lt (blk_lt (g := gb201) (o := .cells #[.slice A0_0 l0_0.length c0_0, .slice A0_1 l0_1.length c0_1, .slice A0_2 l0_2.length c0_2] 27 (0, 0)) (by (with_reducible repeat (first | refine blk_drewN ?_ _ | refine blk_drew ?_ | refine blk_alloc ?_ _)); exact BK201.out)) : gb201 ≠ gb202)); have n6_ := Aside0.mk ((by rw [hg]; exact Nat.ne_of_gt (blk_lt (g := gb201) (o := .cells #[.slice A0_0 l0_0.length c0_0, .slice A0_1 l0_1.length c0_1, .slice A0_2 l0_2.length c0_2] 27 (0, 0)) (by (with_reducible repeat (first | refine blk_drewN ?_ _ | refine blk_drew ?_ | refine blk_alloc ?_ _)); exact BK201.out)) : gb202 ≠ gb201)); clear BK201; clear HB; have BK201 := n0_; have HB := n1_; have BK202 := n2_; have GW202 := n3_; have GE202 := n4_; have NB201_202 := n5_; have NB202_201 := n6_; clear n0_ n1_ n2_ n3_ n4_ n5_ n6_; clear hb hbox hg; have hnb30 := NB201_202.out; have hnc30 := NB202_201.out; have hcz31_0 : w29.cell? ⟨gb201, 0, none⟩ = some (.slice A0_0 l0_0.length c0_0) := (blk_cell BK201.out 0).trans rfl; have hcz31_1 : w29.cell? ⟨gb201, 1, none⟩ = some (.slice A0_1 l0_1.length c0_1) := (blk_cell BK201.out 1).trans rfl; have hcz31_2 : w29.cell? ⟨gb201, 2, none⟩ = some (.slice A0_2 l0_2.length c0_2) := (blk_cell BK201.out 2).trans rfl; have hfz31_0 := blk_frozen BK201.out 0; have hfz31_1 := blk_frozen BK201.out 1; have hfz31_2 := blk_frozen BK201.out 2) | ((with_reducible refine gate_callee (f := 19) rfl ?_); refine goesL_ (some 6) rfl rfl Try.func19 (by kernel_rfl) rfl #[.agg #[.slice A0_0 l0_0.length c0_0, .slice A0_1 l0_1.length c0_1, .slice A0_2 l0_2.length c0_2]] rfl (by (try simp only [List.map_toArray, List.map_cons, List.map_nil]); first | done | rfl | (simp only [List.length_drop, List.length_take]; rfl)) ?_; (with_reducible refine (spec_TableOK.calls k _ _ l0_0 _ _ l0_1 _ _ l0_2 true _ ?side1 ?side2 ?side3 ?side4 ?side5 ?side6 A3.out).mono ?_); (case side1 => repeat (first | exact (Kd.C_below HR0_0.out HB.out) | (with_reducible refine Kd.C_alloc ?_ _) | (with_reducible refine Kd.C_drewN ?_ _) | (with_reducible refine Kd.C_drew ?_))); (case side2 => exact HC0_0.out); (case side3 => repeat (first | exact (Kd.C_below HR0_1.out HB.out) | (with_reducible refine Kd.C_alloc ?_ _) | (with_reducible refine Kd.C_drewN ?_ _) | (with_reducible refine Kd.C_drew ?_))); (case side4 => exact HC0_1.out); (case side5 => repeat (first | exact (Kd.C_below HR0_2.out HB.out) | (with_reducible refine Kd.C_alloc ?_ _) | (with_reducible refine Kd.C_drewN ?_ _) | (with_reducible refine Kd.C_drew ?_))); (case side6 => exact HC0_2.out); rintro e w32 ⟨rfl, hb⟩; refine ⟨_, rfl, ?_⟩; have n0_ := Aside0.mk (blk_below (g := gb201) (o := .cells #[.slice A0_0 l0_0.length c0_0, .slice A0_1 l0_1.length c0_1, .slice A0_2 l0_2.length c0_2] 27 (0, 0)) (by (with_reducible repeat (first | refine blk_drewN ?_ _ | refine blk_drew ?_ | refine blk_alloc ?_ _)); exact BK201.out) hb); have n1_ := Aside0.mk (blk_below (g := gb202) (o := .cells #[.slice none 0 0, .slice none 0 0, .slice none 0 0] 27 (0, 0)) (by (with_reducible repeat (first | refine blk_drewN ?_ _ | refine blk_drew ?_ | refine blk_alloc ?_ _)); exact BK202.out) hb); have n2_ := Aside0.mk (below_step (by repeat (first | (with_reducible first | exact HB.out | apply below_alloc | apply pw_below_drewN | apply below_drew1 | refine below_set ?_ GE201.out | refine below_set ?_ GE202.out) | exact HB.out)) hb); clear BK201; clear BK202; clear HB; have BK201 := n0_; have BK202 := n1_; have HB := n2_; clear n0_ n1_ n2_; (try clear hb); (try clear hb2); (try clear hk); (try clear hi)) | (go_at_call 20; (with_reducible refine (spec_l1SetOK.calls k _ _ l1 6 false _ ?side1 ?side2 A5.out).mono ?_); (case side1 => repeat (first | exact (Kd.C_below HR1.out HB.out) | (with_reducible refine Kd.C_alloc ?_ _) | (with_reducible refine Kd.C_drewN ?_ _) | (with_reducible refine Kd.C_drew ?_))); (case side2 => exact HC1.out); rintro e w' ⟨rfl, ⟨nd, rfl⟩⟩; (try (rw [drewN_self w32]; generalize hq_ : World.drewN w32 _ = w32; have n0_ : Aside0 (w32.heap[gb201]? = some (.cells #[.slice A0_0 l0_0.length c0_0, .slice A0_1 l0_1.length c0_1, .slice A0_2 l0_2.length c0_2] 27 (0, 0))) := ⟨by rw [← hq_]; exact (by (with_reducible repeat (first | refine blk_drewN ?_ _ | refine blk_drew ?_ | refine blk_alloc ?_ _)); exact BK201.out)⟩; have n1_ : Aside0 (w32.heap[gb202]? = some (.cells #[.slice none 0 0, .slice none 0 0, .slice none 0 0] 27 (0, 0))) := ⟨by rw [← hq_]; exact (by (with_reducible repeat (first | refine blk_drewN ?_ _ | refine blk_drew ?_ | refine blk_alloc ?_ _)); exact BK202.out)⟩; have n2_ : Aside0 (Below w.heap.size w w32) := ⟨by rw [← hq_]; exact (by repeat (first | (with_reducible first | exact HB.out | apply below_alloc | apply pw_below_drewN | apply below_drew1 | refine below_set ?_ GE201.out | refine below_set ?_ GE202.out) | exact HB.out))⟩; clear BK201 BK202 HB hq_; have BK201 := n0_; have BK202 := n1_; have HB := n2_; clear n0_ n1_ n2_)); have hcz33_0 : w32.cell? ⟨gb202, 0, none⟩ = some (.slice none 0 0) := (blk_cell BK202.out 0).trans rfl; have hcz33_1 : w32.cell? ⟨gb202, 1, none⟩ = some (.slice none 0 0) := (blk_cell BK202.out 1).trans rfl; have hcz33_2 : w32.cell? ⟨gb202, 2, none⟩ = some (.slice none 0 0) := (blk_cell BK202.out 2).trans rfl; have hfz33_0 := blk_frozen BK202.out 0; have hfz33_1 := blk_frozen BK202.out 1; have hfz33_2 := blk_frozen BK202.out 2))
   refine bodyPost_ret (results_cell_row rfl _ _ gb202 27 #[.slice none 0 0, .slice none 0 0, .slice none 0 0] (0, 0) _ rfl (by (with_reducible repeat (first | refine blk_drewN ?_ _ | refine blk_drew ?_ | refine blk_alloc ?_ _)); refine blk_put (cs := #[.slice none 0 0, .slice none 0 0, .slice none 0 0]) ?_ 2 _ rfl; (with_reducible repeat (first | refine blk_drewN ?_ _ | refine blk_drew ?_ | refine blk_alloc ?_ _)); refine blk_put (cs := #[.slice none 0 0, .slice none 0 0, .slice none 0 0]) ?_ 1 _ rfl; (with_reducible repeat (first | refine blk_drewN ?_ _ | refine blk_drew ?_ | refine blk_alloc ?_ _)); refine blk_put (cs := #[.slice none 0 0, .slice none 0 0, .slice none 0 0]) ?_ 0 _ rfl; (with_reducible repeat (first | refine blk_drewN ?_ _ | refine blk_drew ?_ | refine blk_alloc ?_ _)); exact BK202.out) Try.underlying27 rfl (by kernel_rfl)) rfl ?_
   exact ⟨_, _, _, by first | rfl | (simp [errW_none, errW_some] <;> rfl) | (simp [*, errW_none, errW_some] <;> rfl), by first | exact Kd.R_nil _ _ _ _ _ | exact Kd.N_nil _ _ _ _ _ | exact Kd.V_nil _ _ _ _ _ | exact Kd.Q_nil _ _ _ _ _ | exact Kd.S_nil _ _ _ _ _, Kd.V_nil _ _ _ _ _, by first | exact Kd.R_nil _ _ _ _ _ | exact Kd.N_nil _ _ _ _ _ | exact Kd.V_nil _ _ _ _ _ | exact Kd.Q_nil _ _ _ _ _ | exact Kd.S_nil _ _ _ _ _, by repeat (first | (with_reducible first | exact HB.out | apply below_alloc | apply pw_below_drewN | apply below_drew1 | refine below_set ?_ GE201.out | refine below_set ?_ GE202.out) | exact HB.out)⟩
 ·replace c4 := Bool.eq_false_iff.mpr c4
  subst c4
  have H1 : (some (([] : List Int), ([] : List (List Int)), ([] : List Int))) = some (r1, r2, r3) := by rw [if_neg (show ¬ (false = true) by decide)] at H; exact H
  clear H
  have H := H1
  clear H1
  simp only [Option.some.injEq, Prod.mk.injEq] at H
  obtain ⟨rfl, rfl, rfl⟩ := H
  go_enter Try.func6, Try.ntmps6
  go_wp2_with (first | ((with_reducible refine gate_dst (N := 2) rfl ?_); refine box_event ?hg (N := 2) ?hd (cs := #[.slice A0_0 l0_0.length c0_0, .slice A0_1 l0_1.length c0_1, .slice A0_2 l0_2.length c0_2]) (t := 27) ?hr ?_; (case hd => rfl); (case hg => rfl); (case hr => first | (go_simp; done) | (go_simp; rfl)); intro gb201 hg w34 hbox hb; have n0_ := Aside0.mk (below_step (by repeat (first | (with_reducible first | exact HB.out | apply below_alloc | apply pw_below_drewN | apply below_drew1) | exact HB.out)) hb); have n1_ := Aside0.mk (hbox); have n2_ := Aside0.mk ((by rw [hg]; exact (below_size (by repeat (first | (with_reducible first | exact HB.out | apply below_alloc | apply pw_below_drewN | apply below_drew1) | exact HB.out))) : w.heap.size ≤ gb201)); have n3_ := Aside0.mk ((by rw [hg]; exact (below_size (by repeat (first | (with_reducible first | exact HB.out | apply below_alloc | apply pw_below_drewN | apply below_drew1) | exact HB.out))) : w.heap.size ≤ gb201)); clear HB; have HB := n0_; have BK201 := n1_; have GW201 := n2_; have GE201 := n3_; clear n0_ n1_ n2_ n3_; clear hb hbox hg) | ((with_reducible refine gate_dst (N := 4) rfl ?_); refine box_event ?hg (N := 4) ?hd (cs := #[.slice none 0 0, .slice none 0 0, .slice none 0 0]) (t := 27) ?hr ?_; (case hd => rfl); (case hg => rfl); (case hr => first | (go_simp; done) | (go_simp; rfl)); intro gb202 hg w35 hbox hb; have n0_ := Aside0.mk (blk_below (g := gb201) (o := .cells #[.slice A0_0 l0_0.length c0_0, .slice A0_1 l0_1.length c0_1, .slice A0_2 l0_2.length c0_2] 27 (0, 0)) (by (with_reducible repeat (first | refine blk_drewN ?_ _ | refine blk_drew ?_ | refine blk_alloc ?_ _)); exact BK201.out) hb); have n1_ := Aside0.mk (below_step (by repeat (first | (with_reducible first | exact HB.out | apply below_alloc | apply pw_below_drewN | apply below_drew1 | refine below_set ?_ GE201.out) | exact HB.out)) hb); have n2_ := Aside0.mk (hbox); have n3_ := Aside0.mk ((by rw [hg]; exact (below_size (by repeat (first | (with_reducible first | exact HB.out | apply below_alloc | apply pw_below_drewN | apply below_drew1 | refine below_set ?_ GE201.out) | exact HB.out))) : w.heap.size ≤ gb202)); have n4_ := Aside0.mk ((by rw [hg]; exact (below_size (by repeat (first | (with_reducible first | exact HB.out | apply below_alloc | apply pw_below_drewN | apply below_drew1 | refine below_set ?_ GE201.out) | exact HB.out))) : w.heap.size ≤ gb202)); have n5_ := Aside0.mk ((by rw [hg]; exact Nat.ne_of_lt (blk_lt (g := gb201) (o := .cells #[.slice A0_0 l0_0.length c0_0, .slice A0_1 l0_1.length c0_1, .slice A0_2 l0_2.length c0_2] 27 (0, 0)) (by (with_reducible repeat (first | refine blk_drewN ?_ _ | refine blk_drew ?_ | refine blk_alloc ?_ _)); exact BK201.out)) : gb201 ≠ gb202)); have n6_ := Aside0.mk ((by rw [hg]; exact Nat.ne_of_gt (blk_lt (g := gb201) (o := .cells #[.slice A0_0 l0_0.length c0_0, .slice A0_1 l0_1.length c0_1, .slice A0_2 l0_2.length c0_2] 27 (0, 0)) (by (with_reducible repeat (first | refine blk_drewN ?_ _ | refine blk_drew ?_ | refine blk_alloc ?_ _)); exact BK201.out)) : gb202 ≠ gb201)); clear BK201; clear HB; have BK201 := n0_; have HB := n1_; have BK202 := n2_; have GW202 := n3_; have GE202 := n4_; have NB201_202 := n5_; have NB202_201 := n6_; clear n0_ n1_ n2_ n3_ n4_ n5_ n6_; clear hb hbox hg; have hnb36 := NB201_202.out; have hnc36 := NB202_201.out; have hcz37_0 : w35.cell? ⟨gb201, 0, none⟩ = some (.slice A0_0 l0_0.length c0_0) := (blk_cell BK201.out 0).trans rfl; have hcz37_1 : w35.cell? ⟨gb201, 1, none⟩ = some (.slice A0_1 l0_1.length c0_1) := (blk_cell BK201.out 1).trans rfl; have hcz37_2 : w35.cell? ⟨gb201, 2, none⟩ = some (.slice A0_2 l0_2.length c0_2) := (blk_cell BK201.out 2).trans rfl; have hfz37_0 := blk_frozen BK201.out 0; have hfz37_1 := blk_frozen BK201.out 1; have hfz37_2 := blk_frozen BK201.out 2) | ((with_reducible refine gate_callee (f := 19) rfl ?_); refine goesL_ (some 6) rfl rfl Try.func19 (by kernel_rfl) rfl #[.agg #[.slice A0_0 l0_0.length c0_0, .slice A0_1 l0_1.length c0_1, .slice A0_2 l0_2.length c0_2]] rfl (by (try simp only [List.map_toArray, List.map_cons, List.map_nil]); first | done | rfl | (simp only [List.length_drop, List.length_take]; rfl)) ?_; (with_reducible refine (spec_TableOK.calls k _ _ l0_0 _ _ l0_1 _ _ l0_2 false _ ?side1 ?side2 ?side3 ?side4 ?side5 ?side6 A3.out).mono ?_); (case side1 => repeat (first | exact (Kd.C_below HR0_0.out HB.out) | (with_reducible refine Kd.C_alloc ?_ _) | (with_reducible refine Kd.C_drewN ?_ _) | (with_reducible refine Kd.C_drew ?_))); (case side2 => exact HC0_0.out); (case side3 => repeat (first | exact (Kd.C_below HR0_1.out HB.out) | (with_reducible refine Kd.C_alloc ?_ _) | (with_reducible refine Kd.C_drewN ?_ _) | (with_reducible refine Kd.C_drew ?_))); (case side4 => exact HC0_1.out); (case side5 => repeat (first | exact (Kd.C_below HR0_2.out HB.out) | (with_reducible refine Kd.C_alloc ?_ _) | (with_reducible refine Kd.C_drewN ?_ _) | (with_reducible refine Kd.C_drew ?_))); (case side6 => exact HC0_2.out); rintro e w38 ⟨rfl, hb⟩; refine ⟨_, rfl, ?_⟩; have n0_ := Aside0.mk (blk_below (g := gb201) (o := .cells #[.slice A0_0 l0_0.length c0_0, .slice A0_1 l0_1.length c0_1, .slice A0_2 l0_2.length c0_2] 27 (0, 0)) (by (with_reducible repeat (first | refine blk_drewN ?_ _ | refine blk_drew ?_ | refine blk_alloc ?_ _)); exact BK201.out) hb); have n1_ := Aside0.mk (blk_below (g := gb202) (o := .cells #[.slice none 0 0, .slice none 0 0, .slice none 0 0] 27 (0, 0)) (by (with_reducible repeat (first | refine blk_drewN ?_ _ | refine blk_drew ?_ | refine blk_alloc ?_ _)); exact BK202.out) hb); have n2_ := Aside0.mk (below_step (by repeat (first | (with_reducible first | exact HB.out | apply below_alloc | apply pw_below_drewN | apply below_drew1 | refine below_set ?_ GE201.out | refine below_set ?_ GE202.out) | exact HB.out)) hb); clear BK201; clear BK202; clear HB; have BK201 := n0_; have BK202 := n1_; have HB := n2_; clear n0_ n1_ n2_; (try clear hb); (try clear hb2); (try clear hk); (try clear hi); have hcz39_0 : w38.cell? ⟨gb202, 0, none⟩ = some (.slice none 0 0) := (blk_cell BK202.out 0).trans rfl; have hcz39_1 : w38.cell? ⟨gb202, 1, none⟩ = some (.slice none 0 0) := (blk_cell BK202.out 1).trans rfl; have hcz39_2 : w38.cell? ⟨gb202, 2, none⟩ = some (.slice none 0 0) := (blk_cell BK202.out 2).trans rfl; have hfz39_0 := blk_frozen BK202.out 0; have hfz39_1 := blk_frozen BK202.out 1; have hfz39_2 := blk_frozen BK202.out 2))
  refine bodyPost_ret (results_cell_row rfl _ _ gb202 27 #[.slice none 0 0, .slice none 0 0, .slice none 0 0] (0, 0) _ rfl (by (with_reducible repeat (first | refine blk_drewN ?_ _ | refine blk_drew ?_ | refine blk_alloc ?_ _)); refine blk_put (cs := #[.slice none 0 0, .slice none 0 0, .slice none 0 0]) ?_ 2 _ rfl; (with_reducible repeat (first | refine blk_drewN ?_ _ | refine blk_drew ?_ | refine blk_alloc ?_ _)); refine blk_put (cs := #[.slice none 0 0, .slice none 0 0, .slice none 0 0]) ?_ 1 _ rfl; (with_reducible repeat (first | refine blk_drewN ?_ _ | refine blk_drew ?_ | refine blk_alloc ?_ _)); refine blk_put (cs := #[.slice none 0 0, .slice none 0 0, .slice none 0 0]) ?_ 0 _ rfl; (with_reducible repeat (first | refine blk_drewN ?_ _ | refine blk_drew ?_ | refine blk_alloc ?_ _)); exact BK202.out) Try.underlying27 rfl (by kernel_rfl)) rfl ?_
  exact ⟨_, _, _, by first | rfl | (simp [errW_none, errW_some] <;> rfl) | (simp [*, errW_none, errW_some] <;> rfl), by first | exact Kd.R_nil _ _ _ _ _ | exact Kd.N_nil _ _ _ _ _ | exact Kd.V_nil _ _ _ _ _ | exact Kd.Q_nil _ _ _ _ _ | exact Kd.S_nil _ _ _ _ _, Kd.V_nil _ _ _ _ _, by first | exact Kd.R_nil _ _ _ _ _ | exact Kd.N_nil _ _ _ _ _ | exact Kd.V_nil _ _ _ _ _ | exact Kd.Q_nil _ _ _ _ _ | exact Kd.S_nil _ _ _ _ _, by repeat (first | (with_reducible first | exact HB.out | apply below_alloc | apply pw_below_drewN | apply below_drew1 | refine below_set ?_ GE201.out | refine below_set ?_ GE202.out) | exact HB.out)⟩
end Go.Proofs.Ytkohcdddgjaijaa.P
namespace Go.Proofs.Ytkohcdddgjaijaa.PT
open Go.RowKit Go.Proofs.Ytkohcdddgjaijaa.P Go.Proofs.YtkohcdddgjaijaaW.PrintWords Go.Proofs.YtkohcdddgjaijaaW.PrintLast Go.Proofs.Ytkohcdddgjaijaa.EvKit
set_option linter.unusedSimpArgs false
set_option linter.unusedVariables false
theorem l2Value_ev (tv : List Int) (rows : List (List Int)) (ws row : List Int) (v : Int) (h : tv.length = row.length) (hl : tv.length ≤ 1048576) : Ev (fun k => spec_l2Value.f k tv rows ws row v) (valOf tv row v) := by
  unfold spec_l2Value.f
  have := Ev.loop (g := fun k i => spec_l2Value.l0 k row v tv (tv.length : Int) (i : Int)) (n := tv.length) (R := fun i => valOf (tv.drop i) (row.drop i) v) ?_ ?_ 0 (Nat.zero_le _)
  · simpa using this
  · refine Ev.succ ?_
    simp only [spec_l2Value.l0]
    rw [List.drop_of_length_le (l := tv) (Nat.le_refl _)]
    exact Ev.neg (by omega) (Ev.now _)
  · intro i hi ih
    have hi2 : i < row.length := by omega
    refine Ev.succ ?_
    simp only [spec_l2Value.l0, rd_at hi, rd_at hi2, w64n (show i ≤ 9223372036854775806 by omega)]
    rw [drop_at hi, drop_at hi2]
    refine Ev.pos (by omega) (Ev.pos (by omega) (Ev.pos (by omega) ?_))
    simp only [valOf]
    by_cases c : tv[i] = v
    · rw [if_pos c]; exact Ev.pos c (Ev.pos (by omega) (Ev.now _))
    · rw [if_neg c]; exact Ev.neg c ih
theorem l2Values_ev (tv : List Int) (rows : List (List Int)) (ws row vars : List Int) (h : tv.length = row.length) (hl : tv.length ≤ 1048576) (hv : vars.length ≤ 1048576) : Ev (fun k => spec_l2Values.f k tv rows ws row vars) (projR tv vars row) := by
  unfold spec_l2Values.f
  have key : ∀ d i, i + d = vars.length → Ev (fun k => spec_l2Values.l0 k row ((vars.take i).map (valOf tv row)) vars (vars.length : Int) (i : Int) tv rows ws) (projR tv vars row) := by
    intro d
    induction d with
    | zero =>
      intro i hi
      have e : i = vars.length := by omega
      subst e
      rw [List.take_length]
      refine Ev.succ ?_
      simp only [spec_l2Values.l0]
      exact Ev.neg (by omega) (Ev.now _)
    | succ d ih =>
      intro i hi
      have hlt : i < vars.length := by omega
      have ih := ih (i + 1) (by omega)
      rw [List.take_succ_eq_append_getElem hlt, List.map_append, List.map_singleton] at ih
      refine Ev.succ ?_
      simp only [spec_l2Values.l0, rd_at hlt, w64n (show i ≤ 9223372036854775806 by omega)]
      exact Ev.pos (by omega) (Ev.pos (by omega) (Ev.pos (by omega) (Ev.bind (l2Value_ev tv rows ws row _ h hl) (Ev.pos (by simp; omega) ih))))
  exact key vars.length 0 (by omega)
theorem rdL_at {l : List (List Int)} {i : Nat} (h : i < l.length) : rd_L1 l (i : Int) = l[i] := getD_at _ h
theorem l2Sort_ev (n : Nat) (rows : List (List Int)) (_hn : rows.length ≤ n) (hl : rows.length ≤ 1048576) (hr : ∀ x, x ∈ rows → x.length ≤ 1048576) : Ev (fun k => spec_l2Sort.f k rows) (sdR rows) := by
  unfold spec_l2Sort.f
  exact Ev.pos ⟨hl, hr⟩ (Ev.now _)
def projT (tv : List Int) (rows : List (List Int)) (vars : List Int) : List Int × List (List Int) × List Int :=
  (vars, sdR (rows.map (projR tv vars)), List.replicate (sdR (rows.map (projR tv vars))).length 1)
theorem projR_len (tv vars row : List Int) : (projR tv vars row).length = vars.length := by simp [projR]
theorem l2Project_ev (tv : List Int) (rows : List (List Int)) (ws vars : List Int) (hrl : ∀ x, x ∈ rows → tv.length = x.length) (hl : tv.length ≤ 1048576) (hr : rows.length ≤ 1048576) (hv : vars.length ≤ 1048576) :
    Ev (fun k => spec_l2Project.f k tv rows ws vars) (projT tv rows vars) := by
  unfold spec_l2Project.f
  have hP : ∀ x, x ∈ rows.map (projR tv vars) → x.length ≤ 1048576 := fun x hx => by
    obtain ⟨y, _, rfl⟩ := List.mem_map.1 hx
    rw [projR_len]; exact hv
  have hs := sdR_len (rows.map (projR tv vars))
  rw [List.length_map] at hs
  have ones : ∀ d i, i + d = (sdR (rows.map (projR tv vars))).length → Ev (fun k => spec_l2Project.l1 k ((sdR (rows.map (projR tv vars))).length : Int) (i : Int) vars (sdR (rows.map (projR tv vars))) (List.replicate i 1)) (projT tv rows vars) := by
    intro d
    induction d with
    | zero =>
      intro i hi
      have e : i = (sdR (rows.map (projR tv vars))).length := by omega
      refine Ev.succ ?_
      simp only [spec_l2Project.l1]
      refine Ev.neg (by omega) (Ev.to (Ev.now _) ?_)
      rw [e]; rfl
    | succ d ih =>
      intro i hi
      have ih := ih (i + 1) (by omega)
      refine Ev.succ ?_
      simp only [spec_l2Project.l1, w64n (show i ≤ 9223372036854775806 by omega)]
      refine Ev.pos (by omega) (Ev.pos (by simp; omega) ?_)
      rw [← List.replicate_succ']
      exact ih
  have key : ∀ d i, i + d = rows.length → Ev (fun k => spec_l2Project.l0 k vars ((rows.take i).map (projR tv vars)) rows (rows.length : Int) (i : Int) tv rows ws) (projT tv rows vars) := by
    intro d
    induction d with
    | zero =>
      intro i hi
      have e : i = rows.length := by omega
      subst e
      rw [List.take_length]
      refine Ev.succ ?_
      simp only [spec_l2Project.l0, Option.bind_some, List.nil_append, List.length_nil]
      refine Ev.neg (by omega) (Ev.pos (by omega) (Ev.bind (l2Sort_ev _ _ (Nat.le_refl _) (by simpa using hr) hP) ?_))
      exact ones _ 0 (Nat.zero_add _)
    | succ d ih =>
      intro i hi
      have hlt : i < rows.length := by omega
      have ih := ih (i + 1) (by omega)
      rw [List.take_succ_eq_append_getElem hlt, List.map_append, List.map_singleton] at ih
      refine Ev.succ ?_
      simp only [spec_l2Project.l0, rdL_at hlt, w64n (show i ≤ 9223372036854775806 by omega)]
      exact Ev.pos (by omega) (Ev.pos (by omega) (Ev.pos (by omega) (Ev.bind (l2Values_ev tv rows ws _ vars (hrl _ (List.getElem_mem hlt)) hl hv) (Ev.pos (by simp; omega) ih))))
  exact key rows.length 0 (by omega)
theorem l1Has_ev (l : List Int) (x : Int) (hl : l.length ≤ 1048576) : Ev (fun k => spec_l1Has.f k l x) (decide (x ∈ l)) := by
  unfold spec_l1Has.f
  have := Ev.loop (g := fun k i => spec_l1Has.l0 k x l (l.length : Int) (i : Int)) (n := l.length) (R := fun i => decide (x ∈ l.drop i)) ?_ ?_ 0 (Nat.zero_le _)
  · simpa using this
  · refine Ev.succ ?_
    simp only [spec_l1Has.l0]
    refine Ev.neg (by omega) (Ev.to (Ev.now _) ?_)
    simp
  · intro i hi ih
    refine Ev.succ ?_
    simp only [spec_l1Has.l0, rd_at hi, w64n (show i ≤ 9223372036854775806 by omega)]
    refine Ev.pos (by omega) (Ev.pos (by omega) (Ev.pos (by omega) ?_))
    by_cases c : x = l[i]
    · refine Ev.pos c (Ev.to (Ev.now _) ?_)
      rw [drop_at hi]; exact (decide_eq_true (List.mem_cons.2 (.inl c))).symm
    · refine Ev.neg c (Ev.to ih ?_)
      rw [drop_at hi, decide_eq_decide]; exact ⟨fun h => List.mem_cons_of_mem _ h, fun h => (List.mem_cons.1 h).resolve_left c⟩
def subB (a b : List Int) : Bool := a.all (fun v => decide (v ∈ b))
theorem l2Subset_ev (a b : List Int) (ha : a.length ≤ 1048576) (hb : b.length ≤ 1048576) : Ev (fun k => spec_l2Subset.f k a b) (subB a b) := by
  unfold spec_l2Subset.f subB
  refine Ev.to (Ev.all a (fun v => decide (v ∈ b)) (g := fun k i => spec_l2Subset.l0 k b a (a.length : Int) (i : Int)) (R := true) (fun _ => Ev.succ ?_) ?_ ?_) (by simp)
  · simp only [spec_l2Subset.l0]
    exact Ev.neg (by omega) (Ev.now _)
  · intro i hi hp R' ih
    refine Ev.succ ?_
    simp only [spec_l2Subset.l0, rd_at hi, w64n (show i ≤ 9223372036854775806 by omega)]
    exact Ev.pos (by omega) (Ev.pos (by omega) (Ev.pos (by omega) (Ev.bind (l1Has_ev b _ hb) (Ev.pos hp ih))))
  · intro i hi hp
    refine Ev.succ ?_
    simp only [spec_l2Subset.l0, rd_at hi]
    exact Ev.pos (by omega) (Ev.pos (by omega) (Ev.pos (by omega) (Ev.bind (l1Has_ev b _ hb) (Ev.neg (by simp [hp]) (Ev.now _)))))
noncomputable def projV (tv : List Int) (rows : List (List Int)) (ws vars : List Int) : List Int × List (List Int) × List Int :=
  if tableOKb tv rows ws = true then (if asc (-1) vars = true then (if subB vars tv = true then projT tv rows vars else ([], [], [])) else ([], [], [])) else ([], [], [])
theorem table_rows {tv : List Int} {rows : List (List Int)} {ws : List Int} (h : tableOKb tv rows ws = true) : ∀ x, x ∈ rows → tv.length = x.length := by
  unfold tableOKb at h
  simp only [Bool.and_eq_true, decide_eq_true_eq] at h
  have h6 := @of_decide_eq_true _ (Classical.propDecidable _) (by have := h.2; unfold rowsR at this; exact this)
  intro x hx
  obtain ⟨j, hj, rfl⟩ := List.getElem_of_mem hx
  have := (h6 j (Nat.zero_le _) hj).1
  omega
theorem specProject_ev (tv : List Int) (rows : List (List Int)) (ws vars : List Int) (hl : tv.length ≤ 1048576) (hr : rows.length ≤ 1048576) (hrl : ∀ x, x ∈ rows → x.length ≤ 1048576) (hv : vars.length ≤ 1048576) :
    Ev (fun k => spec_Project.f k tv rows ws vars) (projV tv rows ws vars) := by
  unfold spec_Project.f projV
  refine Ev.bind (specTableOK_ev tv rows ws hl hr (fun x hx => by have := hrl x hx; omega)) ?_
  by_cases h1 : tableOKb tv rows ws = true
  · rw [if_pos h1]
    refine Ev.pos h1 (Ev.bind (l1SetOK_ev vars (by omega)) ?_)
    by_cases h2 : asc (-1) vars = true
    · rw [if_pos h2]
      refine Ev.pos h2 (Ev.bind (l2Subset_ev vars tv hv hl) ?_)
      by_cases h3 : subB vars tv = true
      · rw [if_pos h3]
        exact Ev.pos h3 (Ev.bind (l2Project_ev tv rows ws vars (table_rows h1) hl hr hv) (Ev.now _))
      · rw [if_neg h3]; exact Ev.neg h3 (Ev.now _)
    · rw [if_neg h2]; exact Ev.neg h2 (Ev.now _)
  · rw [if_neg h1]; exact Ev.neg h1 (Ev.now _)
end Go.Proofs.Ytkohcdddgjaijaa.PT
namespace Go.Proofs.Ytkohcdddgjaijaa.PT
open Go.RowKit Go.Proofs.Ytkohcdddgjaijaa.P Go.Proofs.YtkohcdddgjaijaaW.PrintWords Go.Proofs.YtkohcdddgjaijaaW.PrintLast Go.Proofs.Ytkohcdddgjaijaa.EvKit
set_option linter.unusedVariables false
set_option linter.unusedSimpArgs false
theorem TabR_nil (W : World) (base : Nat) : TabR W base (.slice none 0 0) (.slice none 0 0) (.slice none 0 0) ([], [], []) := ⟨Kd.R_nil _ _ _ _ _, Kd.S_nil _ _ _ _ _, Kd.R_nil _ _ _ _ _⟩
theorem subB_all (vars tv : List Int) : subB vars tv = vars.all (fun v => decide (v ∈ tv)) := rfl
theorem ProjPost.low {w W : World} {t : List Int × List (List Int) × List Int} {v0 v1 v2 : Value} (h : TabR W w.heap.size v0 v1 v2 t) : TabR W w.heap.size v0 v1 v2 t := h
theorem TabR.lower {W : World} {base base' : Nat} {v0 v1 v2 : Value} {t : List Int × List (List Int) × List Int} (h : TabR W base v0 v1 v2 t) (hb : base' ≤ base) : TabR W base' v0 v1 v2 t := ⟨Kd.R_lower h.vars hb, Kd.S_lower h.rows hb, Kd.R_lower h.weights hb⟩
theorem TabR.past {W W' : World} {base : Nat} {v0 v1 v2 : Value} {t : List Int × List (List Int) × List Int} {g : Nat} {cs : Array Value} (h : TabR W base v0 v1 v2 t) (hb : W.heap[g]? = some (.cells cs 27 (0, 0))) (hm : ∀ k, k ≠ g → W'.heap[k]? = W.heap[k]?) : TabR W' base v0 v1 v2 t :=
  ⟨Kd.R_mono (Kd.R_step (Kd.R_types h.vars hb (by decide)) (fun k hk _ => hm k hk.2)) (fun k hk => hk.1), Kd.S_mono (Kd.S_step (Kd.S_types h.rows hb (by decide)) (fun k hk _ => hm k hk.2)) (fun k hk => hk.1), Kd.R_mono (Kd.R_step (Kd.R_types h.weights hb (by decide)) (fun k hk _ => hm k hk.2)) (fun k hk => hk.1)⟩
set_option maxHeartbeats 1600000 in
set_option maxRecDepth 100000 in
theorem projectI_walk (A0 : Option Addr) (c0 : Nat) (tv : List Int) (A1 : Option Addr) (c1 : Nat) (rows : List (List Int)) (A2 : Option Addr) (c2 : Nat) (ws : List Int) (A3 : Option Addr) (c3 : Nat) (vars : List Int) (w : World)
    (h0 : Kd.C (Kd.int .i64) w A0 tv.length tv) (l0 : tv.length ≤ c0) (h1 : Kd.C kRb w A1 rows.length rows) (l1 : rows.length ≤ c1) (h2 : Kd.C (Kd.int .i64) w A2 ws.length ws) (l2 : ws.length ≤ c2) (h3 : Kd.C (Kd.int .i64) w A3 vars.length vars) (l3 : vars.length ≤ c3)
    (b0 : tv.length ≤ 1048576) (b1 : rows.length ≤ 1048576) (b1r : ∀ x, x ∈ rows → x.length ≤ 1048576) (b3 : vars.length ≤ 1048576) :
    Calls Try.prog 9 #[.agg #[.slice A0 tv.length c0, .slice A1 rows.length c1, .slice A2 ws.length c2], .slice A3 vars.length c3] w (ProjPost w (projV tv rows ws vars)) := by
  obtain ⟨kt, hkt⟩ := Ev.rounds (implTableOK_ev tv rows ws b0 b1 (fun x hx => by have := b1r x hx; omega))
  obtain ⟨ks, hks⟩ := Ev.rounds (setOK_ev vars (by omega))
  obtain ⟨kc, hkc⟩ := Ev.rounds (columns_ev tv rows ws vars b0 b3)
  have HT := Aside0.mk (fun W (hb : Below w.heap.size w W) => impl_TableOK.calls kt A0 c0 tv A1 c1 rows A2 c2 ws _ W (Kd.C_below h0 hb) l0 (Kd.C_below h1 hb) l1 (Kd.C_below h2 hb) l2 hkt)
  have HSet := Aside0.mk (fun W (hb : Below w.heap.size w W) => impl_setOK.calls ks A3 c3 vars _ W (Kd.C_below h3 hb) l3 hks)
  have HC := Aside0.mk (fun W (hb : Below w.heap.size w W) => impl_Table_columns.calls kc A0 c0 tv A1 c1 rows A2 c2 ws A3 c3 vars (colsI tv vars) W (Kd.C_below h0 hb) l0 (Kd.C_below h1 hb) l1 (Kd.C_below h2 hb) l2 (Kd.C_below h3 hb) l3 hkc)
  have HB := Aside0.mk (Below.refl w.heap.size w)
  by_cases c1_ : tableOKb tv rows ws = true
  · rw [c1_] at HT
    by_cases c2_ : asc (-1) vars = true
    · rw [c2_] at HSet
      have hcl : (colsI tv vars).length ≤ 1048576 := by unfold colsI; rw [List.length_map]; exact b3
      obtain ⟨kn, hkn⟩ := Ev.rounds (containsInt_ev (colsI tv vars) (-1) hcl)
      have HN := Aside0.mk (fun A c W (h : Kd.C (Kd.int .i64) W A (colsI tv vars).length (colsI tv vars)) (hc : (colsI tv vars).length ≤ c) => slices_Contains_int_int.calls kn A c (colsI tv vars) (-1) _ W h hc hkn)
      by_cases c3_ : subB vars tv = true
      · have hno : decide ((-1 : Int) ∈ colsI tv vars) = false := decide_eq_false (fun h => (cols_all tv vars).1 h c3_)
        rw [hno] at HN
        have hpv : projV tv rows ws vars = (vars, sdR (rows.map (fun r => (colsI tv vars).map (rd r))), List.replicate (sdR (rows.map (fun r => (colsI tv vars).map (rd r)))).length 1) := by
          unfold projV projT
          rw [if_pos c1_, if_pos c2_, if_pos c3_]
          have e : rows.map (projR tv vars) = rows.map (fun r => (colsI tv vars).map (rd r)) := List.map_congr_left (fun r hr => (pick_proj c3_ (table_rows c1_ r hr)).symm)
          rw [e]
        rw [hpv]
        have HP := Aside0.mk (fun W (hb : Below w.heap.size w W) => project_walk A0 c0 tv A1 c1 rows A2 c2 ws A3 c3 vars W (Kd.C_below h0 hb) l0 (Kd.C_below h1 hb) l1 (Kd.C_below h2 hb) l2 (Kd.C_below h3 hb) l3 c3_ (table_rows c1_) b0 b1 b3)
        clear h0 h1 h2 h3 hkt hks hkc hkn c1_ c2_ c3_ hno hpv b1r
        generalize colsI tv vars = cols at *
        go_enter Try.func9, Try.ntmps9
        go_wp2_with (first | (go_at_call 24; (with_reducible refine (HT.out _ (below_alloc (below_alloc HB.out _) _)).mono ?_); clear HT; rintro e w1 ⟨rfl, hb1⟩; have HK1 := Aside0.mk (two1 hb1); have HK0 := Aside0.mk (two0 hb1); have HB1 : Aside0 (Below w.heap.size w w1) := ⟨below_step (below_alloc (below_alloc HB.out _) _) hb1⟩; have hx0 : w1.cell? ⟨w.heap.size, 0, none⟩ = some (.slice A0 tv.length c0) := (blk_cell HK0.out 0).trans rfl; have hx1 : w1.cell? ⟨w.heap.size, 1, none⟩ = some (.slice A1 rows.length c1) := (blk_cell HK0.out 1).trans rfl; have hx2 : w1.cell? ⟨w.heap.size, 2, none⟩ = some (.slice A2 ws.length c2) := (blk_cell HK0.out 2).trans rfl; clear hb1) | (go_at_call 25; (with_reducible refine (HSet.out _ HB1.out).mono ?_); clear HSet; rintro e w2 ⟨rfl, ⟨n2, rfl⟩⟩) | (go_at_call 27; (with_reducible refine (HC.out _ (pw_below_drewN HB1.out _)).mono ?_); clear HC hx0 hx1 hx2; rintro e w3 ⟨v3, rfl, ho3, hb3⟩; obtain ⟨C1, d1, rfl, lC1, hC1⟩ := Kd.R_reads ho3; have HC1 := Aside0.mk hC1; have HLC := Aside0.mk lC1; have HK3 : Aside0 (w3.heap[w.heap.size + 1]? = some (.cells #[.slice none 0 0, .slice none 0 0, .slice none 0 0] 27 (0, 0))) := ⟨blk_below (blk_drewN HK1.out _) hb3⟩; have hK0 := blk_below (blk_drewN HK0.out n2) hb3; have hx0 : w3.cell? ⟨w.heap.size, 0, none⟩ = some (.slice A0 tv.length c0) := (blk_cell hK0 0).trans rfl; have hx1 : w3.cell? ⟨w.heap.size, 1, none⟩ = some (.slice A1 rows.length c1) := (blk_cell hK0 1).trans rfl; have hx2 : w3.cell? ⟨w.heap.size, 2, none⟩ = some (.slice A2 ws.length c2) := (blk_cell hK0 2).trans rfl; have HB3 : Aside0 (Below w.heap.size w w3) := ⟨below_step (pw_below_drewN HB1.out _) hb3⟩; clear ho3 hb3 hC1 lC1 hK0) | (go_at_call 26; (with_reducible refine (HN.out _ _ _ HC1.out HLC.out).mono ?_); clear HN; rintro e w4 ⟨rfl, ⟨n4, rfl⟩⟩) | (go_at_call 28; (with_reducible refine (HP.out _ (by first | exact pw_below_drewN HB3.out _ | exact pw_below_drewN (pw_below_drewN HB3.out _) _)).mono ?_); clear HP; rintro e w5 ⟨v0, v1, v2, rfl, ht5, hb5⟩; obtain ⟨E0, g0, rfl⟩ := Kd.R_slice ht5.vars; obtain ⟨E1, g1, rfl⟩ := Kd.S_slice ht5.rows; obtain ⟨E2, g2, rfl⟩ := Kd.R_slice ht5.weights; have HT5 := Aside0.mk ht5; have HB5 : Aside0 (Below w3.heap.size w3 w5) := ⟨below_step (pw_below_drewN (Below.refl _ _) _) hb5⟩; have HK5 : Aside0 (w5.heap[w.heap.size + 1]? = some (.cells #[.slice none 0 0, .slice none 0 0, .slice none 0 0] 27 (0, 0))) := ⟨blk_below HK3.out HB5.out⟩; have hy0 : w5.cell? ⟨w.heap.size + 1, 0, none⟩ = some (.slice none 0 0) := (blk_cell HK5.out 0).trans rfl; have hy1 : w5.cell? ⟨w.heap.size + 1, 1, none⟩ = some (.slice none 0 0) := (blk_cell HK5.out 1).trans rfl; have hy2 : w5.cell? ⟨w.heap.size + 1, 2, none⟩ = some (.slice none 0 0) := (blk_cell HK5.out 2).trans rfl; have hyf : ∀ j, w5.frozen? ⟨w.heap.size + 1, j, none⟩ = false := fun j => blk_frozen HK5.out j; clear ht5 hb5))
        have e1 := (Kd.R_reads' HT5.out.vars).1
        have e2 := (Kd.S_reads' HT5.out.rows).1
        have e3 := (Kd.R_reads' HT5.out.weights).1
        simp only at e1 e2 e3
        obtain ⟨hb5, hk5⟩ := set3 HK5.out (.slice E0 vars.length g0) (.slice E1 (sdR (rows.map (fun r => cols.map (rd r)))).length g1) (.slice E2 (sdR (rows.map (fun r => cols.map (rd r)))).length g2)
        refine bodyPost_ret (results_cell_row rfl _ _ (w.heap.size + 1) 27 #[.slice E0 vars.length g0, .slice E1 (sdR (rows.map (fun r => cols.map (rd r)))).length g1, .slice E2 (sdR (rows.map (fun r => cols.map (rd r)))).length g2] (0, 0) _ rfl hb5 Try.underlying27 rfl (by kernel_rfl)) rfl ?_
        have ht5 := (TabR.past HT5.out HK5.out hk5).lower (base' := w.heap.size) (by first | exact HB3.out.size | exact (pw_below_drewN HB3.out _).size)
        simp only [List.length_replicate] at ht5
        refine ⟨_, _, _, rfl, ht5, ?_⟩
        exact below_set (below_set (below_set (below_step HB3.out HB5.out) (by omega)) (by omega)) (by omega)
      · have hyes : decide ((-1 : Int) ∈ colsI tv vars) = true := decide_eq_true (Classical.byContradiction (fun h => c3_ (Classical.byContradiction (fun h2 => h ((cols_all tv vars).2 h2)))))
        rw [hyes] at HN
        have hpv : projV tv rows ws vars = ([], [], []) := by
          unfold projV
          rw [if_pos c1_, if_pos c2_, if_neg c3_]
        rw [hpv]
        clear h0 h1 h2 h3 hkt hks hkc hkn c1_ c2_ c3_ hyes hpv b1r
        generalize colsI tv vars = cols at *
        go_enter Try.func9, Try.ntmps9
        go_wp2_with (first | (go_at_call 24; (with_reducible refine (HT.out _ (below_alloc (below_alloc HB.out _) _)).mono ?_); clear HT; rintro e w1 ⟨rfl, hb1⟩; have HK1 := Aside0.mk (two1 hb1); have HK0 := Aside0.mk (two0 hb1); have HB1 : Aside0 (Below w.heap.size w w1) := ⟨below_step (below_alloc (below_alloc HB.out _) _) hb1⟩; have hx0 : w1.cell? ⟨w.heap.size, 0, none⟩ = some (.slice A0 tv.length c0) := (blk_cell HK0.out 0).trans rfl; have hx1 : w1.cell? ⟨w.heap.size, 1, none⟩ = some (.slice A1 rows.length c1) := (blk_cell HK0.out 1).trans rfl; have hx2 : w1.cell? ⟨w.heap.size, 2, none⟩ = some (.slice A2 ws.length c2) := (blk_cell HK0.out 2).trans rfl; clear hb1) | (go_at_call 25; (with_reducible refine (HSet.out _ HB1.out).mono ?_); clear HSet; rintro e w2 ⟨rfl, ⟨n2, rfl⟩⟩) | (go_at_call 27; (with_reducible refine (HC.out _ (pw_below_drewN HB1.out _)).mono ?_); clear HC hx0 hx1 hx2; rintro e w3 ⟨v3, rfl, ho3, hb3⟩; obtain ⟨C1, d1, rfl, lC1, hC1⟩ := Kd.R_reads ho3; have HC1 := Aside0.mk hC1; have HLC := Aside0.mk lC1; have HK3 : Aside0 (w3.heap[w.heap.size + 1]? = some (.cells #[.slice none 0 0, .slice none 0 0, .slice none 0 0] 27 (0, 0))) := ⟨blk_below (blk_drewN HK1.out _) hb3⟩; have hK0 := blk_below (blk_drewN HK0.out n2) hb3; have hx0 : w3.cell? ⟨w.heap.size, 0, none⟩ = some (.slice A0 tv.length c0) := (blk_cell hK0 0).trans rfl; have hx1 : w3.cell? ⟨w.heap.size, 1, none⟩ = some (.slice A1 rows.length c1) := (blk_cell hK0 1).trans rfl; have hx2 : w3.cell? ⟨w.heap.size, 2, none⟩ = some (.slice A2 ws.length c2) := (blk_cell hK0 2).trans rfl; have HB3 : Aside0 (Below w.heap.size w w3) := ⟨below_step (pw_below_drewN HB1.out _) hb3⟩; clear ho3 hb3 hC1 lC1 hK0; have hy0 : w3.cell? ⟨w.heap.size + 1, 0, none⟩ = some (.slice none 0 0) := (blk_cell HK3.out 0).trans rfl; have hy1 : w3.cell? ⟨w.heap.size + 1, 1, none⟩ = some (.slice none 0 0) := (blk_cell HK3.out 1).trans rfl; have hy2 : w3.cell? ⟨w.heap.size + 1, 2, none⟩ = some (.slice none 0 0) := (blk_cell HK3.out 2).trans rfl; have hyf : ∀ j, w3.frozen? ⟨w.heap.size + 1, j, none⟩ = false := fun j => blk_frozen HK3.out j) | (go_at_call 26; (with_reducible refine (HN.out _ _ _ HC1.out HLC.out).mono ?_); clear HN; rintro e w4 ⟨rfl, ⟨n4, rfl⟩⟩))
        obtain ⟨hb5, hk5⟩ := set3 (blk_drewN HK3.out _) (.slice none 0 0) (.slice none 0 0) (.slice none 0 0)
        refine bodyPost_ret (results_cell_row rfl _ _ (w.heap.size + 1) 27 #[.slice none 0 0, .slice none 0 0, .slice none 0 0] (0, 0) _ rfl hb5 Try.underlying27 rfl (by kernel_rfl)) rfl ?_
        exact ⟨_, _, _, rfl, TabR_nil _ _, below_set (below_set (below_set (pw_below_drewN HB3.out _) (by omega)) (by omega)) (by omega)⟩
    · have hcs : asc (-1) vars = false := by simpa using c2_
      rw [hcs] at HSet
      have hpv : projV tv rows ws vars = ([], [], []) := by
        unfold projV
        rw [if_pos c1_, if_neg c2_]
      rw [hpv]
      clear h0 h1 h2 h3 hkt hks hkc c1_ c2_ hcs hpv b1r HC
      go_enter Try.func9, Try.ntmps9
      go_wp2_with (first | (go_at_call 24; (with_reducible refine (HT.out _ (below_alloc (below_alloc HB.out _) _)).mono ?_); clear HT; rintro e w1 ⟨rfl, hb1⟩; have HK1 := Aside0.mk (two1 hb1); have HK0 := Aside0.mk (two0 hb1); have HB1 : Aside0 (Below w.heap.size w w1) := ⟨below_step (below_alloc (below_alloc HB.out _) _) hb1⟩; have hx0 : w1.cell? ⟨w.heap.size, 0, none⟩ = some (.slice A0 tv.length c0) := (blk_cell HK0.out 0).trans rfl; have hx1 : w1.cell? ⟨w.heap.size, 1, none⟩ = some (.slice A1 rows.length c1) := (blk_cell HK0.out 1).trans rfl; have hx2 : w1.cell? ⟨w.heap.size, 2, none⟩ = some (.slice A2 ws.length c2) := (blk_cell HK0.out 2).trans rfl; clear hb1; have hy0 : w1.cell? ⟨w.heap.size + 1, 0, none⟩ = some (.slice none 0 0) := (blk_cell HK1.out 0).trans rfl; have hy1 : w1.cell? ⟨w.heap.size + 1, 1, none⟩ = some (.slice none 0 0) := (blk_cell HK1.out 1).trans rfl; have hy2 : w1.cell? ⟨w.heap.size + 1, 2, none⟩ = some (.slice none 0 0) := (blk_cell HK1.out 2).trans rfl; have hyf : ∀ j, w1.frozen? ⟨w.heap.size + 1, j, none⟩ = false := fun j => blk_frozen HK1.out j) | (go_at_call 25; (with_reducible refine (HSet.out _ HB1.out).mono ?_); clear HSet; rintro e w2 ⟨rfl, ⟨n2, rfl⟩⟩))
      obtain ⟨hb5, hk5⟩ := set3 (blk_drewN HK1.out _) (.slice none 0 0) (.slice none 0 0) (.slice none 0 0)
      refine bodyPost_ret (results_cell_row rfl _ _ (w.heap.size + 1) 27 #[.slice none 0 0, .slice none 0 0, .slice none 0 0] (0, 0) _ rfl hb5 Try.underlying27 rfl (by kernel_rfl)) rfl ?_
      exact ⟨_, _, _, rfl, TabR_nil _ _, below_set (below_set (below_set (pw_below_drewN HB1.out _) (by omega)) (by omega)) (by omega)⟩
  · have hct : tableOKb tv rows ws = false := by simpa using c1_
    rw [hct] at HT
    have hpv : projV tv rows ws vars = ([], [], []) := by
      unfold projV
      rw [if_neg c1_]
    rw [hpv]
    clear h0 h1 h2 h3 hkt hks hkc c1_ hct hpv b1r HC HSet
    go_enter Try.func9, Try.ntmps9
    go_wp2_with (first | (go_at_call 24; (with_reducible refine (HT.out _ (below_alloc (below_alloc HB.out _) _)).mono ?_); clear HT; rintro e w1 ⟨rfl, hb1⟩; have HK1 := Aside0.mk (two1 hb1); have HK0 := Aside0.mk (two0 hb1); have HB1 : Aside0 (Below w.heap.size w w1) := ⟨below_step (below_alloc (below_alloc HB.out _) _) hb1⟩; have hx0 : w1.cell? ⟨w.heap.size, 0, none⟩ = some (.slice A0 tv.length c0) := (blk_cell HK0.out 0).trans rfl; have hx1 : w1.cell? ⟨w.heap.size, 1, none⟩ = some (.slice A1 rows.length c1) := (blk_cell HK0.out 1).trans rfl; have hx2 : w1.cell? ⟨w.heap.size, 2, none⟩ = some (.slice A2 ws.length c2) := (blk_cell HK0.out 2).trans rfl; clear hb1; have hy0 : w1.cell? ⟨w.heap.size + 1, 0, none⟩ = some (.slice none 0 0) := (blk_cell HK1.out 0).trans rfl; have hy1 : w1.cell? ⟨w.heap.size + 1, 1, none⟩ = some (.slice none 0 0) := (blk_cell HK1.out 1).trans rfl; have hy2 : w1.cell? ⟨w.heap.size + 1, 2, none⟩ = some (.slice none 0 0) := (blk_cell HK1.out 2).trans rfl; have hyf : ∀ j, w1.frozen? ⟨w.heap.size + 1, j, none⟩ = false := fun j => blk_frozen HK1.out j))
    obtain ⟨hb5, hk5⟩ := set3 HK1.out (.slice none 0 0) (.slice none 0 0) (.slice none 0 0)
    refine bodyPost_ret (results_cell_row rfl _ _ (w.heap.size + 1) 27 #[.slice none 0 0, .slice none 0 0, .slice none 0 0] (0, 0) _ rfl hb5 Try.underlying27 rfl (by kernel_rfl)) rfl ?_
    exact ⟨_, _, _, rfl, TabR_nil _ _, below_set (below_set (below_set (HB1.out) (by omega)) (by omega)) (by omega)⟩
end Go.Proofs.Ytkohcdddgjaijaa.PT
namespace Go.Proofs.Ytkohcdddgjaijaa.PT
open Go.RowKit Go.Proofs.Ytkohcdddgjaijaa.P Go.Proofs.YtkohcdddgjaijaaW.PrintWords Go.Proofs.Ytkohcdddgjaijaa.EvKit
set_option linter.unusedVariables false
theorem szSS_all : ∀ (l : List (List Int)) (a : Int), 0 ≤ szSS a l → (∀ x, x ∈ l → (x.length : Int) ≤ a) ∧ cntII l ≤ a
  | [], a, h => ⟨fun x hx => by simp at hx, by simpa [cntII, szSS] using h⟩
  | y :: r, a, h => by
    simp only [szSS] at h
    by_cases c : a - (y.length : Int) < 0
    · rw [if_pos c] at h; omega
    · rw [if_neg c] at h
      obtain ⟨h1, h2⟩ := szSS_all r _ h
      refine ⟨fun x hx => ?_, by simp only [cntII]; omega⟩
      rcases List.mem_cons.1 hx with rfl | hx
      · omega
      · have := h1 x hx; omega
theorem szII_all {l : List (List Int)} {a : Int} (h : 0 ≤ szIntSSv l a) : (l.length : Int) ≤ a ∧ (∀ x, x ∈ l → (x.length : Int) ≤ a) ∧ cntII l ≤ a ∧ szIntSSv l a ≤ a := by
  have h4 := szIntSSv_le l a h
  unfold szIntSSv at h
  by_cases c : a - (l.length : Int) < 0
  · rw [if_pos c] at h; omega
  · rw [if_neg c] at h
    obtain ⟨h1, h2⟩ := szSS_all l _ h
    exact ⟨by omega, fun x hx => by have := h1 x hx; omega, by omega, h4.2.1⟩
theorem szT_le5 {x : T3} {a : Int} (h : 0 ≤ szT x.1 x.2.1 x.2.2 a) : szT x.1 x.2.1 x.2.2 a ≤ a := (szT_le h).2.2.2.2
theorem szT_all {x : T3} {a : Int} (h : 0 ≤ szT x.1 x.2.1 x.2.2 a) (ha : a ≤ 1048576) : goodT x ∧ cntT x ≤ 3145728 ∧ 0 ≤ cntT x := by
  obtain ⟨h1, h2, h3, h4, h5⟩ := szT_le h
  have hc : cntII x.2.1 ≤ a := by
    unfold szT at h
    by_cases c1 : a - (x.1.length : Int) < 0
    · rw [if_pos c1] at h; omega
    · rw [if_neg c1] at h
      by_cases c2 : szIntSSv x.2.1 (a - x.1.length) < 0
      · rw [if_pos c2] at h; omega
      · have := (szII_all (l := x.2.1) (a := a - x.1.length) (by omega)).2.2.1
        omega
  have hn := cntII_ge x.2.1
  refine ⟨⟨by unfold goodI; omega, ⟨by omega, fun y hy => by have := h3 y hy; omega⟩, by unfold goodI; omega⟩, ?_, ?_⟩ <;> (unfold cntT; omega)
theorem asc_len : ∀ (l : List Int) (a : Int), asc a l = true → l = [] ∨ (l.length : Int) ≤ 5 - a
  | [], _, _ => .inl rfl
  | v :: r, a, h => by
    simp only [asc, Bool.and_eq_true, decide_eq_true_eq] at h
    right
    rcases asc_len r v h.2 with rfl | h2
    · simp; omega
    · simp only [List.length_cons]; omega
theorem asc_len6 {l : List Int} (h : asc (-1) l = true) : l.length ≤ 6 := by
  rcases asc_len l _ h with rfl | h
  · simp
  · omega
theorem cntII_le {m : Nat} : ∀ (l : List (List Int)), (∀ x, x ∈ l → x.length ≤ m) → cntII l ≤ l.length * m
  | [], _ => by simp [cntII]
  | a :: r, h => by
    have h1 := cntII_le r (fun x hx => h x (List.mem_cons_of_mem _ hx))
    have h2 := h a List.mem_cons_self
    simp only [cntII, List.length_cons]
    rw [Int.natCast_add, Int.add_mul]
    omega
end Go.Proofs.Ytkohcdddgjaijaa.PT
namespace Go.Proofs.Ytkohcdddgjaijaa.PT
open Go.RowKit Go.Proofs.Ytkohcdddgjaijaa.P Go.Proofs.YtkohcdddgjaijaaW.PrintWords Go.Proofs.Ytkohcdddgjaijaa.EvKit
set_option linter.unusedVariables false
theorem tableOK_parts {tv : List Int} {rows : List (List Int)} {ws : List Int} (h : tableOKb tv rows ws = true) : tv.length ≤ 6 ∧ rows.length ≤ 10000 ∧ ws.length = rows.length := by
  unfold tableOKb at h
  simp only [Bool.and_eq_true, decide_eq_true_eq] at h
  exact ⟨asc_len6 h.1.1.1, h.1.1.2, h.1.2⟩
theorem projV_small (tv : List Int) (rows : List (List Int)) (ws vars : List Int) (hv : vars.length ≤ 1048576) : goodT (projV tv rows ws vars) ∧ cntT (projV tv rows ws vars) ≤ 3145728 ∧ 0 ≤ cntT (projV tv rows ws vars) := by
  have hnil : goodT ([], [], []) ∧ cntT ([], [], []) ≤ 3145728 ∧ 0 ≤ cntT ([], [], []) := by
    refine ⟨⟨by simp [goodI], ⟨by simp, fun y hy => by simp at hy⟩, by simp [goodI]⟩, ?_, ?_⟩ <;> simp [cntT, cntII]
  unfold projV
  by_cases h1 : tableOKb tv rows ws = true
  · rw [if_pos h1]
    by_cases h2 : asc (-1) vars = true
    · rw [if_pos h2]
      by_cases h3 : subB vars tv = true
      · rw [if_pos h3]
        obtain ⟨p1, p2, p3⟩ := tableOK_parts h1
        have p4 := asc_len6 h2
        have hl := sdR_len (rows.map (projR tv vars))
        rw [List.length_map] at hl
        have hx : ∀ x, x ∈ sdR (rows.map (projR tv vars)) → x.length ≤ 6 := fun x hx => by
          rw [mem_sdR] at hx
          obtain ⟨r, _, rfl⟩ := List.mem_map.1 hx
          unfold projR
          rw [List.length_map]; exact p4
        have hc := cntII_le _ hx
        have hn := cntII_ge (sdR (rows.map (projR tv vars)))
        unfold projT
        refine ⟨⟨by show vars.length ≤ _; omega, ⟨by show (sdR _).length ≤ _; omega, fun y hy => by have := hx y hy; omega⟩, by show (List.replicate _ _).length ≤ _; rw [List.length_replicate]; omega⟩, ?_, ?_⟩
        all_goals
          unfold cntT
          show _
          simp only [List.length_replicate]
          omega
      · rw [if_neg h3]; exact hnil
    · rw [if_neg h2]; exact hnil
  · rw [if_neg h1]; exact hnil
theorem project_law {A0_0 : Option Addr} {c0_0 : Nat} {l0_0 : List Int} {A0_1 : Option Addr} {c0_1 : Nat} {l0_1 : List (List Int)} {A0_2 : Option Addr} {c0_2 : Nat} {l0_2 : List Int} {A1 : Option Addr} {c1 : Nat} {l1 : List Int} {w : World}
    (hr0_0 : Kd.C (Kd.int .i64) w A0_0 l0_0.length l0_0) (hc0_0 : l0_0.length ≤ c0_0) (hr0_1 : Kd.C (Kd.slice 3 (Kd.int .i64)) w A0_1 l0_1.length l0_1) (hc0_1 : l0_1.length ≤ c0_1) (hr0_2 : Kd.C (Kd.int .i64) w A0_2 l0_2.length l0_2) (hc0_2 : l0_2.length ≤ c0_2)
    (hr1 : Kd.C (Kd.int .i64) w A1 l1.length l1) (hc1 : l1.length ≤ c1) {G0 G1 : Prop} (g0 : G0) (g1 : G1) :
    Calls Try.prog 3 #[.agg #[.slice A0_0 l0_0.length c0_0, .slice A0_1 l0_1.length c0_1, .slice A0_2 l0_2.length c0_2], .slice A1 l1.length c1] w fun e w' => e = .returned (.bool true) ∧ Below w.heap.size w w' := by
  have small : l1.length ≤ 1048576 ∧ 0 ≤ szT l0_0 l0_1 l0_2 1048576 → goodT (l0_0, l0_1, l0_2) ∧ cntT (l0_0, l0_1, l0_2) ≤ 3145728 ∧ 0 ≤ cntT (l0_0, l0_1, l0_2) := fun h => szT_all (x := (l0_0, l0_1, l0_2)) h.2 (Int.le_refl _)
  refine lawProject_walk (l0_0, l0_1, l0_2) A0_0 c0_0 A0_1 c0_1 A0_2 c0_2 l1 A1 c1 (projV l0_0 l0_1 l0_2 l1) _ w ⟨⟨hc0_0, hr0_0⟩, ⟨hc0_1, hr0_1⟩, ⟨hc0_2, hr0_2⟩⟩ ⟨hc1, hr1⟩ rfl (fun h => ?_) (fun h => ?_) (fun h => ?_) (fun h => ?_)
  · exact ⟨(small h).1, h.1, (projV_small _ _ _ _ h.1).1, trivial⟩
  · have h1 := small h
    have h2 := projV_small l0_0 l0_1 l0_2 l1 h.1
    have h3 := h.1
    exact ⟨by omega, by omega, by omega, by omega, by omega⟩
  · obtain ⟨hg, _⟩ := small h
    intro W0 W q0_A0 q0_c0 q0_A1 q0_c1 q0_A2 q0_c2 q1_A0 q1_c0 t hx hy
    obtain ⟨k, hk⟩ := Ev.rounds (specProject_ev l0_0 l0_1 l0_2 l1 hg.1 hg.2.1.1 hg.2.1.2 h.1)
    have hxW := hx.tr t
    have hyW := hy.tr t
    refine (spec_Project.calls k q0_A0 q0_c0 l0_0 q0_A1 q0_c1 l0_1 q0_A2 q0_c2 l0_2 q1_A0 q1_c0 l1 _ _ _ W hxW.vars.2 hxW.vars.1 hxW.rows.2 hxW.rows.1 hxW.wts.2 hxW.wts.1 hyW.2 hyW.1 hk).mono ?_
    rintro e w' ⟨v0, v1, v2, rfl, h0, h1, h2, hb⟩
    obtain ⟨B0, d0, rfl, m0, n0⟩ := Kd.R_reads h0
    obtain ⟨B1, d1, rfl⟩ := Kd.V_slice h1
    obtain ⟨_, m1, n1⟩ := Kd.V_reads' h1
    obtain ⟨B2, d2, rfl, m2, n2⟩ := Kd.R_reads h2
    exact ⟨B0, d0, B1, d1, B2, d2, rfl, ⟨⟨m0, n0⟩, ⟨m1, n1⟩, ⟨m2, n2⟩⟩, Tr.of_below hb⟩
  · obtain ⟨hg, _⟩ := small h
    intro W0 W q0_A0 q0_c0 q0_A1 q0_c1 q0_A2 q0_c2 q1_A0 q1_c0 t hx hy
    have hxW := hx.tr t
    have hyW := hy.tr t
    refine (projectI_walk q0_A0 q0_c0 l0_0 q0_A1 q0_c1 l0_1 q0_A2 q0_c2 l0_2 q1_A0 q1_c0 l1 W hxW.vars.2 hxW.vars.1 hxW.rows.2 hxW.rows.1 hxW.wts.2 hxW.wts.1 hyW.2 hyW.1 hg.1 hg.2.1.1 hg.2.1.2 h.1).mono ?_
    rintro e w' ⟨v0, v1, v2, rfl, ht, hb⟩
    obtain ⟨B0, d0, B1, d1, B2, d2, bs, rfl, rfl, rfl, ho, hbs⟩ := oT_of ht.vars ht.rows ht.weights (fun k hk => hk.1) (fun k hk => hk.2) (fun k hk => hk)
    exact ⟨B0, d0, B1, d1, B2, d2, bs, rfl, ho, hbs, Tr.of_below hb⟩
end Go.Proofs.Ytkohcdddgjaijaa.PT
namespace Go.Proofs.Ytkohcdddgjaijaa.fnExactProject
open Go.ChangeShapes Go.WideShapes Go.ChangeAt Go.RowKit
open Go.ChangeMaps (open_string shut_string)
open Go.Proofs.Ytkohcdddgjaijaa.Opens Go.Proofs.YtkohcdddgjaijaaW.PrintWords
set_option linter.unusedVariables false
theorem own : ownKnob Try.prog.godebug = none := by kernel_rfl
theorem laidOut : laidOutB Try.prog = true := by kernel_rfl
def G3 (v : Int) : Prop := (Lit.int .i64 v).wf = true
theorem opens3 : Opens Try.prog (Kd.int .i64) 3 G3 := Opens.int Try.underlying3 (by kernel_rfl)
def G22 (v : (List Int)) : Prop := v.length ≤ maxLen ∧ ∀ x, x ∈ v → G3 x
theorem opens22 : Opens Try.prog (Kd.slice 3 (Kd.int .i64)) 22 G22 := Opens.slice Try.underlying22 (by kernel_rfl) opens3
def G23 (v : (List (List Int))) : Prop := v.length ≤ maxLen ∧ ∀ x, x ∈ v → G22 x
theorem opens23 : Opens Try.prog (Kd.slice 22 (Kd.slice 3 (Kd.int .i64))) 23 G23 := Opens.slice Try.underlying23 (by kernel_rfl) opens22
def G25P (v : ((List Int) × (List (List Int)) × (List Int))) : Prop := G22 (v.1) ∧ G23 (v.2.1) ∧ G22 (v.2.2)
theorem opens25 : Opens Try.prog (Kd.pair (Kd.slice 3 (Kd.int .i64)) (Kd.pair (Kd.slice 22 (Kd.slice 3 (Kd.int .i64))) (Kd.slice 3 (Kd.int .i64)))) 25 G25P := Opens.struct Try.underlying25 (by kernel_rfl) (fun enc W held n cs hl hf => (Opens.cons (o := 0) (k := 1) (Opens.fld (o := 0) opens22 (hf 0 _ rfl)) (Opens.cons (o := 1) (k := 1) (Opens.fld (o := 1) opens23 (hf 1 _ rfl)) (Opens.last (o := 2) (k := 1) (hl.trans rfl) (Opens.fld (o := 2) opens22 (hf 2 _ rfl))))))
set_option maxRecDepth 100000 in
theorem lifted (os : Os) (started : os.Started) (H : Type) (enc : TypeId × Value → H) :
    ReturnsInHanded {} Try.checked os 3 .any (Rows.fnExactProjectSpec.pre6 enc Try.prog Try.f3 Rows.fnExactProjectRow.domain false) (Rows.fnExactProjectSpec.post enc Try.prog Try.f3 false true false false) := by
  refine returnsInHanded_of_change_sized (C := Try.checked) own started (by kernel_rfl) Try.func3
    (ChangeSpec.witness6 (enc := enc) (C := Try.checked) false ⟨#[], #[.agg #[.slice none 0 0, .slice none 0 0, .slice none 0 0], .slice none 0 0], []⟩ 8 (by kernel_rfl) (by kernel_rfl) (by kernel_rfl) (by kernel_rfl)) ?_
  intro W base args ds gs before hval0 hW hcnd hsz0 _
  have hval : ∀ (j : Nat) t v, Try.f3.params[j]? = some t → args[j]? = some v → Value.okWide Try.prog W .any base t v := hval0
  have hW' := hW
  obtain ⟨p, q, hA0, hV, rfl, hfz, hnd⟩ := hW
  have hA : DataW.TrodAll enc Try.prog W 0 (fun _ => true) true Try.f3.params.toList args.toList ds p := hA0
  rw [Try.params3] at hA hval
  obtain ⟨v0, vs0, d0, ds0, p0, q0, hargs, rfl, rfl, h0, r0⟩ := trodAll_cons hA
  obtain ⟨v1, vs1, d1, ds1, p1, q1, rfl, rfl, rfl, h1, r1⟩ := trodAll_cons r0
  obtain ⟨rfl, rfl, rfl⟩ := trodAll_nil r1
  obtain rfl : args = #[v0, v1] := by cases args; simp_all
  obtain ⟨rfl, rfl⟩ := trodVars_none hV
  have k0 := h0
  have lt0 : ∀ x ∈ p0, x.block < W.heap.size := by obtain ⟨m, hm⟩ := k0; exact DataW.trod_lt m _ _ _ hm
  obtain ⟨cs0, rfl, sz0⟩ := okWide_struct Try.underlying25 (hval 0 25 v0 rfl rfl)
  obtain ⟨fu0, hf0⟩ := h0
  obtain ⟨x0, hK0, gg0⟩ := (opens25).2 enc W true fu0 _ _ hf0
  have hK0' : ((Kd.pair (Kd.slice 3 (Kd.int .i64)) (Kd.pair (Kd.slice 22 (Kd.slice 3 (Kd.int .i64))) (Kd.slice 3 (Kd.int .i64))))).K W x0 cs0.toList := hK0
  generalize hcs0 : cs0.toList = cl0 at hK0'
  obtain ⟨_, _, rfl, ⟨A0_0, c0_0, rfl, hc0_0, hr0_0⟩, ⟨_, _, rfl, ⟨A0_1, c0_1, rfl, hc0_1, hr0_1⟩, ⟨A0_2, c0_2, rfl, hc0_2, hr0_2⟩⟩⟩ := hK0'
  obtain rfl : cs0 = #[.slice A0_0 x0.1.length c0_0, .slice A0_1 x0.2.1.length c0_1, .slice A0_2 x0.2.2.length c0_2] := by cases cs0; simp_all
  have k1 := h1
  have lt1 : ∀ x ∈ p1, x.block < W.heap.size := by obtain ⟨m, hm⟩ := k1; exact DataW.trod_lt m _ _ _ hm
  obtain ⟨a1, len1, cap1, rfl⟩ := okWide_slice Try.underlying22 (hval 1 22 v1 rfl rfl)
  obtain ⟨fu1, hf1⟩ := h1
  obtain ⟨x1, hK1, gg1⟩ := (opens22).2 enc W true fu1 _ _ hf1
  obtain ⟨A1, c1, e1, hc1, hr1⟩ := hK1
  obtain ⟨rfl, rfl, rfl⟩ : a1 = A1 ∧ len1 = x1.length ∧ cap1 = c1 := by simpa [Value.cells] using e1
  clear hA0 hval0
  refine (Go.Proofs.Ytkohcdddgjaijaa.PT.project_law (w := W) (A0_0 := A0_0) (c0_0 := c0_0) (l0_0 := x0.1) (A0_1 := A0_1) (c0_1 := c0_1) (l0_1 := x0.2.1) (A0_2 := A0_2) (c0_2 := c0_2) (l0_2 := x0.2.2) (A1 := _) (c1 := _) (l1 := x1) (hr0_0 := hr0_0) (hc0_0 := hc0_0) (hr0_1 := hr0_1) (hc0_1 := hc0_1) (hr0_2 := hr0_2) (hc0_2 := hc0_2) (hr1 := hr1) (hc1 := hc1) gg0 gg1).mono fun e W' ⟨he, bel⟩ => ?_
  subst he
  exact ⟨_, rfl, _, _, _, [], _, [], hW', trodAll_mk1 (shut_bool Try.underlying4 _), (trodAll_cons_mk (Below.trod laidOut (by kernel_rfl) (of_decide_eq_true (by kernel_rfl)) k0 bel lt0) (trodAll_cons_mk (Below.trod laidOut (by kernel_rfl) (of_decide_eq_true (by kernel_rfl)) k1 bel lt1) trodAll_mk0)), rfl, bel.frame _, fun h => by cases h⟩
theorem over : Rows.fnExactProjectRow.holds Try.pinned (OpenSpec.ofChange Rows.fnExactProjectSpec) :=
  OpenClaim.holds_of_wide 3 Try.f3 rfl rfl rfl rfl rfl rfl rfl ⟨rfl, rfl, rfl, rfl, rfl⟩ rfl rfl rfl rfl rfl (by kernel_rfl) Try.func3 (by kernel_rfl)
    (of_decide_eq_true (by kernel_rfl)) (by unfold Func.isWrapper; first | (rw [if_pos (by decide +kernel)]; kernel_rfl) | (rw [if_neg (by decide +kernel)]; exact ⟨rfl, rfl⟩))
    (fun os started H enc _ => lifted os started H enc)
theorem proved : Rows.FnExactProjectSaid := over
#print axioms proved
end Go.Proofs.Ytkohcdddgjaijaa.fnExactProject
