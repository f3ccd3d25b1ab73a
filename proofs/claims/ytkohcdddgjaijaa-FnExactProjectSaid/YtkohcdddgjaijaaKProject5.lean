/-
  Part 5 of the proof of this: The law FnExactProject answers true at every argument.
-/
import Derived.Test.YtkohcdddgjaijaaKProject2
import Derived.Test.YtkohcdddgjaijaaKProject3
import Derived.Test.YtkohcdddgjaijaaKProject4
import Derived.Deep.LoopGhost
import Derived.Deep.RegionHeld3
import Derived.Shelf.SlSortCmp.Whole1
import Derived.Test.YtkohcdddgjaijaaProg
namespace Go.Proofs.Ytkohcdddgjaijaa.P
open Go.RowKit Go.Proofs.YtkohcdddgjaijaaW.PrintWords Go.Proofs.YtkohcdddgjaijaaW.PrintLast Go.Proofs.YtkohcdddgjaijaaW.PrintMore
attribute [local go_sem] max2_int min2_int max_two min_two max_three min_three max_four min_four
set_option linter.unusedVariables false
set_option linter.unusedSimpArgs false
def laws_heldTable.f (k : Nat) (l0_0 : List Int) (l0_1 : List (List Int)) (l0_2 : List Int) (a1 : Int) : Option (Int) := (laws_heldIntS.f k l0_0 a1).bind fun t300 => (if t300 < 0 then (some (-1)) else ((laws_heldIntSS.f k l0_1 t300).bind fun t301 => (if t301 < 0 then (some (-1)) else ((laws_heldIntS.f k l0_2 t301).bind fun t302 => (if t302 < 0 then (some (-1)) else (some t302))))))
theorem laws_heldTable.mono : ∀ a0 a1 a2 a3 k, LeO (laws_heldTable.f k a0 a1 a2 a3) (laws_heldTable.f (k + 1) a0 a1 a2 a3) := by
 intro a0 a1 a2 a3 k
 unfold laws_heldTable.f
 repeat' first
   | (with_reducible exact laws_heldIntS.mono _ _ _)
   | (with_reducible exact laws_heldIntSS.mono _ _ _)
   | (with_reducible exact LeO.refl _)
   | (with_reducible exact LeO.none _)
   | (with_reducible refine LeO.ite ?_ ?_)
   | (with_reducible refine LeO.bind ?_ (fun _ => ?_))
   | exact laws_heldIntS.mono _ _ _
   | exact laws_heldIntSS.mono _ _ _
   | exact LeO.none _
   | refine LeO.ite ?_ ?_
   | refine LeO.bind ?_ (fun _ => ?_)
set_option maxHeartbeats 8000000 in
set_option maxRecDepth 100000 in
theorem laws_heldTable.calls (k : Nat) (A0_0 : Option Addr) (c0_0 : Nat) (l0_0 : List Int) (A0_1 : Option Addr) (c0_1 : Nat) (l0_1 : List (List Int)) (A0_2 : Option Addr) (c0_2 : Nat) (l0_2 : List Int) (a1 : Int) (r : Int) (w : World) (hr0_0 : Kd.C (Kd.int .i64) w A0_0 l0_0.length l0_0) (hc0_0 : l0_0.length ≤ c0_0) (hr0_1 : Kd.C (Kd.slice 3 (Kd.int .i64)) w A0_1 l0_1.length l0_1) (hc0_1 : l0_1.length ≤ c0_1) (hr0_2 : Kd.C (Kd.int .i64) w A0_2 l0_2.length l0_2) (hc0_2 : l0_2.length ≤ c0_2) (h : laws_heldTable.f k l0_0 l0_1 l0_2 a1 = some r) :
  Calls Try.prog 14 #[.agg #[.slice A0_0 l0_0.length c0_0, .slice A0_1 l0_1.length c0_1, .slice A0_2 l0_2.length c0_2], .int .i64 a1] w fun e w' => e = .returned (.int .i64 r) ∧ Below w.heap.size w w' := by
 have hu27 := Try.underlying27
 have HR0_0 := Aside0.mk hr0_0
 have HC0_0 := Aside0.mk hc0_0
 clear hr0_0 hc0_0
 have HR0_1 := Aside0.mk hr0_1
 have HC0_1 := Aside0.mk hc0_1
 clear hr0_1 hc0_1
 have HR0_2 := Aside0.mk hr0_2
 have HC0_2 := Aside0.mk hc0_2
 clear hr0_2 hc0_2
 have HB := Aside0.mk (Below.refl w.heap.size w)
 have H : ((laws_heldIntS.f k l0_0 a1).bind fun t300 => (if t300 < 0 then (some (-1)) else ((laws_heldIntSS.f k l0_1 t300).bind fun t301 => (if t301 < 0 then (some (-1)) else ((laws_heldIntS.f k l0_2 t301).bind fun t302 => (if t302 < 0 then (some (-1)) else (some t302))))))) = some r := h
 clear h
 replace H := Option.bind_eq_some_iff.mp H
 obtain ⟨t300, A30, H⟩ := H
 replace H : (if t300 < 0 then (some (-1)) else ((laws_heldIntSS.f k l0_1 t300).bind fun t301 => (if t301 < 0 then (some (-1)) else ((laws_heldIntS.f k l0_2 t301).bind fun t302 => (if t302 < 0 then (some (-1)) else (some t302)))))) = some r := H
 have A3 := Aside0.mk A30
 clear A30
 by_cases c4 : t300 < 0
 ·rw [if_pos c4] at H
  have c4b0 : decide (t300 < 0) = true := decide_eq_true c4
  clear c4
  obtain rfl := Option.some.inj H
  go_enter Try.func14, Try.ntmps14
  go_wp2_with (first | ((with_reducible refine gate_dst (N := 2) rfl ?_); refine box_event ?hg (N := 2) ?hd (cs := #[.slice A0_0 l0_0.length c0_0, .slice A0_1 l0_1.length c0_1, .slice A0_2 l0_2.length c0_2]) (t := 27) ?hr ?_; (case hd => rfl); (case hg => rfl); (case hr => first | (go_simp; done) | (go_simp; rfl)); intro gb299 hg w5 hbox hb; have n0_ := Aside0.mk (below_step (by repeat (first | (with_reducible first | exact HB.out | apply below_alloc | apply pw_below_drewN | apply below_drew1) | exact HB.out)) hb); have n1_ := Aside0.mk (hbox); have n2_ := Aside0.mk ((by rw [hg]; exact (below_size (by repeat (first | (with_reducible first | exact HB.out | apply below_alloc | apply pw_below_drewN | apply below_drew1) | exact HB.out))) : w.heap.size ≤ gb299)); have n3_ := Aside0.mk ((by rw [hg]; exact (below_size (by repeat (first | (with_reducible first | exact HB.out | apply below_alloc | apply pw_below_drewN | apply below_drew1) | exact HB.out))) : w.heap.size ≤ gb299)); clear HB; have HB := n0_; have BK299 := n1_; have GW299 := n2_; have GE299 := n3_; clear n0_ n1_ n2_ n3_; clear hb hbox hg; have hcz6_0 : w5.cell? ⟨gb299, 0, none⟩ = some (.slice A0_0 l0_0.length c0_0) := (blk_cell BK299.out 0).trans rfl; have hcz6_1 : w5.cell? ⟨gb299, 1, none⟩ = some (.slice A0_1 l0_1.length c0_1) := (blk_cell BK299.out 1).trans rfl; have hcz6_2 : w5.cell? ⟨gb299, 2, none⟩ = some (.slice A0_2 l0_2.length c0_2) := (blk_cell BK299.out 2).trans rfl; have hfz6_0 := blk_frozen BK299.out 0; have hfz6_1 := blk_frozen BK299.out 1; have hfz6_2 := blk_frozen BK299.out 2) | ((with_reducible refine gate_callee (f := 31) rfl ?_); refine goesL_ (some 8) rfl rfl Try.func31 (by kernel_rfl) rfl #[.slice A0_0 l0_0.length c0_0, .int .i64 a1] rfl (by (try simp only [List.map_toArray, List.map_cons, List.map_nil]); first | done | rfl | (simp only [List.length_drop, List.length_take]; rfl)) ?_; (with_reducible refine (laws_heldIntS.calls k _ _ l0_0 a1 t300 _ ?side1 ?side2 A3.out).mono ?_); (case side1 => repeat (first | exact (Kd.C_below HR0_0.out HB.out) | (with_reducible refine Kd.C_alloc ?_ _) | (with_reducible refine Kd.C_drewN ?_ _) | (with_reducible refine Kd.C_drew ?_))); (case side2 => exact HC0_0.out); rintro e w' ⟨rfl, ⟨nd, rfl⟩⟩; refine ⟨_, rfl, ?_⟩))
  go_ret
  exact ⟨by first | rfl | (simp [errW_none, errW_some] <;> rfl) | (simp [*, errW_none, errW_some] <;> rfl), by repeat (first | (with_reducible first | exact HB.out | apply below_alloc | apply pw_below_drewN | apply below_drew1 | refine below_set ?_ GE299.out) | exact HB.out)⟩
 ·rw [if_neg c4] at H
  have c4b0 : decide (t300 < 0) = false := decide_eq_false c4
  clear c4
  replace H := Option.bind_eq_some_iff.mp H
  obtain ⟨t301, A70, H⟩ := H
  replace H : (if t301 < 0 then (some (-1)) else ((laws_heldIntS.f k l0_2 t301).bind fun t302 => (if t302 < 0 then (some (-1)) else (some t302)))) = some r := H
  have A7 := Aside0.mk A70
  clear A70
  by_cases c8 : t301 < 0
  ·rw [if_pos c8] at H
   have c8b0 : decide (t301 < 0) = true := decide_eq_true c8
   clear c8
   obtain rfl := Option.some.inj H
   go_enter Try.func14, Try.ntmps14
   go_wp2_with (first | ((with_reducible refine gate_dst (N := 2) rfl ?_); refine box_event ?hg (N := 2) ?hd (cs := #[.slice A0_0 l0_0.length c0_0, .slice A0_1 l0_1.length c0_1, .slice A0_2 l0_2.length c0_2]) (t := 27) ?hr ?_; (case hd => rfl); (case hg => rfl); (case hr => first | (go_simp; done) | (go_simp; rfl)); intro gb299 hg w9 hbox hb; have n0_ := Aside0.mk (below_step (by repeat (first | (with_reducible first | exact HB.out | apply below_alloc | apply pw_below_drewN | apply below_drew1) | exact HB.out)) hb); have n1_ := Aside0.mk (hbox); have n2_ := Aside0.mk ((by rw [hg]; exact (below_size (by repeat (first | (with_reducible first | exact HB.out | apply below_alloc | apply pw_below_drewN | apply below_drew1) | exact HB.out))) : w.heap.size ≤ gb299)); have n3_ := Aside0.mk ((by rw [hg]; exact (below_size (by repeat (first | (with_reducible first | exact HB.out | apply below_alloc | apply pw_below_drewN | apply below_drew1) | exact HB.out))) : w.heap.size ≤ gb299)); clear HB; have HB := n0_; have BK299 := n1_; have GW299 := n2_; have GE299 := n3_; clear n0_ n1_ n2_ n3_; clear hb hbox hg; have hcz10_0 : w9.cell? ⟨gb299, 0, none⟩ = some (.slice A0_0 l0_0.length c0_0) := (blk_cell BK299.out 0).trans rfl; have hcz10_1 : w9.cell? ⟨gb299, 1, none⟩ = some (.slice A0_1 l0_1.length c0_1) := (blk_cell BK299.out 1).trans rfl; have hcz10_2 : w9.cell? ⟨gb299, 2, none⟩ = some (.slice A0_2 l0_2.length c0_2) := (blk_cell BK299.out 2).trans rfl; have hfz10_0 := blk_frozen BK299.out 0; have hfz10_1 := blk_frozen BK299.out 1; have hfz10_2 := blk_frozen BK299.out 2) | ((with_reducible refine gate_callee (f := 31) rfl ?_); refine goesL_ (some 8) rfl rfl Try.func31 (by kernel_rfl) rfl #[.slice A0_0 l0_0.length c0_0, .int .i64 a1] rfl (by (try simp only [List.map_toArray, List.map_cons, List.map_nil]); first | done | rfl | (simp only [List.length_drop, List.length_take]; rfl)) ?_; (with_reducible refine (laws_heldIntS.calls k _ _ l0_0 a1 t300 _ ?side1 ?side2 A3.out).mono ?_); (case side1 => repeat (first | exact (Kd.C_below HR0_0.out HB.out) | (with_reducible refine Kd.C_alloc ?_ _) | (with_reducible refine Kd.C_drewN ?_ _) | (with_reducible refine Kd.C_drew ?_))); (case side2 => exact HC0_0.out); rintro e w' ⟨rfl, ⟨nd, rfl⟩⟩; refine ⟨_, rfl, ?_⟩) | ((with_reducible refine gate_callee (f := 32) rfl ?_); refine goesL_ (some 14) rfl rfl Try.func32 (by kernel_rfl) rfl #[.slice A0_1 l0_1.length c0_1, .int .i64 t300] rfl (by (try simp only [List.map_toArray, List.map_cons, List.map_nil]); first | done | rfl | (simp only [List.length_drop, List.length_take]; rfl)) ?_; (with_reducible refine (laws_heldIntSS.calls k _ _ l0_1 t300 t301 _ ?side1 ?side2 A7.out).mono ?_); (case side1 => repeat (first | exact (Kd.C_below HR0_1.out (by repeat (first | (with_reducible first | exact HB.out | apply below_alloc | apply pw_below_drewN | apply below_drew1 | refine below_set ?_ GE299.out) | exact HB.out))) | (with_reducible refine Kd.C_alloc ?_ _) | (with_reducible refine Kd.C_drewN ?_ _) | (with_reducible refine Kd.C_drew ?_))); (case side2 => exact HC0_1.out); rintro e w' ⟨rfl, ⟨nd, rfl⟩⟩; refine ⟨_, rfl, ?_⟩))
   go_ret
   exact ⟨by first | rfl | (simp [errW_none, errW_some] <;> rfl) | (simp [*, errW_none, errW_some] <;> rfl), by repeat (first | (with_reducible first | exact HB.out | apply below_alloc | apply pw_below_drewN | apply below_drew1 | refine below_set ?_ GE299.out) | exact HB.out)⟩
  ·rw [if_neg c8] at H
   have c8b0 : decide (t301 < 0) = false := decide_eq_false c8
   clear c8
   replace H := Option.bind_eq_some_iff.mp H
   obtain ⟨t302, A110, H⟩ := H
   replace H : (if t302 < 0 then (some (-1)) else (some t302)) = some r := H
   have A11 := Aside0.mk A110
   clear A110
   by_cases c12 : t302 < 0
   ·rw [if_pos c12] at H
    have c12b0 : decide (t302 < 0) = true := decide_eq_true c12
    clear c12
    obtain rfl := Option.some.inj H
    go_enter Try.func14, Try.ntmps14
    go_wp2_with (first | ((with_reducible refine gate_dst (N := 2) rfl ?_); refine box_event ?hg (N := 2) ?hd (cs := #[.slice A0_0 l0_0.length c0_0, .slice A0_1 l0_1.length c0_1, .slice A0_2 l0_2.length c0_2]) (t := 27) ?hr ?_; (case hd => rfl); (case hg => rfl); (case hr => first | (go_simp; done) | (go_simp; rfl)); intro gb299 hg w13 hbox hb; have n0_ := Aside0.mk (below_step (by repeat (first | (with_reducible first | exact HB.out | apply below_alloc | apply pw_below_drewN | apply below_drew1) | exact HB.out)) hb); have n1_ := Aside0.mk (hbox); have n2_ := Aside0.mk ((by rw [hg]; exact (below_size (by repeat (first | (with_reducible first | exact HB.out | apply below_alloc | apply pw_below_drewN | apply below_drew1) | exact HB.out))) : w.heap.size ≤ gb299)); have n3_ := Aside0.mk ((by rw [hg]; exact (below_size (by repeat (first | (with_reducible first | exact HB.out | apply below_alloc | apply pw_below_drewN | apply below_drew1) | exact HB.out))) : w.heap.size ≤ gb299)); clear HB; have HB := n0_; have BK299 := n1_; have GW299 := n2_; have GE299 := n3_; clear n0_ n1_ n2_ n3_; clear hb hbox hg; have hcz14_0 : w13.cell? ⟨gb299, 0, none⟩ = some (.slice A0_0 l0_0.length c0_0) := (blk_cell BK299.out 0).trans rfl; have hcz14_1 : w13.cell? ⟨gb299, 1, none⟩ = some (.slice A0_1 l0_1.length c0_1) := (blk_cell BK299.out 1).trans rfl; have hcz14_2 : w13.cell? ⟨gb299, 2, none⟩ = some (.slice A0_2 l0_2.length c0_2) := (blk_cell BK299.out 2).trans rfl; have hfz14_0 := blk_frozen BK299.out 0; have hfz14_1 := blk_frozen BK299.out 1; have hfz14_2 := blk_frozen BK299.out 2) | ((with_reducible refine gate_callee (f := 31) rfl ?_); refine goesL_ (some 8) rfl rfl Try.func31 (by kernel_rfl) rfl #[.slice A0_0 l0_0.length c0_0, .int .i64 a1] rfl (by (try simp only [List.map_toArray, List.map_cons, List.map_nil]); first | done | rfl | (simp only [List.length_drop, List.length_take]; rfl)) ?_; (with_reducible refine (laws_heldIntS.calls k _ _ l0_0 a1 t300 _ ?side1 ?side2 A3.out).mono ?_); (case side1 => repeat (first | exact (Kd.C_below HR0_0.out HB.out) | (with_reducible refine Kd.C_alloc ?_ _) | (with_reducible refine Kd.C_drewN ?_ _) | (with_reducible refine Kd.C_drew ?_))); (case side2 => exact HC0_0.out); rintro e w' ⟨rfl, ⟨nd, rfl⟩⟩; refine ⟨_, rfl, ?_⟩) | ((with_reducible refine gate_callee (f := 32) rfl ?_); refine goesL_ (some 14) rfl rfl Try.func32 (by kernel_rfl) rfl #[.slice A0_1 l0_1.length c0_1, .int .i64 t300] rfl (by (try simp only [List.map_toArray, List.map_cons, List.map_nil]); first | done | rfl | (simp only [List.length_drop, List.length_take]; rfl)) ?_; (with_reducible refine (laws_heldIntSS.calls k _ _ l0_1 t300 t301 _ ?side1 ?side2 A7.out).mono ?_); (case side1 => repeat (first | exact (Kd.C_below HR0_1.out (by repeat (first | (with_reducible first | exact HB.out | apply below_alloc | apply pw_below_drewN | apply below_drew1 | refine below_set ?_ GE299.out) | exact HB.out))) | (with_reducible refine Kd.C_alloc ?_ _) | (with_reducible refine Kd.C_drewN ?_ _) | (with_reducible refine Kd.C_drew ?_))); (case side2 => exact HC0_1.out); rintro e w' ⟨rfl, ⟨nd, rfl⟩⟩; refine ⟨_, rfl, ?_⟩) | ((with_reducible refine gate_callee (f := 31) rfl ?_); refine goesL_ (some 20) rfl rfl Try.func31 (by kernel_rfl) rfl #[.slice A0_2 l0_2.length c0_2, .int .i64 t301] rfl (by (try simp only [List.map_toArray, List.map_cons, List.map_nil]); first | done | rfl | (simp only [List.length_drop, List.length_take]; rfl)) ?_; (with_reducible refine (laws_heldIntS.calls k _ _ l0_2 t301 t302 _ ?side1 ?side2 A11.out).mono ?_); (case side1 => repeat (first | exact (Kd.C_below HR0_2.out (by repeat (first | (with_reducible first | exact HB.out | apply below_alloc | apply pw_below_drewN | apply below_drew1 | refine below_set ?_ GE299.out) | exact HB.out))) | (with_reducible refine Kd.C_alloc ?_ _) | (with_reducible refine Kd.C_drewN ?_ _) | (with_reducible refine Kd.C_drew ?_))); (case side2 => exact HC0_2.out); rintro e w' ⟨rfl, ⟨nd, rfl⟩⟩; refine ⟨_, rfl, ?_⟩))
    go_ret
    exact ⟨by first | rfl | (simp [errW_none, errW_some] <;> rfl) | (simp [*, errW_none, errW_some] <;> rfl), by repeat (first | (with_reducible first | exact HB.out | apply below_alloc | apply pw_below_drewN | apply below_drew1 | refine below_set ?_ GE299.out) | exact HB.out)⟩
   ·rw [if_neg c12] at H
    have c12b0 : decide (t302 < 0) = false := decide_eq_false c12
    clear c12
    obtain rfl := Option.some.inj H
    go_enter Try.func14, Try.ntmps14
    go_wp2_with (first | ((with_reducible refine gate_dst (N := 2) rfl ?_); refine box_event ?hg (N := 2) ?hd (cs := #[.slice A0_0 l0_0.length c0_0, .slice A0_1 l0_1.length c0_1, .slice A0_2 l0_2.length c0_2]) (t := 27) ?hr ?_; (case hd => rfl); (case hg => rfl); (case hr => first | (go_simp; done) | (go_simp; rfl)); intro gb299 hg w15 hbox hb; have n0_ := Aside0.mk (below_step (by repeat (first | (with_reducible first | exact HB.out | apply below_alloc | apply pw_below_drewN | apply below_drew1) | exact HB.out)) hb); have n1_ := Aside0.mk (hbox); have n2_ := Aside0.mk ((by rw [hg]; exact (below_size (by repeat (first | (with_reducible first | exact HB.out | apply below_alloc | apply pw_below_drewN | apply below_drew1) | exact HB.out))) : w.heap.size ≤ gb299)); have n3_ := Aside0.mk ((by rw [hg]; exact (below_size (by repeat (first | (with_reducible first | exact HB.out | apply below_alloc | apply pw_below_drewN | apply below_drew1) | exact HB.out))) : w.heap.size ≤ gb299)); clear HB; have HB := n0_; have BK299 := n1_; have GW299 := n2_; have GE299 := n3_; clear n0_ n1_ n2_ n3_; clear hb hbox hg; have hcz16_0 : w15.cell? ⟨gb299, 0, none⟩ = some (.slice A0_0 l0_0.length c0_0) := (blk_cell BK299.out 0).trans rfl; have hcz16_1 : w15.cell? ⟨gb299, 1, none⟩ = some (.slice A0_1 l0_1.length c0_1) := (blk_cell BK299.out 1).trans rfl; have hcz16_2 : w15.cell? ⟨gb299, 2, none⟩ = some (.slice A0_2 l0_2.length c0_2) := (blk_cell BK299.out 2).trans rfl; have hfz16_0 := blk_frozen BK299.out 0; have hfz16_1 := blk_frozen BK299.out 1; have hfz16_2 := blk_frozen BK299.out 2) | ((with_reducible refine gate_callee (f := 31) rfl ?_); refine goesL_ (some 8) rfl rfl Try.func31 (by kernel_rfl) rfl #[.slice A0_0 l0_0.length c0_0, .int .i64 a1] rfl (by (try simp only [List.map_toArray, List.map_cons, List.map_nil]); first | done | rfl | (simp only [List.length_drop, List.length_take]; rfl)) ?_; (with_reducible refine (laws_heldIntS.calls k _ _ l0_0 a1 t300 _ ?side1 ?side2 A3.out).mono ?_); (case side1 => repeat (first | exact (Kd.C_below HR0_0.out HB.out) | (with_reducible refine Kd.C_alloc ?_ _) | (with_reducible refine Kd.C_drewN ?_ _) | (with_reducible refine Kd.C_drew ?_))); (case side2 => exact HC0_0.out); rintro e w' ⟨rfl, ⟨nd, rfl⟩⟩; refine ⟨_, rfl, ?_⟩) | ((with_reducible refine gate_callee (f := 32) rfl ?_); refine goesL_ (some 14) rfl rfl Try.func32 (by kernel_rfl) rfl #[.slice A0_1 l0_1.length c0_1, .int .i64 t300] rfl (by (try simp only [List.map_toArray, List.map_cons, List.map_nil]); first | done | rfl | (simp only [List.length_drop, List.length_take]; rfl)) ?_; (with_reducible refine (laws_heldIntSS.calls k _ _ l0_1 t300 t301 _ ?side1 ?side2 A7.out).mono ?_); (case side1 => repeat (first | exact (Kd.C_below HR0_1.out (by repeat (first | (with_reducible first | exact HB.out | apply below_alloc | apply pw_below_drewN | apply below_drew1 | refine below_set ?_ GE299.out) | exact HB.out))) | (with_reducible refine Kd.C_alloc ?_ _) | (with_reducible refine Kd.C_drewN ?_ _) | (with_reducible refine Kd.C_drew ?_))); (case side2 => exact HC0_1.out); rintro e w' ⟨rfl, ⟨nd, rfl⟩⟩; refine ⟨_, rfl, ?_⟩) | ((with_reducible refine gate_callee (f := 31) rfl ?_); refine goesL_ (some 20) rfl rfl Try.func31 (by kernel_rfl) rfl #[.slice A0_2 l0_2.length c0_2, .int .i64 t301] rfl (by (try simp only [List.map_toArray, List.map_cons, List.map_nil]); first | done | rfl | (simp only [List.length_drop, List.length_take]; rfl)) ?_; (with_reducible refine (laws_heldIntS.calls k _ _ l0_2 t301 t302 _ ?side1 ?side2 A11.out).mono ?_); (case side1 => repeat (first | exact (Kd.C_below HR0_2.out (by repeat (first | (with_reducible first | exact HB.out | apply below_alloc | apply pw_below_drewN | apply below_drew1 | refine below_set ?_ GE299.out) | exact HB.out))) | (with_reducible refine Kd.C_alloc ?_ _) | (with_reducible refine Kd.C_drewN ?_ _) | (with_reducible refine Kd.C_drew ?_))); (case side2 => exact HC0_2.out); rintro e w' ⟨rfl, ⟨nd, rfl⟩⟩; refine ⟨_, rfl, ?_⟩))
    go_ret
    exact ⟨by first | rfl | (simp [errW_none, errW_some] <;> rfl) | (simp [*, errW_none, errW_some] <;> rfl), by repeat (first | (with_reducible first | exact HB.out | apply below_alloc | apply pw_below_drewN | apply below_drew1 | refine below_set ?_ GE299.out) | exact HB.out)⟩
end Go.Proofs.Ytkohcdddgjaijaa.P
namespace Go.Proofs.Ytkohcdddgjaijaa.PT
open Go.RowKit Go.Proofs.Ytkohcdddgjaijaa.P Go.Proofs.YtkohcdddgjaijaaW.PrintWords Go.Proofs.YtkohcdddgjaijaaW.PrintLast Go.Proofs.Ytkohcdddgjaijaa.EvKit
set_option linter.unusedVariables false
set_option linter.unusedSimpArgs false
namespace Ow
theorem pair_one {α β : Type} {A : Ow α} {B : Ow β} {W : World} {x : α} {y : β} {u : Value} {cs : List Value} {bs : List Nat} (hA : A.kd.sz = 1) (h : (pair A B).own W (x, y) (u :: cs) bs) :
    ∃ b1 b2, bs = b1 ++ b2 ∧ bs.Nodup ∧ A.own W x [u] b1 ∧ B.own W y cs b2 := by
  obtain ⟨c1, c2, b1, b2, e, hb, hn, ha, hb'⟩ := h
  have hl := A.kd.K_len (A.rd ha)
  rw [hA] at hl
  obtain ⟨v, rfl⟩ : ∃ v, c1 = [v] := by
    match c1, hl with
    | [v], _ => exact ⟨v, rfl⟩
  simp only [List.cons_append, List.nil_append, List.cons.injEq] at e
  obtain ⟨rfl, rfl⟩ := e
  exact ⟨b1, b2, hb, hn, ha, hb'⟩
end Ow
abbrev owT : Ow (List Int × List (List Int) × List Int) := Ow.pair owI (Ow.pair owII owI)
abbrev T3 := List Int × List (List Int) × List Int
structure RdT (W : World) (x : T3) (A0 : Option Addr) (c0 : Nat) (A1 : Option Addr) (c1 : Nat) (A2 : Option Addr) (c2 : Nat) : Prop where
  vars : RdI W x.1 A0 c0
  rows : RdII W x.2.1 A1 c1
  wts : RdI W x.2.2 A2 c2
theorem RdT.tr {W W' : World} {x : T3} {A0 : Option Addr} {c0 : Nat} {A1 : Option Addr} {c1 : Nat} {A2 : Option Addr} {c2 : Nat} (h : RdT W x A0 c0 A1 c1 A2 c2) (t : tr0 W W') : RdT W' x A0 c0 A1 c1 A2 c2 := ⟨h.vars.tr t, h.rows.tr t, h.wts.tr t⟩
def goodT (x : T3) : Prop := goodI x.1 ∧ goodII x.2.1 ∧ goodI x.2.2
def cntT (x : T3) : Int := x.1.length + cntII x.2.1 + x.2.2.length
def mkT (k : Int) (x : T3) : T3 := (markI k x.1, markII (k + x.1.length) x.2.1, markI (k + x.1.length + cntII x.2.1) x.2.2)
abbrev valT (x : T3) (A0 : Option Addr) (c0 : Nat) (A1 : Option Addr) (c1 : Nat) (A2 : Option Addr) (c2 : Nat) : Value := .agg #[.slice A0 x.1.length c0, .slice A1 x.2.1.length c1, .slice A2 x.2.2.length c2]
abbrev oT (W : World) (x : T3) (A0 : Option Addr) (n0 c0 : Nat) (A1 : Option Addr) (n1 c1 : Nat) (A2 : Option Addr) (n2 c2 : Nat) (bs : List Nat) : Prop := owT.own W x [.slice A0 n0 c0, .slice A1 n1 c1, .slice A2 n2 c2] bs
theorem oT.parts {W : World} {x : T3} {A0 : Option Addr} {n0 c0 : Nat} {A1 : Option Addr} {n1 c1 : Nat} {A2 : Option Addr} {n2 c2 : Nat} {bs : List Nat} (h : oT W x A0 n0 c0 A1 n1 c1 A2 n2 c2 bs) :
    ∃ b0 b1 b2, bs = b0 ++ (b1 ++ b2) ∧ bs.Nodup ∧ oI W x.1 A0 n0 c0 b0 ∧ oII W x.2.1 A1 n1 c1 b1 ∧ oI W x.2.2 A2 n2 c2 b2 := by
  obtain ⟨b0, b', rfl, hn, h0, h'⟩ := Ow.pair_one rfl h
  obtain ⟨b1, b2, rfl, _, h1, h2⟩ := Ow.pair_one rfl h'
  exact ⟨b0, b1, b2, rfl, hn, h0, h1, h2⟩
theorem oT.mk {W : World} {x : T3} {A0 : Option Addr} {n0 c0 : Nat} {A1 : Option Addr} {n1 c1 : Nat} {A2 : Option Addr} {n2 c2 : Nat} {b0 b1 b2 : List Nat} (h0 : oI W x.1 A0 n0 c0 b0) (h1 : oII W x.2.1 A1 n1 c1 b1) (h2 : oI W x.2.2 A2 n2 c2 b2)
    (d01 : ∀ b, b ∈ b0 → b ∈ b1 → False) (d02 : ∀ b, b ∈ b0 → b ∈ b2 → False) (d12 : ∀ b, b ∈ b1 → b ∈ b2 → False) : oT W x A0 n0 c0 A1 n1 c1 A2 n2 c2 (b0 ++ (b1 ++ b2)) :=
  Ow.pair_mk (c1 := [_]) h0 (Ow.pair_mk (c1 := [_]) (c2 := [_]) h1 h2 d12) (fun b hb hb' => by
    rcases List.mem_append.1 hb' with hb' | hb'
    · exact d01 b hb hb'
    · exact d02 b hb hb')
theorem oT.rd {W : World} {x : T3} {A0 : Option Addr} {n0 c0 : Nat} {A1 : Option Addr} {n1 c1 : Nat} {A2 : Option Addr} {n2 c2 : Nat} {bs : List Nat} (h : oT W x A0 n0 c0 A1 n1 c1 A2 n2 c2 bs) : RdT W x A0 c0 A1 c1 A2 c2 := by
  obtain ⟨_, _, _, _, _, h0, h1, h2⟩ := h.parts
  exact ⟨h0.rd, h1.rd, h2.rd⟩
def ToT (W0 W : World) (x : T3) (e : Ending) (w' : World) : Prop := ∃ A0 c0 A1 c1 A2 c2 bs, e = .returned (valT x A0 c0 A1 c1 A2 c2) ∧ oT w' x A0 x.1.length c0 A1 x.2.1.length c1 A2 x.2.2.length c2 bs ∧ (∀ b, b ∈ bs → W.heap.size ≤ b) ∧ tr0 W w'
theorem oT_of {W : World} {base : Nat} {x : T3} {v0 v1 v2 : Value} {ok0 ok1 ok2 : Nat → Prop} (h0 : Kd.R (Kd.int .i64) 3 W base ok0 v0 x.1) (h1 : Kd.S (Kd.slice 3 (Kd.int .i64)) 22 W base ok1 v1 x.2.1) (h2 : Kd.R (Kd.int .i64) 3 W base ok2 v2 x.2.2)
    (d01 : ∀ k, ok1 k → some k ≠ v0.ownBlock) (d12 : ∀ k, ok1 k → some k ≠ v2.ownBlock) (d02 : ∀ k, ok0 k → some k ≠ v2.ownBlock) :
    ∃ A0 c0 A1 c1 A2 c2 bs, v0 = .slice A0 x.1.length c0 ∧ v1 = .slice A1 x.2.1.length c1 ∧ v2 = .slice A2 x.2.2.length c2 ∧ oT W x A0 x.1.length c0 A1 x.2.1.length c1 A2 x.2.2.length c2 bs ∧ ∀ b, b ∈ bs → base ≤ b := by
  obtain ⟨A0, c0, rfl⟩ := Kd.R_slice h0
  obtain ⟨A1, c1, rfl⟩ := Kd.S_slice h1
  obtain ⟨A2, c2, rfl⟩ := Kd.R_slice h2
  obtain ⟨b0, o0, g0⟩ := owI_of (Kd.R_mono (Kd.R_tight rfl h0) (ok' := fun k => some k = (Value.slice A0 x.1.length c0).ownBlock ∧ ok0 k) (fun k hk => ⟨hk, h0.1 k hk.symm⟩))
  obtain ⟨b1, o1, g1⟩ := owII_of h1
  obtain ⟨b2, o2, g2⟩ := owI_of (Kd.R_tight rfl h2)
  refine ⟨A0, c0, A1, c1, A2, c2, b0 ++ (b1 ++ b2), rfl, rfl, rfl, oT.mk o0 o1 o2 (fun b hb hb' => d01 b (g1 b hb').1 (g0 b hb).1.1) (fun b hb hb' => d02 b (g0 b hb).1.2 (g2 b hb').1) (fun b hb hb' => d12 b (g1 b hb).1 (g2 b hb').1), fun b hb => ?_⟩
  rcases List.mem_append.1 hb with hb | hb
  · exact (g0 b hb).2
  · rcases List.mem_append.1 hb with hb | hb
    · exact (g1 b hb).2
    · exact (g2 b hb).2
theorem szT_c {W0 W : World} {x : T3} {A0 : Option Addr} {c0 : Nat} {A1 : Option Addr} {c1 : Nat} {A2 : Option Addr} {c2 : Nat} (h : RdT W0 x A0 c0 A1 c1 A2 c2) (z : Int) (h1 : -1 ≤ z) (h2 : z ≤ 1048576) (t : tr0 W0 W) :
    Calls Try.prog 5 #[valT x A0 c0 A1 c1 A2 c2, .int .i64 z] W fun e w' => e = .returned (.int .i64 (szT x.1 x.2.1 x.2.2 z)) ∧ tr0 W w' := by
  have l0 := h.vars.2.2.1
  have l1 := h.rows.2.2.1
  have l2 := h.wts.2.2.1
  obtain ⟨k, hk⟩ := Ev.rounds (szTable_ev x.1 x.2.1 x.2.2 z l0 l1 (fun y hy => by
    obtain ⟨i, hi, rfl⟩ := List.getElem_of_mem hy
    obtain ⟨_, _, hc⟩ := h.rows.2.2.2 (by omega)
    obtain ⟨_, _, ⟨_, _, _, _, hC⟩, _⟩ := hc i _ (List.getElem?_eq_getElem hi)
    exact hC.2.1) l2 h1 h2)
  exact (laws_szTable.calls k A0 c0 x.1 A1 c1 x.2.1 A2 c2 x.2.2 z _ W (h.vars.tr t).2 h.vars.1 (h.rows.tr t).2 h.rows.1 (h.wts.tr t).2 h.wts.1 hk).mono (fun e w' hh => ⟨hh.1, Tr.of_below hh.2⟩)
theorem toT_c {W0 W : World} {x : T3} {A0 : Option Addr} {c0 : Nat} {A1 : Option Addr} {c1 : Nat} {A2 : Option Addr} {c2 : Nat} (h : RdT W0 x A0 c0 A1 c1 A2 c2) (hg : goodT x) (t : tr0 W0 W) : Calls Try.prog 7 #[valT x A0 c0 A1 c1 A2 c2] W (ToT W0 W x) := by
  obtain ⟨k, hk⟩ := Ev.rounds (toTable_ev x.1 x.2.1 x.2.2 hg.1 hg.2.1.1 hg.2.1.2 hg.2.2)
  refine (laws_toTable.calls k A0 c0 x.1 A1 c1 x.2.1 A2 c2 x.2.2 x.1 x.2.1 x.2.2 W (h.vars.tr t).2 h.vars.1 (h.rows.tr t).2 h.rows.1 (h.wts.tr t).2 h.wts.1 hk).mono ?_
  rintro e w' ⟨v0, v1, v2, rfl, h0, h1, h2, hb⟩
  obtain ⟨B0, d0, B1, d1, B2, d2, bs, rfl, rfl, rfl, ho, hbs⟩ := oT_of h0 h1 h2 (fun k hk => hk.1) (fun k hk => hk.2) (fun k hk => hk)
  exact ⟨B0, d0, B1, d1, B2, d2, bs, rfl, ho, hbs, Tr.of_below hb⟩
theorem eqT_c {W0 W : World} {x : T3} {A0 : Option Addr} {c0 : Nat} {A1 : Option Addr} {c1 : Nat} {A2 : Option Addr} {c2 : Nat} {B0 : Option Addr} {d0 : Nat} {B1 : Option Addr} {d1 : Nat} {B2 : Option Addr} {d2 : Nat} (h : RdT W0 x A0 c0 A1 c1 A2 c2) (h' : RdT W0 x B0 d0 B1 d1 B2 d2) (hg : goodT x) (t : tr0 W0 W) :
    Calls Try.prog 10 #[valT x A0 c0 A1 c1 A2 c2, valT x B0 d0 B1 d1 B2 d2] W fun e w' => e = .returned (.bool true) ∧ tr0 W w' := by
  obtain ⟨k, hk⟩ := Ev.rounds (eqTable_self x.1 x.2.1 x.2.2 hg.1 hg.2.1.1 hg.2.1.2 hg.2.2)
  exact (laws_eqTable.calls k A0 c0 x.1 A1 c1 x.2.1 A2 c2 x.2.2 B0 d0 x.1 B1 d1 x.2.1 B2 d2 x.2.2 true W (h.vars.tr t).2 h.vars.1 (h.rows.tr t).2 h.rows.1 (h.wts.tr t).2 h.wts.1 (h'.vars.tr t).2 h'.vars.1 (h'.rows.tr t).2 h'.rows.1 (h'.wts.tr t).2 h'.wts.1 hk).mono (fun e w' hh => ⟨hh.1, Tr.of_below hh.2⟩)
theorem heldT_c {W0 W : World} {x : T3} {A0 : Option Addr} {c0 : Nat} {A1 : Option Addr} {c1 : Nat} {A2 : Option Addr} {c2 : Nat} (k : Int) (h : RdT W0 (mkT k x) A0 c0 A1 c1 A2 c2) (hg : goodT x) (h0 : 0 ≤ k) (hk : k + cntT x ≤ 1099511627776) (t : tr0 W0 W) :
    Calls Try.prog 14 #[valT x A0 c0 A1 c1 A2 c2, .int .i64 k] W fun e w' => e = .returned (.int .i64 (k + cntT x)) ∧ tr0 W w' := by
  have hc := cntII_ge x.2.1
  unfold cntT at hk
  have hg1 := hg.1
  have hg2 := hg.2.2
  unfold goodI at hg1 hg2
  have ev : Ev (fun q => laws_heldTable.f q (mkT k x).1 (mkT k x).2.1 (mkT k x).2.2 k) (k + cntT x) := by
    unfold laws_heldTable.f mkT cntT
    refine Ev.bind (heldIntS_ev x.1 k h0 (by omega) (by omega)) (Ev.neg (by omega) (Ev.bind (heldIntSS_ev x.2.1 (k + x.1.length) (by omega) hg.2.1 (by omega)) (Ev.neg (by omega) (Ev.bind (heldIntS_ev x.2.2 (k + x.1.length + cntII x.2.1) (by omega) (by omega) (by omega)) (Ev.neg (by omega) (Ev.to (Ev.now _) (by omega)))))))
  obtain ⟨q, hq⟩ := Ev.rounds ev
  have h1 := laws_heldTable.calls q A0 c0 (mkT k x).1 A1 c1 (mkT k x).2.1 A2 c2 (mkT k x).2.2 k _ W (h.vars.tr t).2 h.vars.1 (h.rows.tr t).2 h.rows.1 (h.wts.tr t).2 h.wts.1 hq
  have e0 : (mkT k x).1.length = x.1.length := markI_len _ _
  have e1 : (mkT k x).2.1.length = x.2.1.length := markII_len _ _
  have e2 : (mkT k x).2.2.length = x.2.2.length := markI_len _ _
  rw [e0, e1, e2] at h1
  exact h1.mono (fun e w' hh => ⟨hh.1, Tr.of_below hh.2⟩)
def MkT (w W : World) (x : T3) (k : Int) (A0 : Option Addr) (n0 c0 : Nat) (A1 : Option Addr) (n1 c1 : Nat) (A2 : Option Addr) (n2 c2 : Nat) (bs : List Nat) (e : Ending) (w' : World) : Prop :=
  e = .returned (.int .i64 (k + cntT x)) ∧ (∃ bs', oT w' (mkT k x) A0 n0 c0 A1 n1 c1 A2 n2 c2 bs' ∧ ∀ b, b ∈ bs' → b ∈ bs ∨ W.heap.size ≤ b) ∧ Tr (· ∈ bs) W w'
theorem tr0.of_box {W0 W : World} (t : tr0 W0 W) (o : Obj) : tr0 W0 (W.alloc o) := Tr.alloc t o
set_option maxHeartbeats 1600000 in
set_option maxRecDepth 100000 in
theorem markT_c {w W0 W : World} {x : T3} {A0 : Option Addr} {c0 : Nat} {A1 : Option Addr} {c1 : Nat} {A2 : Option Addr} {c2 : Nat} {bs : List Nat} (k : Int) (h : oT W0 x A0 x.1.length c0 A1 x.2.1.length c1 A2 x.2.2.length c2 bs) (hb : ∀ b, b ∈ bs → w.heap.size ≤ b) (hB : Below w.heap.size w W0) (hg : goodT x) (h0 : 0 ≤ k) (hk : k + cntT x ≤ 1099511627776) (t : tr0 W0 W) :
    Calls Try.prog 12 #[valT x A0 c0 A1 c1 A2 c2, .int .i64 k] W (MkT w W x k A0 x.1.length c0 A1 x.2.1.length c1 A2 x.2.2.length c2 bs) := by
  have hBW := Tr.bel_ hB t (fun _ hk => hk.elim)
  have hoW := owT.tr h t (fun _ _ hk => hk)
  obtain ⟨b0, b1, b2, rfl, hn, o0, o1, o2⟩ := oT.parts hoW
  have HL0 := Aside0.mk (owI.lt o0)
  have HL1 := Aside0.mk (owII.lt o1)
  have HL2 := Aside0.mk (owI.lt o2)
  have hcn := cntII_ge x.2.1
  have hk2 := hk
  unfold cntT at hk
  rw [List.nodup_append] at hn
  obtain ⟨_, hn12, hd⟩ := hn
  rw [List.nodup_append] at hn12
  obtain ⟨_, _, hd12⟩ := hn12
  have HD : Aside0 ((∀ b, b ∈ b0 → b ∈ b1 → False) ∧ (∀ b, b ∈ b0 → b ∈ b2 → False) ∧ ∀ b, b ∈ b1 → b ∈ b2 → False) := ⟨fun b h h' => hd b h b (List.mem_append_left _ h') rfl, fun b h h' => hd b h b (List.mem_append_right _ h') rfl, fun b h h' => hd12 b h b h' rfl⟩
  have HT0 : Aside0 (∀ o, tr0 W (W.alloc o)) := ⟨fun o => Tr.alloc (Tr.refl _ _) o⟩
  have HM0 := Aside0.mk (fun W' (t' : tr0 W W') => markI_c (w := w) (x := x.1) (A := A0) (c := c0) k o0 (fun b h => hb b (List.mem_append_left _ h)) hBW hg.1 h0 (by omega) t')
  have hB0 := Aside0.mk hBW
  have HB' := Aside0.mk hb
  have HO1 := Aside0.mk o1
  have HO2 := Aside0.mk o2
  have HG := Aside0.mk hg
  have HCN : Aside0 (0 ≤ k + x.1.length + cntII x.2.1) := ⟨by omega⟩
  have HK : Aside0 (k + x.1.length + cntII x.2.1 ≤ 1099511627776 ∧ k + x.1.length + cntII x.2.1 + x.2.2.length ≤ 1099511627776 ∧ k + cntT x = k + x.1.length + cntII x.2.1 + x.2.2.length) := ⟨by omega, by omega, by unfold cntT; omega⟩
  clear h o0 o1 o2 hoW hd hd12 hg hb hBW hB t hk hk2
  obtain ⟨v, r, s⟩ := x
  simp only at *
  have hv0 : (0 : Int) ≤ (v.length : Int) := by omega
  go_enter Try.func12, Try.ntmps12
  go_wp2_with (first | (go_at_call 13; (with_reducible refine (HM0.out _ (HT0.out _)).mono ?_); clear HM0; rintro e w1 ⟨rfl, ⟨b0', p0, q0⟩, t1⟩; have HP0 := Aside0.mk p0; have HQ0 := Aside0.mk q0; have HT1 := Aside0.mk (tr0.then_ (HT0.out _) t1); have HK0 := Aside0.mk (t1.blk (blk_new W _) (fun h => by have := HL0.out _ h; omega)); have hx1 : w1.cell? ⟨W.heap.size, 1, none⟩ = some (.slice A1 r.length c1) := (blk_cell HK0.out 1).trans rfl; have HM1 := Aside0.mk (markII_c (w := w) (x := r) (A := A1) (c := c1) (k + v.length) (owII.tr HO1.out HT1.out (fun b h h' => HD.out.1 b h' h)) (fun b h => HB'.out b (List.mem_append_right _ (List.mem_append_left _ h))) (Tr.bel_ hB0.out HT1.out (fun b h => HB'.out b (List.mem_append_left _ h))) (by omega) (by have := HK.out.1; omega) (Tr.refl _ w1)); clear p0 q0 t1 HO1) | (go_at_call 30; (with_reducible refine HM1.out.mono ?_); clear HM1 hx1; rintro e w2 ⟨rfl, ⟨b1', p1, q1⟩, t2⟩; have HP1 := Aside0.mk p1; have HQ1 := Aside0.mk q1; have HT2 := Aside0.mk t2; have hx2 : w2.cell? ⟨W.heap.size, 2, none⟩ = some (.slice A2 s.length c2) := (blk_cell (t2.blk HK0.out (fun h => by have := HL1.out _ h; omega)) 2).trans rfl; have HM2 := Aside0.mk (markI_c (w := w) (x := s) (A := A2) (c := c2) (k + v.length + cntII r) (owI.tr (owI.tr HO2.out HT1.out (fun b h h' => HD.out.2.1 b h' h)) HT2.out (fun b h h' => HD.out.2.2 b h' h)) (fun b h => HB'.out b (List.mem_append_right _ (List.mem_append_right _ h))) (Tr.bel_ (Tr.bel_ hB0.out HT1.out (fun b h => HB'.out b (List.mem_append_left _ h))) HT2.out (fun b h => HB'.out b (List.mem_append_right _ (List.mem_append_left _ h)))) HG.out.2.2 (by have := HCN.out; omega) HK.out.2.1 (Tr.refl _ w2)); clear p1 q1 t2) | (go_at_call 13; (with_reducible refine HM2.out.mono ?_); clear HM2; rintro e w3 ⟨rfl, ⟨b2', p2, q2⟩, t3⟩; have HP2 := Aside0.mk p2; have HQ2 := Aside0.mk q2; have HT3 := Aside0.mk t3; clear p2 q2 t3))
  go_ret
  have z1 := HT1.out.size
  have z2 := HT2.out.size
  have z3 := HT3.out.size
  have q0 := HQ0.out
  have q1 := HQ1.out
  have q2 := HQ2.out
  have l0 := HL0.out
  have l1 := HL1.out
  have l2 := HL2.out
  have d := HD.out
  rw [al_size] at q0
  have m0 := owI.lt HP0.out
  have m1 := owII.lt HP1.out
  refine ⟨by rw [HK.out.2.2]; rfl, ⟨b0' ++ (b1' ++ b2'), oT.mk (owI.tr (owI.tr HP0.out HT2.out (fun b h h' => ?_)) HT3.out (fun b h h' => ?_)) (owII.tr HP1.out HT3.out (fun b h h' => ?_)) HP2.out (fun b h h' => ?_) (fun b h h' => ?_) (fun b h h' => ?_), fun b h => ?_⟩, ?_⟩
  · rcases q0 b h with h2 | h2
    · exact d.1 b h2 h'
    · have := l1 b h'; omega
  · rcases q0 b h with h2 | h2
    · exact d.2.1 b h2 h'
    · have := l2 b h'; omega
  · rcases q1 b h with h2 | h2
    · exact d.2.2 b h2 h'
    · have := l2 b h'; omega
  · have := m0 b h
    rcases q1 b h' with h3 | h3
    · rcases q0 b h with h2 | h2
      · exact d.1 b h2 h3
      · have := l1 b h3; omega
    · omega
  · have := m0 b h
    rcases q2 b h' with h3 | h3
    · rcases q0 b h with h2 | h2
      · exact d.2.1 b h2 h3
      · have := l2 b h3; omega
    · omega
  · have := m1 b h
    rcases q2 b h' with h3 | h3
    · rcases q1 b h with h2 | h2
      · exact d.2.2 b h2 h3
      · have := l2 b h3; omega
    · omega
  · rcases List.mem_append.1 h with h | h
    · rcases q0 b h with h2 | h2
      · exact .inl (List.mem_append_left _ h2)
      · exact .inr (by omega)
    · rcases List.mem_append.1 h with h | h
      · rcases q1 b h with h2 | h2
        · exact .inl (List.mem_append_right _ (List.mem_append_left _ h2))
        · exact .inr (by omega)
      · rcases q2 b h with h2 | h2
        · exact .inl (List.mem_append_right _ (List.mem_append_right _ h2))
        · exact .inr (by omega)
  · exact Tr.trans (Tr.trans HT1.out HT2.out (T := fun b => b ∈ b0 ++ (b1 ++ b2)) (fun b h => List.mem_append_left _ h) (fun b h _ => List.mem_append_right _ (List.mem_append_left _ h))) HT3.out (fun b h => h) (fun b h _ => List.mem_append_right _ (List.mem_append_right _ h))
theorem RdT.past {W0 W : World} {x : T3} {A0 : Option Addr} {c0 : Nat} {A1 : Option Addr} {c1 : Nat} {A2 : Option Addr} {c2 : Nat} (h : RdT W0 x A0 c0 A1 c1 A2 c2) (t : Below W0.heap.size W0 W) : RdT W x A0 c0 A1 c1 A2 c2 := ⟨h.vars.past t, h.rows.past t, h.wts.past t⟩
theorem szT_r {W0 W : World} {x : T3} {A0 : Option Addr} {c0 : Nat} {A1 : Option Addr} {c1 : Nat} {A2 : Option Addr} {c2 : Nat} {z r : Int} (hr : r = szT x.1 x.2.1 x.2.2 z) (h : RdT W0 x A0 c0 A1 c1 A2 c2) (hz : -1 ≤ z ∧ z ≤ 1048576) (t : tr0 W0 W) :
    Calls Try.prog 5 #[valT x A0 c0 A1 c1 A2 c2, .int .i64 z] W fun e w' => e = .returned (.int .i64 r) ∧ tr0 W w' := by subst hr; exact szT_c h z hz.1 hz.2 t
theorem heldT_r {W0 W : World} {x : T3} {A0 : Option Addr} {c0 : Nat} {A1 : Option Addr} {c1 : Nat} {A2 : Option Addr} {c2 : Nat} {k r : Int} (hr : r = k + cntT x) (h : RdT W0 (mkT k x) A0 c0 A1 c1 A2 c2) (hg : goodT x) (hk : 0 ≤ k ∧ r ≤ 1099511627776) (t : tr0 W0 W) :
    Calls Try.prog 14 #[valT x A0 c0 A1 c1 A2 c2, .int .i64 k] W fun e w' => e = .returned (.int .i64 r) ∧ tr0 W w' := by subst hr; exact heldT_c k h hg hk.1 hk.2 t
theorem markT_r {w : World} {W0 W : World} {x : T3} {A0 : Option Addr} {c0 : Nat} {A1 : Option Addr} {c1 : Nat} {A2 : Option Addr} {c2 : Nat} {bs : List Nat} {k r : Int} (hr : r = k + cntT x) (h : oT W0 x A0 x.1.length c0 A1 x.2.1.length c1 A2 x.2.2.length c2 bs) (hb : ∀ b, b ∈ bs → w.heap.size ≤ b) (hB : Below w.heap.size w W0) (hg : goodT x) (hk : 0 ≤ k ∧ r ≤ 1099511627776) (t : tr0 W0 W) :
    Calls Try.prog 12 #[valT x A0 c0 A1 c1 A2 c2, .int .i64 k] W fun e w' => e = .returned (.int .i64 r) ∧ (∃ bs', oT w' (mkT k x) A0 x.1.length c0 A1 x.2.1.length c1 A2 x.2.2.length c2 bs' ∧ ∀ b, b ∈ bs' → b ∈ bs ∨ W.heap.size ≤ b) ∧ Tr (· ∈ bs) W w' := by subst hr; exact markT_c k h hb hB hg hk.1 hk.2 t
end Go.Proofs.Ytkohcdddgjaijaa.PT
namespace Go.Proofs.Ytkohcdddgjaijaa.PT
open Go.RowKit Go.Proofs.Ytkohcdddgjaijaa.P Go.Proofs.YtkohcdddgjaijaaW.PrintWords Go.Proofs.YtkohcdddgjaijaaW.PrintLast Go.Proofs.Ytkohcdddgjaijaa.EvKit
set_option linter.unusedVariables false
set_option linter.unusedSimpArgs false
def ProjectSpecP (W : World) (r0 : T3) (e : Ending) (w' : World) : Prop := ∃ s0_A0 s0_c0 s0_A1 s0_c1 s0_A2 s0_c2, e = .returned ((.agg #[.slice s0_A0 r0.1.length s0_c0, .slice s0_A1 r0.2.1.length s0_c1, .slice s0_A2 r0.2.2.length s0_c2])) ∧ RdT w' r0 s0_A0 s0_c0 s0_A1 s0_c1 s0_A2 s0_c2 ∧  tr0 W w'
def ProjectImplP (W : World) (r0 : T3) (e : Ending) (w' : World) : Prop := ∃ s0_A0 s0_c0 s0_A1 s0_c1 s0_A2 s0_c2 b0, e = .returned ((.agg #[.slice s0_A0 r0.1.length s0_c0, .slice s0_A1 r0.2.1.length s0_c1, .slice s0_A2 r0.2.2.length s0_c2])) ∧ oT w' r0 s0_A0 r0.1.length s0_c0 s0_A1 r0.2.1.length s0_c1 s0_A2 r0.2.2.length s0_c2 b0 ∧ (∀ b, b ∈ b0 → W.heap.size ≤ b) ∧  tr0 W w'
set_option maxHeartbeats 4000000 in
set_option maxRecDepth 100000 in
theorem lawProject_fits (x0 : T3) (a0_A0 : Option Addr) (a0_c0 : Nat) (a0_A1 : Option Addr) (a0_c1 : Nat) (a0_A2 : Option Addr) (a0_c2 : Nat) (x1 : List Int) (a1_A0 : Option Addr) (a1_c0 : Nat) (r0 : T3) (z0 : Int) (w : World) (k1 k2 m1 : Int)
    (ha0 : RdT w x0 a0_A0 a0_c0 a0_A1 a0_c1 a0_A2 a0_c2) (ha1 : RdI w x1 a1_A0 a1_c0) (hz0 : z0 = szT x0.1 x0.2.1 x0.2.2 1048576)
    (hfit : x1.length ≤ 1048576 ∧ 0 ≤ z0)  (hk1 : k1 = 1 + cntT x0) (hk2 : k2 = k1 + (x1.length : Int)) (hm1 : m1 = 1 + cntT r0)
    (hgood : goodT x0 ∧ goodI x1 ∧ goodT r0 ∧ True) (hbnd : 1 ≤ k1 ∧ k1 ≤ k2 ∧ k2 ≤ 1099511627776 ∧ 1 ≤ m1 ∧ m1 ≤ 1099511627776)
    (hspec : ∀ (W0 W : World) (q0_A0 : Option Addr) (q0_c0 : Nat) (q0_A1 : Option Addr) (q0_c1 : Nat) (q0_A2 : Option Addr) (q0_c2 : Nat) (q1_A0 : Option Addr) (q1_c0 : Nat), tr0 W0 W → RdT W0 x0 q0_A0 q0_c0 q0_A1 q0_c1 q0_A2 q0_c2 → RdI W0 x1 q1_A0 q1_c0 → Calls Try.prog 6 #[(.agg #[.slice q0_A0 x0.1.length q0_c0, .slice q0_A1 x0.2.1.length q0_c1, .slice q0_A2 x0.2.2.length q0_c2]), (.slice q1_A0 x1.length q1_c0)] W (ProjectSpecP W r0))
    (himpl : ∀ (W0 W : World) (q0_A0 : Option Addr) (q0_c0 : Nat) (q0_A1 : Option Addr) (q0_c1 : Nat) (q0_A2 : Option Addr) (q0_c2 : Nat) (q1_A0 : Option Addr) (q1_c0 : Nat), tr0 W0 W → RdT W0 x0 q0_A0 q0_c0 q0_A1 q0_c1 q0_A2 q0_c2 → RdI W0 x1 q1_A0 q1_c0 → Calls Try.prog 9 #[(.agg #[.slice q0_A0 x0.1.length q0_c0, .slice q0_A1 x0.2.1.length q0_c1, .slice q0_A2 x0.2.2.length q0_c2]), (.slice q1_A0 x1.length q1_c0)] W (ProjectImplP W r0)) :
    Calls Try.prog 3 #[(.agg #[.slice a0_A0 x0.1.length a0_c0, .slice a0_A1 x0.2.1.length a0_c1, .slice a0_A2 x0.2.2.length a0_c2]), (.slice a1_A0 x1.length a1_c0)] w fun e w' => e = .returned (.bool true) ∧ Below w.heap.size w w' := by
  have HB0 := Aside0.mk (Below.refl w.heap.size w)
  have HA0 := Aside0.mk ha0
  have HA1 := Aside0.mk ha1
  have HZ0 := Aside0.mk hz0
  have HG := Aside0.mk hgood
  have HSP := Aside0.mk hspec
  have HIM := Aside0.mk himpl
  have HBD := Aside0.mk hbnd
  have HN1 := Aside0.mk hk1
  have HN2 := Aside0.mk hk2
  have HM1 := Aside0.mk hm1
  have HFIT := Aside0.mk (show -1 ≤ (1048576 : Int) ∧ (1048576 : Int) ≤ 1048576 by omega)
  have e1 : decide ((x1.length : Int) > 1048576) = false := decide_eq_false (by have := hfit; omega)
  have fz0 : decide (z0 < 0) = false := decide_eq_false (by have := hfit; omega)
  have fk : decide (k2 < 0) = false := decide_eq_false (by have := hbnd; omega)
  have fm : decide (m1 < 0) = false := decide_eq_false (by have := hbnd; omega)
  have fn0 : decide (m1 < 0) = false := decide_eq_false (by have := hbnd; omega)
  have fq : (m1 != m1) = false := by simp
  have ST0 := Aside0.mk trivial
  clear ha0 ha1 hz0 hfit hk1 hk2 hm1 hgood hspec himpl hbnd
  go_enter Try.func3, Try.ntmps3
  go_wp2_with (first | (go_at_call 5; have tok := ST0; (with_reducible refine (szT_r HZ0.out (HA0.out.past HB0.out) HFIT.out (by repeat (first | (with_reducible exact Tr.refl _ _) | (with_reducible apply Tr.drew) | (with_reducible apply Tr.drewN) | (with_reducible refine Tr.set ?_ (Nat.le_refl _) _) | (with_reducible apply Tr.alloc)))).mono ?_); clear tok ST0; rintro e w1 ⟨rfl, t_⟩; have T_ : Aside0 (Tr (fun _ => False) w w1) := ⟨tr0.then_ (by repeat (first | (with_reducible exact Tr.refl _ _) | (with_reducible apply Tr.drew) | (with_reducible apply Tr.drewN) | (with_reducible refine Tr.set ?_ (Nat.le_refl _) _) | (with_reducible apply Tr.alloc))) t_⟩; have HB1 : Aside0 (Below w.heap.size w w1) := ⟨Tr.bel_ HB0.out T_.out (fun _ h => h.elim)⟩; have K_ : w1.heap[w.heap.size]? = some (.cells #[.slice a0_A0 x0.1.length a0_c0, .slice a0_A1 x0.2.1.length a0_c1, .slice a0_A2 x0.2.2.length a0_c2] 25 (0, 0)) := t_.blk (blk_new _ _) (fun h => h); have HK_2 := Aside0.mk K_; clear K_; (have s_ : w.heap.size ≤ w1.heap.size := T_.out.size; have s0_ : w.heap.size + 1 ≤ w1.heap.size := by have h9 := t_.size; simp only [al_size] at h9; omega); have hb_2_1 : w.heap.size < w1.heap.size := blk_lt HK_2.out; have hc_2_0_1 : w1.cell? ⟨w.heap.size, 0, none⟩ = some (.slice a0_A0 x0.1.length a0_c0) := (blk_cell HK_2.out 0).trans rfl; have hc_2_1_1 : w1.cell? ⟨w.heap.size, 1, none⟩ = some (.slice a0_A1 x0.2.1.length a0_c1) := (blk_cell HK_2.out 1).trans rfl; have hc_2_2_1 : w1.cell? ⟨w.heap.size, 2, none⟩ = some (.slice a0_A2 x0.2.2.length a0_c2) := (blk_cell HK_2.out 2).trans rfl; have ST1 := Aside0.mk trivial; clear t_ T_ HB0) | (go_at_call 7; have tok := ST1; (with_reducible refine (toT_c (HA0.out.past HB1.out) (HG.out.1) (by repeat (first | (with_reducible exact Tr.refl _ _) | (with_reducible apply Tr.drew) | (with_reducible apply Tr.drewN) | (with_reducible refine Tr.set ?_ (Nat.le_refl _) _) | (with_reducible apply Tr.alloc)))).mono ?_); clear tok ST1 hb_2_1 hc_2_0_1 hc_2_1_1 hc_2_2_1; rintro e w2 ⟨v1_A0, v1_c0, v1_A1, v1_c1, v1_A2, v1_c2, b_v1, rfl, o_, g_, t_⟩; have T_ : Aside0 (Tr (fun _ => False) w1 w2) := ⟨tr0.then_ (by repeat (first | (with_reducible exact Tr.refl _ _) | (with_reducible apply Tr.drew) | (with_reducible apply Tr.drewN) | (with_reducible refine Tr.set ?_ (Nat.le_refl _) _) | (with_reducible apply Tr.alloc))) t_⟩; have HB2 : Aside0 (Below w.heap.size w w2) := ⟨Tr.bel_ HB1.out T_.out (fun _ h => h.elim)⟩; replace HK_2 : Aside0 (w2.heap[w.heap.size]? = some (.cells #[.slice a0_A0 x0.1.length a0_c0, .slice a0_A1 x0.2.1.length a0_c1, .slice a0_A2 x0.2.2.length a0_c2] 25 (0, 0))) := ⟨T_.out.blk HK_2.out (fun h => h)⟩; have HO_v1 := Aside0.mk o_; have HQ_v1 : Aside0 (∀ b, b ∈ b_v1 → w1.heap.size ≤ b) := ⟨fun b h => Nat.le_trans ((by repeat (first | (with_reducible exact Tr.refl _ _) | (with_reducible apply Tr.drew) | (with_reducible apply Tr.drewN) | (with_reducible refine Tr.set ?_ (Nat.le_refl _) _) | (with_reducible apply Tr.alloc))) : tr0 w1 _).size (g_ b h)⟩; have HU_v1 : Aside0 (∀ b, b ∈ b_v1 → b < w2.heap.size) := ⟨owT.lt o_⟩; have HL_v1 : Aside0 (∀ b, b ∈ b_v1 → w.heap.size ≤ b) := ⟨fun b h => by have h9 := HB1.out.size; have h8 := HQ_v1.out b h; omega⟩; have s_ : w1.heap.size ≤ w2.heap.size := T_.out.size; have ST2 := Aside0.mk trivial; clear t_ T_ HB1 o_ g_) | (go_at_call 8; have tok := ST2; (with_reducible refine (toI_c (HA1.out.past HB2.out) (HG.out.2.1) (by repeat (first | (with_reducible exact Tr.refl _ _) | (with_reducible apply Tr.drew) | (with_reducible apply Tr.drewN) | (with_reducible refine Tr.set ?_ (Nat.le_refl _) _) | (with_reducible apply Tr.alloc)))).mono ?_); clear tok ST2; rintro e w3 ⟨v2_A0, v2_c0, b_v2, rfl, o_, g_, t_⟩; have T_ : Aside0 (Tr (fun _ => False) w2 w3) := ⟨tr0.then_ (by repeat (first | (with_reducible exact Tr.refl _ _) | (with_reducible apply Tr.drew) | (with_reducible apply Tr.drewN) | (with_reducible refine Tr.set ?_ (Nat.le_refl _) _) | (with_reducible apply Tr.alloc))) t_⟩; have HB3 : Aside0 (Below w.heap.size w w3) := ⟨Tr.bel_ HB2.out T_.out (fun _ h => h.elim)⟩; replace HK_2 : Aside0 (w3.heap[w.heap.size]? = some (.cells #[.slice a0_A0 x0.1.length a0_c0, .slice a0_A1 x0.2.1.length a0_c1, .slice a0_A2 x0.2.2.length a0_c2] 25 (0, 0))) := ⟨T_.out.blk HK_2.out (fun h => h)⟩; replace HO_v1 := Aside0.mk (owT.tr HO_v1.out T_.out (fun _ _ h => h)); have HO_v2 := Aside0.mk o_; have HQ_v2 : Aside0 (∀ b, b ∈ b_v2 → w2.heap.size ≤ b) := ⟨fun b h => Nat.le_trans ((by repeat (first | (with_reducible exact Tr.refl _ _) | (with_reducible apply Tr.drew) | (with_reducible apply Tr.drewN) | (with_reducible refine Tr.set ?_ (Nat.le_refl _) _) | (with_reducible apply Tr.alloc))) : tr0 w2 _).size (g_ b h)⟩; have HU_v2 : Aside0 (∀ b, b ∈ b_v2 → b < w3.heap.size) := ⟨owI.lt o_⟩; have HL_v2 : Aside0 (∀ b, b ∈ b_v2 → w.heap.size ≤ b) := ⟨fun b h => by have h9 := HB2.out.size; have h8 := HQ_v2.out b h; omega⟩; have s_ : w2.heap.size ≤ w3.heap.size := T_.out.size; have ST3 := Aside0.mk trivial; clear t_ T_ HB2 o_ g_) | (go_at_call 6; have tok := ST3; (with_reducible refine (HSP.out w3 _ _ _ _ _ _ _ _ _ (by repeat (first | (with_reducible exact Tr.refl _ _) | (with_reducible apply Tr.drew) | (with_reducible apply Tr.drewN) | (with_reducible refine Tr.set ?_ (Nat.le_refl _) _) | (with_reducible apply Tr.alloc))) (oT.rd HO_v1.out) (oI.rd HO_v2.out)).mono ?_); clear tok ST3; rintro e w4 ⟨u3_0_A0, u3_0_c0, u3_0_A1, u3_0_c1, u3_0_A2, u3_0_c2, rfl, r_0, t_⟩; have T_ : Aside0 (Tr (fun _ => False) w3 w4) := ⟨tr0.then_ (by repeat (first | (with_reducible exact Tr.refl _ _) | (with_reducible apply Tr.drew) | (with_reducible apply Tr.drewN) | (with_reducible refine Tr.set ?_ (Nat.le_refl _) _) | (with_reducible apply Tr.alloc))) t_⟩; have HB4 : Aside0 (Below w.heap.size w w4) := ⟨Tr.bel_ HB3.out T_.out (fun _ h => h.elim)⟩; replace HK_2 : Aside0 (w4.heap[w.heap.size]? = some (.cells #[.slice a0_A0 x0.1.length a0_c0, .slice a0_A1 x0.2.1.length a0_c1, .slice a0_A2 x0.2.2.length a0_c2] 25 (0, 0))) := ⟨T_.out.blk HK_2.out (fun h => h)⟩; replace HO_v1 := Aside0.mk (owT.tr HO_v1.out T_.out (fun _ _ h => h)); replace HO_v2 := Aside0.mk (owI.tr HO_v2.out T_.out (fun _ _ h => h)); have HR_u3_0 := Aside0.mk r_0; have HS4 := Aside0.mk (Below.refl w4.heap.size w4); have s_ : w3.heap.size ≤ w4.heap.size := T_.out.size; have hb_2_4 : w.heap.size < w4.heap.size := blk_lt HK_2.out; have hc_2_0_4 : w4.cell? ⟨w.heap.size, 0, none⟩ = some (.slice a0_A0 x0.1.length a0_c0) := (blk_cell HK_2.out 0).trans rfl; have hc_2_1_4 : w4.cell? ⟨w.heap.size, 1, none⟩ = some (.slice a0_A1 x0.2.1.length a0_c1) := (blk_cell HK_2.out 1).trans rfl; have hc_2_2_4 : w4.cell? ⟨w.heap.size, 2, none⟩ = some (.slice a0_A2 x0.2.2.length a0_c2) := (blk_cell HK_2.out 2).trans rfl; have ST4 := Aside0.mk trivial; clear t_ T_ HB3 r_0) | (go_at_call 7; have tok := ST4; (with_reducible refine (toT_c (HA0.out.past HB4.out) (HG.out.1) (by repeat (first | (with_reducible exact Tr.refl _ _) | (with_reducible apply Tr.drew) | (with_reducible apply Tr.drewN) | (with_reducible refine Tr.set ?_ (Nat.le_refl _) _) | (with_reducible apply Tr.alloc)))).mono ?_); clear tok ST4 hb_2_4 hc_2_0_4 hc_2_1_4 hc_2_2_4; rintro e w5 ⟨v4_A0, v4_c0, v4_A1, v4_c1, v4_A2, v4_c2, b_v4, rfl, o_, g_, t_⟩; have T_ : Aside0 (Tr (fun _ => False) w4 w5) := ⟨tr0.then_ (by repeat (first | (with_reducible exact Tr.refl _ _) | (with_reducible apply Tr.drew) | (with_reducible apply Tr.drewN) | (with_reducible refine Tr.set ?_ (Nat.le_refl _) _) | (with_reducible apply Tr.alloc))) t_⟩; have HB5 : Aside0 (Below w.heap.size w w5) := ⟨Tr.bel_ HB4.out T_.out (fun _ h => h.elim)⟩; have HS5 : Aside0 (Below w4.heap.size w4 w5) := ⟨Tr.bel_ HS4.out T_.out (fun _ h => h.elim)⟩; replace HK_2 : Aside0 (w5.heap[w.heap.size]? = some (.cells #[.slice a0_A0 x0.1.length a0_c0, .slice a0_A1 x0.2.1.length a0_c1, .slice a0_A2 x0.2.2.length a0_c2] 25 (0, 0))) := ⟨T_.out.blk HK_2.out (fun h => h)⟩; have K_ : w5.heap[w4.heap.size]? = some (.cells #[.slice u3_0_A0 r0.1.length u3_0_c0, .slice u3_0_A1 r0.2.1.length u3_0_c1, .slice u3_0_A2 r0.2.2.length u3_0_c2] 27 (0, 0)) := t_.blk (by first | exact blk_new _ _ | exact blk_put (blk_put (blk_put (blk_new _ (.cells #[.slice none 0 0, .slice none 0 0, .slice none 0 0] 27 (0, 0))) 0 (.slice u3_0_A0 r0.1.length u3_0_c0) (cs' := #[.slice u3_0_A0 r0.1.length u3_0_c0, .slice none 0 0, .slice none 0 0]) rfl) 1 (.slice u3_0_A1 r0.2.1.length u3_0_c1) (cs' := #[.slice u3_0_A0 r0.1.length u3_0_c0, .slice u3_0_A1 r0.2.1.length u3_0_c1, .slice none 0 0]) rfl) 2 (.slice u3_0_A2 r0.2.2.length u3_0_c2) (cs' := #[.slice u3_0_A0 r0.1.length u3_0_c0, .slice u3_0_A1 r0.2.1.length u3_0_c1, .slice u3_0_A2 r0.2.2.length u3_0_c2]) rfl) (fun h => h); have HK_6 := Aside0.mk K_; clear K_; replace HO_v1 := Aside0.mk (owT.tr HO_v1.out T_.out (fun _ _ h => h)); replace HO_v2 := Aside0.mk (owI.tr HO_v2.out T_.out (fun _ _ h => h)); have HO_v4 := Aside0.mk o_; have HQ_v4 : Aside0 (∀ b, b ∈ b_v4 → w4.heap.size + 1 ≤ b) := ⟨fun b h => by have h9 := g_ b h; simp only [al_size] at h9; omega⟩; have HU_v4 : Aside0 (∀ b, b ∈ b_v4 → b < w5.heap.size) := ⟨owT.lt o_⟩; have HL_v4 : Aside0 (∀ b, b ∈ b_v4 → w.heap.size ≤ b) := ⟨fun b h => by have h9 := HB4.out.size; have h8 := HQ_v4.out b h; omega⟩; (have s_ : w4.heap.size + 1 ≤ w5.heap.size := by have h9 := t_.size; simp only [al_size] at h9; omega); have ST5 := Aside0.mk trivial; clear t_ T_ HB4 HS4 o_ g_) | (go_at_call 8; have tok := ST5; (with_reducible refine (toI_c (HA1.out.past HB5.out) (HG.out.2.1) (by repeat (first | (with_reducible exact Tr.refl _ _) | (with_reducible apply Tr.drew) | (with_reducible apply Tr.drewN) | (with_reducible refine Tr.set ?_ (Nat.le_refl _) _) | (with_reducible apply Tr.alloc)))).mono ?_); clear tok ST5; rintro e w6 ⟨v5_A0, v5_c0, b_v5, rfl, o_, g_, t_⟩; have T_ : Aside0 (Tr (fun _ => False) w5 w6) := ⟨tr0.then_ (by repeat (first | (with_reducible exact Tr.refl _ _) | (with_reducible apply Tr.drew) | (with_reducible apply Tr.drewN) | (with_reducible refine Tr.set ?_ (Nat.le_refl _) _) | (with_reducible apply Tr.alloc))) t_⟩; have HB6 : Aside0 (Below w.heap.size w w6) := ⟨Tr.bel_ HB5.out T_.out (fun _ h => h.elim)⟩; have HS6 : Aside0 (Below w4.heap.size w4 w6) := ⟨Tr.bel_ HS5.out T_.out (fun _ h => h.elim)⟩; replace HK_2 : Aside0 (w6.heap[w.heap.size]? = some (.cells #[.slice a0_A0 x0.1.length a0_c0, .slice a0_A1 x0.2.1.length a0_c1, .slice a0_A2 x0.2.2.length a0_c2] 25 (0, 0))) := ⟨T_.out.blk HK_2.out (fun h => h)⟩; replace HK_6 : Aside0 (w6.heap[w4.heap.size]? = some (.cells #[.slice u3_0_A0 r0.1.length u3_0_c0, .slice u3_0_A1 r0.2.1.length u3_0_c1, .slice u3_0_A2 r0.2.2.length u3_0_c2] 27 (0, 0))) := ⟨T_.out.blk HK_6.out (fun h => h)⟩; have K_ : w6.heap[w5.heap.size]? = some (.cells #[.slice v4_A0 x0.1.length v4_c0, .slice v4_A1 x0.2.1.length v4_c1, .slice v4_A2 x0.2.2.length v4_c2] 27 (0, 0)) := t_.blk (by first | exact blk_new _ _ | exact blk_put (blk_put (blk_put (blk_new _ (.cells #[.slice none 0 0, .slice none 0 0, .slice none 0 0] 27 (0, 0))) 0 (.slice v4_A0 x0.1.length v4_c0) (cs' := #[.slice v4_A0 x0.1.length v4_c0, .slice none 0 0, .slice none 0 0]) rfl) 1 (.slice v4_A1 x0.2.1.length v4_c1) (cs' := #[.slice v4_A0 x0.1.length v4_c0, .slice v4_A1 x0.2.1.length v4_c1, .slice none 0 0]) rfl) 2 (.slice v4_A2 x0.2.2.length v4_c2) (cs' := #[.slice v4_A0 x0.1.length v4_c0, .slice v4_A1 x0.2.1.length v4_c1, .slice v4_A2 x0.2.2.length v4_c2]) rfl) (fun h => h); have HK_7 := Aside0.mk K_; clear K_; replace HO_v1 := Aside0.mk (owT.tr HO_v1.out T_.out (fun _ _ h => h)); replace HO_v2 := Aside0.mk (owI.tr HO_v2.out T_.out (fun _ _ h => h)); replace HO_v4 := Aside0.mk (owT.tr HO_v4.out T_.out (fun _ _ h => h)); have HO_v5 := Aside0.mk o_; have HQ_v5 : Aside0 (∀ b, b ∈ b_v5 → w5.heap.size + 1 ≤ b) := ⟨fun b h => by have h9 := g_ b h; simp only [al_size] at h9; omega⟩; have HU_v5 : Aside0 (∀ b, b ∈ b_v5 → b < w6.heap.size) := ⟨owI.lt o_⟩; have HL_v5 : Aside0 (∀ b, b ∈ b_v5 → w.heap.size ≤ b) := ⟨fun b h => by have h9 := HB5.out.size; have h8 := HQ_v5.out b h; omega⟩; (have s_ : w5.heap.size + 1 ≤ w6.heap.size := by have h9 := t_.size; simp only [al_size] at h9; omega); have hb_7_6 : w5.heap.size < w6.heap.size := blk_lt HK_7.out; have hc_7_0_6 : w6.cell? ⟨w5.heap.size, 0, none⟩ = some (.slice v4_A0 x0.1.length v4_c0) := (blk_cell HK_7.out 0).trans rfl; have hc_7_1_6 : w6.cell? ⟨w5.heap.size, 1, none⟩ = some (.slice v4_A1 x0.2.1.length v4_c1) := (blk_cell HK_7.out 1).trans rfl; have hc_7_2_6 : w6.cell? ⟨w5.heap.size, 2, none⟩ = some (.slice v4_A2 x0.2.2.length v4_c2) := (blk_cell HK_7.out 2).trans rfl; have ST6 := Aside0.mk trivial; clear t_ T_ HB5 HS5 o_ g_) | (go_at_call 9; have tok := ST6; (with_reducible refine (HIM.out w6 _ _ _ _ _ _ _ _ _ (by repeat (first | (with_reducible exact Tr.refl _ _) | (with_reducible apply Tr.drew) | (with_reducible apply Tr.drewN) | (with_reducible refine Tr.set ?_ (Nat.le_refl _) _) | (with_reducible apply Tr.alloc))) (oT.rd HO_v4.out) (oI.rd HO_v5.out)).mono ?_); clear tok ST6 hb_7_6 hc_7_0_6 hc_7_1_6 hc_7_2_6; rintro e w7 ⟨u6_0_A0, u6_0_c0, u6_0_A1, u6_0_c1, u6_0_A2, u6_0_c2, b_u6_0, rfl, o_0, g_0, t_⟩; have T_ : Aside0 (Tr (fun _ => False) w6 w7) := ⟨tr0.then_ (by repeat (first | (with_reducible exact Tr.refl _ _) | (with_reducible apply Tr.drew) | (with_reducible apply Tr.drewN) | (with_reducible refine Tr.set ?_ (Nat.le_refl _) _) | (with_reducible apply Tr.alloc))) t_⟩; have HB7 : Aside0 (Below w.heap.size w w7) := ⟨Tr.bel_ HB6.out T_.out (fun _ h => h.elim)⟩; have HS7 : Aside0 (Below w4.heap.size w4 w7) := ⟨Tr.bel_ HS6.out T_.out (fun _ h => h.elim)⟩; replace HK_2 : Aside0 (w7.heap[w.heap.size]? = some (.cells #[.slice a0_A0 x0.1.length a0_c0, .slice a0_A1 x0.2.1.length a0_c1, .slice a0_A2 x0.2.2.length a0_c2] 25 (0, 0))) := ⟨T_.out.blk HK_2.out (fun h => h)⟩; replace HK_6 : Aside0 (w7.heap[w4.heap.size]? = some (.cells #[.slice u3_0_A0 r0.1.length u3_0_c0, .slice u3_0_A1 r0.2.1.length u3_0_c1, .slice u3_0_A2 r0.2.2.length u3_0_c2] 27 (0, 0))) := ⟨T_.out.blk HK_6.out (fun h => h)⟩; replace HK_7 : Aside0 (w7.heap[w5.heap.size]? = some (.cells #[.slice v4_A0 x0.1.length v4_c0, .slice v4_A1 x0.2.1.length v4_c1, .slice v4_A2 x0.2.2.length v4_c2] 27 (0, 0))) := ⟨T_.out.blk HK_7.out (fun h => h)⟩; replace HO_v1 := Aside0.mk (owT.tr HO_v1.out T_.out (fun _ _ h => h)); replace HO_v2 := Aside0.mk (owI.tr HO_v2.out T_.out (fun _ _ h => h)); replace HO_v4 := Aside0.mk (owT.tr HO_v4.out T_.out (fun _ _ h => h)); replace HO_v5 := Aside0.mk (owI.tr HO_v5.out T_.out (fun _ _ h => h)); have HO_u6_0 := Aside0.mk o_0; have HQ_u6_0 : Aside0 (∀ b, b ∈ b_u6_0 → w6.heap.size ≤ b) := ⟨fun b h => Nat.le_trans ((by repeat (first | (with_reducible exact Tr.refl _ _) | (with_reducible apply Tr.drew) | (with_reducible apply Tr.drewN) | (with_reducible refine Tr.set ?_ (Nat.le_refl _) _) | (with_reducible apply Tr.alloc))) : tr0 w6 _).size (g_0 b h)⟩; have HU_u6_0 : Aside0 (∀ b, b ∈ b_u6_0 → b < w7.heap.size) := ⟨owT.lt o_0⟩; have HL_u6_0 : Aside0 (∀ b, b ∈ b_u6_0 → w.heap.size ≤ b) := ⟨fun b h => by have h9 := HB6.out.size; have h8 := HQ_u6_0.out b h; omega⟩; have s_ : w6.heap.size ≤ w7.heap.size := T_.out.size; have hb_6_7 : w4.heap.size < w7.heap.size := blk_lt HK_6.out; have hc_6_0_7 : w7.cell? ⟨w4.heap.size, 0, none⟩ = some (.slice u3_0_A0 r0.1.length u3_0_c0) := (blk_cell HK_6.out 0).trans rfl; have hc_6_1_7 : w7.cell? ⟨w4.heap.size, 1, none⟩ = some (.slice u3_0_A1 r0.2.1.length u3_0_c1) := (blk_cell HK_6.out 1).trans rfl; have hc_6_2_7 : w7.cell? ⟨w4.heap.size, 2, none⟩ = some (.slice u3_0_A2 r0.2.2.length u3_0_c2) := (blk_cell HK_6.out 2).trans rfl; have ST7 := Aside0.mk trivial; clear t_ T_ HB6 HS6 o_0 g_0) | (go_at_call 10; have tok := ST7; (with_reducible refine (eqT_c (oT.rd HO_u6_0.out) (HR_u3_0.out.past HS7.out) (HG.out.2.2.1) (by repeat (first | (with_reducible exact Tr.refl _ _) | (with_reducible apply Tr.drew) | (with_reducible apply Tr.drewN) | (with_reducible refine Tr.set ?_ (Nat.le_refl _) _) | (with_reducible apply Tr.alloc)))).mono ?_); clear tok ST7 hb_6_7 hc_6_0_7 hc_6_1_7 hc_6_2_7; rintro e w8 ⟨rfl, t_⟩; have T_ : Aside0 (Tr (fun _ => False) w7 w8) := ⟨tr0.then_ (by repeat (first | (with_reducible exact Tr.refl _ _) | (with_reducible apply Tr.drew) | (with_reducible apply Tr.drewN) | (with_reducible refine Tr.set ?_ (Nat.le_refl _) _) | (with_reducible apply Tr.alloc))) t_⟩; have HB8 : Aside0 (Below w.heap.size w w8) := ⟨Tr.bel_ HB7.out T_.out (fun _ h => h.elim)⟩; have HS8 : Aside0 (Below w4.heap.size w4 w8) := ⟨Tr.bel_ HS7.out T_.out (fun _ h => h.elim)⟩; replace HK_2 : Aside0 (w8.heap[w.heap.size]? = some (.cells #[.slice a0_A0 x0.1.length a0_c0, .slice a0_A1 x0.2.1.length a0_c1, .slice a0_A2 x0.2.2.length a0_c2] 25 (0, 0))) := ⟨T_.out.blk HK_2.out (fun h => h)⟩; replace HK_6 : Aside0 (w8.heap[w4.heap.size]? = some (.cells #[.slice u3_0_A0 r0.1.length u3_0_c0, .slice u3_0_A1 r0.2.1.length u3_0_c1, .slice u3_0_A2 r0.2.2.length u3_0_c2] 27 (0, 0))) := ⟨T_.out.blk HK_6.out (fun h => h)⟩; replace HK_7 : Aside0 (w8.heap[w5.heap.size]? = some (.cells #[.slice v4_A0 x0.1.length v4_c0, .slice v4_A1 x0.2.1.length v4_c1, .slice v4_A2 x0.2.2.length v4_c2] 27 (0, 0))) := ⟨T_.out.blk HK_7.out (fun h => h)⟩; have K_ : w8.heap[w7.heap.size]? = some (.cells #[.slice u6_0_A0 r0.1.length u6_0_c0, .slice u6_0_A1 r0.2.1.length u6_0_c1, .slice u6_0_A2 r0.2.2.length u6_0_c2] 27 (0, 0)) := t_.blk (by first | exact blk_new _ _ | exact blk_put (blk_put (blk_put (blk_new _ (.cells #[.slice none 0 0, .slice none 0 0, .slice none 0 0] 27 (0, 0))) 0 (.slice u6_0_A0 r0.1.length u6_0_c0) (cs' := #[.slice u6_0_A0 r0.1.length u6_0_c0, .slice none 0 0, .slice none 0 0]) rfl) 1 (.slice u6_0_A1 r0.2.1.length u6_0_c1) (cs' := #[.slice u6_0_A0 r0.1.length u6_0_c0, .slice u6_0_A1 r0.2.1.length u6_0_c1, .slice none 0 0]) rfl) 2 (.slice u6_0_A2 r0.2.2.length u6_0_c2) (cs' := #[.slice u6_0_A0 r0.1.length u6_0_c0, .slice u6_0_A1 r0.2.1.length u6_0_c1, .slice u6_0_A2 r0.2.2.length u6_0_c2]) rfl) (fun h => h); have HK_9 := Aside0.mk K_; clear K_; replace HO_v1 := Aside0.mk (owT.tr HO_v1.out T_.out (fun _ _ h => h)); replace HO_v2 := Aside0.mk (owI.tr HO_v2.out T_.out (fun _ _ h => h)); replace HO_v4 := Aside0.mk (owT.tr HO_v4.out T_.out (fun _ _ h => h)); replace HO_v5 := Aside0.mk (owI.tr HO_v5.out T_.out (fun _ _ h => h)); replace HO_u6_0 := Aside0.mk (owT.tr HO_u6_0.out T_.out (fun _ _ h => h)); (have s_ : w7.heap.size + 1 ≤ w8.heap.size := by have h9 := t_.size; simp only [al_size] at h9; omega); have hb_7_8 : w5.heap.size < w8.heap.size := blk_lt HK_7.out; have hc_7_0_8 : w8.cell? ⟨w5.heap.size, 0, none⟩ = some (.slice v4_A0 x0.1.length v4_c0) := (blk_cell HK_7.out 0).trans rfl; have hc_7_1_8 : w8.cell? ⟨w5.heap.size, 1, none⟩ = some (.slice v4_A1 x0.2.1.length v4_c1) := (blk_cell HK_7.out 1).trans rfl; have hc_7_2_8 : w8.cell? ⟨w5.heap.size, 2, none⟩ = some (.slice v4_A2 x0.2.2.length v4_c2) := (blk_cell HK_7.out 2).trans rfl; have hb_2_8 : w.heap.size < w8.heap.size := blk_lt HK_2.out; have hc_2_0_8 : w8.cell? ⟨w.heap.size, 0, none⟩ = some (.slice a0_A0 x0.1.length a0_c0) := (blk_cell HK_2.out 0).trans rfl; have hc_2_1_8 : w8.cell? ⟨w.heap.size, 1, none⟩ = some (.slice a0_A1 x0.2.1.length a0_c1) := (blk_cell HK_2.out 1).trans rfl; have hc_2_2_8 : w8.cell? ⟨w.heap.size, 2, none⟩ = some (.slice a0_A2 x0.2.2.length a0_c2) := (blk_cell HK_2.out 2).trans rfl; have HSS8 : Aside0 (w8.cell? ⟨w5.heap.size, 0, none⟩ = some (.slice v4_A0 x0.1.length v4_c0) ∧ w8.cell? ⟨w5.heap.size, 1, none⟩ = some (.slice v4_A1 x0.2.1.length v4_c1) ∧ w8.cell? ⟨w5.heap.size, 2, none⟩ = some (.slice v4_A2 x0.2.2.length v4_c2) ∧ w8.cell? ⟨w.heap.size, 0, none⟩ = some (.slice a0_A0 x0.1.length a0_c0) ∧ w8.cell? ⟨w.heap.size, 1, none⟩ = some (.slice a0_A1 x0.2.1.length a0_c1) ∧ w8.cell? ⟨w.heap.size, 2, none⟩ = some (.slice a0_A2 x0.2.2.length a0_c2)) := ⟨(blk_cell HK_7.out 0).trans rfl, (blk_cell HK_7.out 1).trans rfl, (blk_cell HK_7.out 2).trans rfl, (blk_cell HK_2.out 0).trans rfl, (blk_cell HK_2.out 1).trans rfl, (blk_cell HK_2.out 2).trans rfl⟩; have ST8 := Aside0.mk trivial; clear t_ T_ HB7 HS7))
  go_region_held3 (fun w' => w'.cell? ⟨w5.heap.size, 0, none⟩ = some (.slice v4_A0 x0.1.length v4_c0) ∧ w'.cell? ⟨w5.heap.size, 1, none⟩ = some (.slice v4_A1 x0.2.1.length v4_c1) ∧ w'.cell? ⟨w5.heap.size, 2, none⟩ = some (.slice v4_A2 x0.2.2.length v4_c2) ∧ w'.cell? ⟨w.heap.size, 0, none⟩ = some (.slice a0_A0 x0.1.length a0_c0) ∧ w'.cell? ⟨w.heap.size, 1, none⟩ = some (.slice a0_A1 x0.2.1.length a0_c1) ∧ w'.cell? ⟨w.heap.size, 2, none⟩ = some (.slice a0_A2 x0.2.2.length a0_c2)) (first | exact HSS8.out | exact HSS9.out | exact HSS10.out) (first | (go_at_call 7; have tok := ST8; (with_reducible refine (toT_c (HA0.out.past HB8.out) (HG.out.1) (by repeat (first | (with_reducible exact Tr.refl _ _) | (with_reducible apply Tr.drew) | (with_reducible apply Tr.drewN) | (with_reducible refine Tr.set ?_ (Nat.le_refl _) _) | (with_reducible apply Tr.alloc)))).mono ?_); clear tok ST8 hb_7_8 hc_7_0_8 hc_7_1_8 hc_7_2_8 hb_2_8 hc_2_0_8 hc_2_1_8 hc_2_2_8; rintro e w9 ⟨v7_A0, v7_c0, v7_A1, v7_c1, v7_A2, v7_c2, b_v7, rfl, o_, g_, t_⟩; have T_ : Aside0 (Tr (fun _ => False) w8 w9) := ⟨tr0.then_ (by repeat (first | (with_reducible exact Tr.refl _ _) | (with_reducible apply Tr.drew) | (with_reducible apply Tr.drewN) | (with_reducible refine Tr.set ?_ (Nat.le_refl _) _) | (with_reducible apply Tr.alloc))) t_⟩; have HB9 : Aside0 (Below w.heap.size w w9) := ⟨Tr.bel_ HB8.out T_.out (fun _ h => h.elim)⟩; have HS9 : Aside0 (Below w4.heap.size w4 w9) := ⟨Tr.bel_ HS8.out T_.out (fun _ h => h.elim)⟩; replace HK_2 : Aside0 (w9.heap[w.heap.size]? = some (.cells #[.slice a0_A0 x0.1.length a0_c0, .slice a0_A1 x0.2.1.length a0_c1, .slice a0_A2 x0.2.2.length a0_c2] 25 (0, 0))) := ⟨T_.out.blk HK_2.out (fun h => h)⟩; replace HK_6 : Aside0 (w9.heap[w4.heap.size]? = some (.cells #[.slice u3_0_A0 r0.1.length u3_0_c0, .slice u3_0_A1 r0.2.1.length u3_0_c1, .slice u3_0_A2 r0.2.2.length u3_0_c2] 27 (0, 0))) := ⟨T_.out.blk HK_6.out (fun h => h)⟩; replace HK_7 : Aside0 (w9.heap[w5.heap.size]? = some (.cells #[.slice v4_A0 x0.1.length v4_c0, .slice v4_A1 x0.2.1.length v4_c1, .slice v4_A2 x0.2.2.length v4_c2] 27 (0, 0))) := ⟨T_.out.blk HK_7.out (fun h => h)⟩; replace HK_9 : Aside0 (w9.heap[w7.heap.size]? = some (.cells #[.slice u6_0_A0 r0.1.length u6_0_c0, .slice u6_0_A1 r0.2.1.length u6_0_c1, .slice u6_0_A2 r0.2.2.length u6_0_c2] 27 (0, 0))) := ⟨T_.out.blk HK_9.out (fun h => h)⟩; replace HO_v1 := Aside0.mk (owT.tr HO_v1.out T_.out (fun _ _ h => h)); replace HO_v2 := Aside0.mk (owI.tr HO_v2.out T_.out (fun _ _ h => h)); replace HO_v4 := Aside0.mk (owT.tr HO_v4.out T_.out (fun _ _ h => h)); replace HO_v5 := Aside0.mk (owI.tr HO_v5.out T_.out (fun _ _ h => h)); replace HO_u6_0 := Aside0.mk (owT.tr HO_u6_0.out T_.out (fun _ _ h => h)); have HO_v7 := Aside0.mk o_; have HQ_v7 : Aside0 (∀ b, b ∈ b_v7 → w8.heap.size ≤ b) := ⟨fun b h => Nat.le_trans ((by repeat (first | (with_reducible exact Tr.refl _ _) | (with_reducible apply Tr.drew) | (with_reducible apply Tr.drewN) | (with_reducible refine Tr.set ?_ (Nat.le_refl _) _) | (with_reducible apply Tr.alloc))) : tr0 w8 _).size (g_ b h)⟩; have HU_v7 : Aside0 (∀ b, b ∈ b_v7 → b < w9.heap.size) := ⟨owT.lt o_⟩; have HL_v7 : Aside0 (∀ b, b ∈ b_v7 → w.heap.size ≤ b) := ⟨fun b h => by have h9 := HB8.out.size; have h8 := HQ_v7.out b h; omega⟩; have s_ : w8.heap.size ≤ w9.heap.size := T_.out.size; have HSS9 : Aside0 (w9.cell? ⟨w5.heap.size, 0, none⟩ = some (.slice v4_A0 x0.1.length v4_c0) ∧ w9.cell? ⟨w5.heap.size, 1, none⟩ = some (.slice v4_A1 x0.2.1.length v4_c1) ∧ w9.cell? ⟨w5.heap.size, 2, none⟩ = some (.slice v4_A2 x0.2.2.length v4_c2) ∧ w9.cell? ⟨w.heap.size, 0, none⟩ = some (.slice a0_A0 x0.1.length a0_c0) ∧ w9.cell? ⟨w.heap.size, 1, none⟩ = some (.slice a0_A1 x0.2.1.length a0_c1) ∧ w9.cell? ⟨w.heap.size, 2, none⟩ = some (.slice a0_A2 x0.2.2.length a0_c2)) := ⟨(blk_cell HK_7.out 0).trans rfl, (blk_cell HK_7.out 1).trans rfl, (blk_cell HK_7.out 2).trans rfl, (blk_cell HK_2.out 0).trans rfl, (blk_cell HK_2.out 1).trans rfl, (blk_cell HK_2.out 2).trans rfl⟩; have ST9 := Aside0.mk trivial; clear t_ T_ HB8 HS8 o_ g_) | (go_at_call 10; have tok := ST9; (with_reducible refine (eqT_c (oT.rd HO_v4.out) (oT.rd HO_v7.out) (HG.out.1) (by repeat (first | (with_reducible exact Tr.refl _ _) | (with_reducible apply Tr.drew) | (with_reducible apply Tr.drewN) | (with_reducible refine Tr.set ?_ (Nat.le_refl _) _) | (with_reducible apply Tr.alloc)))).mono ?_); clear tok ST9; rintro e w10 ⟨rfl, t_⟩; have T_ : Aside0 (Tr (fun _ => False) w9 w10) := ⟨tr0.then_ (by repeat (first | (with_reducible exact Tr.refl _ _) | (with_reducible apply Tr.drew) | (with_reducible apply Tr.drewN) | (with_reducible refine Tr.set ?_ (Nat.le_refl _) _) | (with_reducible apply Tr.alloc))) t_⟩; have HB10 : Aside0 (Below w.heap.size w w10) := ⟨Tr.bel_ HB9.out T_.out (fun _ h => h.elim)⟩; have HS10 : Aside0 (Below w4.heap.size w4 w10) := ⟨Tr.bel_ HS9.out T_.out (fun _ h => h.elim)⟩; replace HK_2 : Aside0 (w10.heap[w.heap.size]? = some (.cells #[.slice a0_A0 x0.1.length a0_c0, .slice a0_A1 x0.2.1.length a0_c1, .slice a0_A2 x0.2.2.length a0_c2] 25 (0, 0))) := ⟨T_.out.blk HK_2.out (fun h => h)⟩; replace HK_6 : Aside0 (w10.heap[w4.heap.size]? = some (.cells #[.slice u3_0_A0 r0.1.length u3_0_c0, .slice u3_0_A1 r0.2.1.length u3_0_c1, .slice u3_0_A2 r0.2.2.length u3_0_c2] 27 (0, 0))) := ⟨T_.out.blk HK_6.out (fun h => h)⟩; replace HK_7 : Aside0 (w10.heap[w5.heap.size]? = some (.cells #[.slice v4_A0 x0.1.length v4_c0, .slice v4_A1 x0.2.1.length v4_c1, .slice v4_A2 x0.2.2.length v4_c2] 27 (0, 0))) := ⟨T_.out.blk HK_7.out (fun h => h)⟩; replace HK_9 : Aside0 (w10.heap[w7.heap.size]? = some (.cells #[.slice u6_0_A0 r0.1.length u6_0_c0, .slice u6_0_A1 r0.2.1.length u6_0_c1, .slice u6_0_A2 r0.2.2.length u6_0_c2] 27 (0, 0))) := ⟨T_.out.blk HK_9.out (fun h => h)⟩; replace HO_v1 := Aside0.mk (owT.tr HO_v1.out T_.out (fun _ _ h => h)); replace HO_v2 := Aside0.mk (owI.tr HO_v2.out T_.out (fun _ _ h => h)); replace HO_v4 := Aside0.mk (owT.tr HO_v4.out T_.out (fun _ _ h => h)); replace HO_v5 := Aside0.mk (owI.tr HO_v5.out T_.out (fun _ _ h => h)); replace HO_u6_0 := Aside0.mk (owT.tr HO_u6_0.out T_.out (fun _ _ h => h)); replace HO_v7 := Aside0.mk (owT.tr HO_v7.out T_.out (fun _ _ h => h)); have s_ : w9.heap.size ≤ w10.heap.size := T_.out.size; have HSS10 : Aside0 (w10.cell? ⟨w5.heap.size, 0, none⟩ = some (.slice v4_A0 x0.1.length v4_c0) ∧ w10.cell? ⟨w5.heap.size, 1, none⟩ = some (.slice v4_A1 x0.2.1.length v4_c1) ∧ w10.cell? ⟨w5.heap.size, 2, none⟩ = some (.slice v4_A2 x0.2.2.length v4_c2) ∧ w10.cell? ⟨w.heap.size, 0, none⟩ = some (.slice a0_A0 x0.1.length a0_c0) ∧ w10.cell? ⟨w.heap.size, 1, none⟩ = some (.slice a0_A1 x0.2.1.length a0_c1) ∧ w10.cell? ⟨w.heap.size, 2, none⟩ = some (.slice a0_A2 x0.2.2.length a0_c2)) := ⟨(blk_cell HK_7.out 0).trans rfl, (blk_cell HK_7.out 1).trans rfl, (blk_cell HK_7.out 2).trans rfl, (blk_cell HK_2.out 0).trans rfl, (blk_cell HK_2.out 1).trans rfl, (blk_cell HK_2.out 2).trans rfl⟩; have ST10 := Aside0.mk trivial; clear t_ T_ HB9 HS9))
  go_wp2_with (first | (go_at_call 8; have tok := ST10; (with_reducible refine (toI_c (HA1.out.past HB10.out) (HG.out.2.1) (by repeat (first | (with_reducible exact Tr.refl _ _) | (with_reducible apply Tr.drew) | (with_reducible apply Tr.drewN) | (with_reducible refine Tr.set ?_ (Nat.le_refl _) _) | (with_reducible apply Tr.alloc)))).mono ?_); clear tok ST10; rintro e w11 ⟨v8_A0, v8_c0, b_v8, rfl, o_, g_, t_⟩; have T_ : Aside0 (Tr (fun _ => False) w10 w11) := ⟨tr0.then_ (by repeat (first | (with_reducible exact Tr.refl _ _) | (with_reducible apply Tr.drew) | (with_reducible apply Tr.drewN) | (with_reducible refine Tr.set ?_ (Nat.le_refl _) _) | (with_reducible apply Tr.alloc))) t_⟩; have HB11 : Aside0 (Below w.heap.size w w11) := ⟨Tr.bel_ HB10.out T_.out (fun _ h => h.elim)⟩; have HS11 : Aside0 (Below w4.heap.size w4 w11) := ⟨Tr.bel_ HS10.out T_.out (fun _ h => h.elim)⟩; replace HK_2 : Aside0 (w11.heap[w.heap.size]? = some (.cells #[.slice a0_A0 x0.1.length a0_c0, .slice a0_A1 x0.2.1.length a0_c1, .slice a0_A2 x0.2.2.length a0_c2] 25 (0, 0))) := ⟨T_.out.blk HK_2.out (fun h => h)⟩; replace HK_6 : Aside0 (w11.heap[w4.heap.size]? = some (.cells #[.slice u3_0_A0 r0.1.length u3_0_c0, .slice u3_0_A1 r0.2.1.length u3_0_c1, .slice u3_0_A2 r0.2.2.length u3_0_c2] 27 (0, 0))) := ⟨T_.out.blk HK_6.out (fun h => h)⟩; replace HK_7 : Aside0 (w11.heap[w5.heap.size]? = some (.cells #[.slice v4_A0 x0.1.length v4_c0, .slice v4_A1 x0.2.1.length v4_c1, .slice v4_A2 x0.2.2.length v4_c2] 27 (0, 0))) := ⟨T_.out.blk HK_7.out (fun h => h)⟩; replace HK_9 : Aside0 (w11.heap[w7.heap.size]? = some (.cells #[.slice u6_0_A0 r0.1.length u6_0_c0, .slice u6_0_A1 r0.2.1.length u6_0_c1, .slice u6_0_A2 r0.2.2.length u6_0_c2] 27 (0, 0))) := ⟨T_.out.blk HK_9.out (fun h => h)⟩; replace HO_v1 := Aside0.mk (owT.tr HO_v1.out T_.out (fun _ _ h => h)); replace HO_v2 := Aside0.mk (owI.tr HO_v2.out T_.out (fun _ _ h => h)); replace HO_v4 := Aside0.mk (owT.tr HO_v4.out T_.out (fun _ _ h => h)); replace HO_v5 := Aside0.mk (owI.tr HO_v5.out T_.out (fun _ _ h => h)); replace HO_u6_0 := Aside0.mk (owT.tr HO_u6_0.out T_.out (fun _ _ h => h)); replace HO_v7 := Aside0.mk (owT.tr HO_v7.out T_.out (fun _ _ h => h)); have HO_v8 := Aside0.mk o_; have HQ_v8 : Aside0 (∀ b, b ∈ b_v8 → w10.heap.size ≤ b) := ⟨fun b h => Nat.le_trans ((by repeat (first | (with_reducible exact Tr.refl _ _) | (with_reducible apply Tr.drew) | (with_reducible apply Tr.drewN) | (with_reducible refine Tr.set ?_ (Nat.le_refl _) _) | (with_reducible apply Tr.alloc))) : tr0 w10 _).size (g_ b h)⟩; have HU_v8 : Aside0 (∀ b, b ∈ b_v8 → b < w11.heap.size) := ⟨owI.lt o_⟩; have HL_v8 : Aside0 (∀ b, b ∈ b_v8 → w.heap.size ≤ b) := ⟨fun b h => by have h9 := HB10.out.size; have h8 := HQ_v8.out b h; omega⟩; have s_ : w10.heap.size ≤ w11.heap.size := T_.out.size; have ST11 := Aside0.mk trivial; clear t_ T_ HB10 HS10 o_ g_) | (go_at_call 11; have tok := ST11; (with_reducible refine (eqI_c (oI.rd HO_v5.out) (oI.rd HO_v8.out) (HG.out.2.1) (by repeat (first | (with_reducible exact Tr.refl _ _) | (with_reducible apply Tr.drew) | (with_reducible apply Tr.drewN) | (with_reducible refine Tr.set ?_ (Nat.le_refl _) _) | (with_reducible apply Tr.alloc)))).mono ?_); clear tok ST11; rintro e w12 ⟨rfl, t_⟩; have T_ : Aside0 (Tr (fun _ => False) w11 w12) := ⟨tr0.then_ (by repeat (first | (with_reducible exact Tr.refl _ _) | (with_reducible apply Tr.drew) | (with_reducible apply Tr.drewN) | (with_reducible refine Tr.set ?_ (Nat.le_refl _) _) | (with_reducible apply Tr.alloc))) t_⟩; have HB12 : Aside0 (Below w.heap.size w w12) := ⟨Tr.bel_ HB11.out T_.out (fun _ h => h.elim)⟩; have HS12 : Aside0 (Below w4.heap.size w4 w12) := ⟨Tr.bel_ HS11.out T_.out (fun _ h => h.elim)⟩; replace HK_2 : Aside0 (w12.heap[w.heap.size]? = some (.cells #[.slice a0_A0 x0.1.length a0_c0, .slice a0_A1 x0.2.1.length a0_c1, .slice a0_A2 x0.2.2.length a0_c2] 25 (0, 0))) := ⟨T_.out.blk HK_2.out (fun h => h)⟩; replace HK_6 : Aside0 (w12.heap[w4.heap.size]? = some (.cells #[.slice u3_0_A0 r0.1.length u3_0_c0, .slice u3_0_A1 r0.2.1.length u3_0_c1, .slice u3_0_A2 r0.2.2.length u3_0_c2] 27 (0, 0))) := ⟨T_.out.blk HK_6.out (fun h => h)⟩; replace HK_7 : Aside0 (w12.heap[w5.heap.size]? = some (.cells #[.slice v4_A0 x0.1.length v4_c0, .slice v4_A1 x0.2.1.length v4_c1, .slice v4_A2 x0.2.2.length v4_c2] 27 (0, 0))) := ⟨T_.out.blk HK_7.out (fun h => h)⟩; replace HK_9 : Aside0 (w12.heap[w7.heap.size]? = some (.cells #[.slice u6_0_A0 r0.1.length u6_0_c0, .slice u6_0_A1 r0.2.1.length u6_0_c1, .slice u6_0_A2 r0.2.2.length u6_0_c2] 27 (0, 0))) := ⟨T_.out.blk HK_9.out (fun h => h)⟩; replace HO_v1 := Aside0.mk (owT.tr HO_v1.out T_.out (fun _ _ h => h)); replace HO_v2 := Aside0.mk (owI.tr HO_v2.out T_.out (fun _ _ h => h)); replace HO_v4 := Aside0.mk (owT.tr HO_v4.out T_.out (fun _ _ h => h)); replace HO_v5 := Aside0.mk (owI.tr HO_v5.out T_.out (fun _ _ h => h)); replace HO_u6_0 := Aside0.mk (owT.tr HO_u6_0.out T_.out (fun _ _ h => h)); replace HO_v7 := Aside0.mk (owT.tr HO_v7.out T_.out (fun _ _ h => h)); replace HO_v8 := Aside0.mk (owI.tr HO_v8.out T_.out (fun _ _ h => h)); have s_ : w11.heap.size ≤ w12.heap.size := T_.out.size; have hb_7_12 : w5.heap.size < w12.heap.size := blk_lt HK_7.out; have hc_7_0_12 : w12.cell? ⟨w5.heap.size, 0, none⟩ = some (.slice v4_A0 x0.1.length v4_c0) := (blk_cell HK_7.out 0).trans rfl; have hc_7_1_12 : w12.cell? ⟨w5.heap.size, 1, none⟩ = some (.slice v4_A1 x0.2.1.length v4_c1) := (blk_cell HK_7.out 1).trans rfl; have hc_7_2_12 : w12.cell? ⟨w5.heap.size, 2, none⟩ = some (.slice v4_A2 x0.2.2.length v4_c2) := (blk_cell HK_7.out 2).trans rfl; have ST12 := Aside0.mk trivial; clear t_ T_ HB11 HS11) | (go_at_call 12; have tok := ST12; (with_reducible refine (markT_r (w := w) HN1.out HO_v4.out HL_v4.out HB12.out (HG.out.1) (by have := HBD.out; omega) (by repeat (first | (with_reducible exact Tr.refl _ _) | (with_reducible apply Tr.drew) | (with_reducible apply Tr.drewN) | (with_reducible refine Tr.set ?_ (Nat.le_refl _) _) | (with_reducible apply Tr.alloc)))).mono ?_); clear tok ST12 hb_7_12 hc_7_0_12 hc_7_1_12 hc_7_2_12; rintro e w13 ⟨rfl, ⟨b2_v4, o_, g_⟩, t_⟩; have T_ : Aside0 (Tr (· ∈ b_v4) w12 w13) := ⟨tr0.then_ (by repeat (first | (with_reducible exact Tr.refl _ _) | (with_reducible apply Tr.drew) | (with_reducible apply Tr.drewN) | (with_reducible refine Tr.set ?_ (Nat.le_refl _) _) | (with_reducible apply Tr.alloc))) t_⟩; have HB13 : Aside0 (Below w.heap.size w w13) := ⟨Tr.bel_ HB12.out T_.out (fun b h => HL_v4.out b h)⟩; have HS13 : Aside0 (Below w4.heap.size w4 w13) := ⟨Tr.bel_ HS12.out T_.out (fun b h => by have := HQ_v4.out b h; omega)⟩; replace HK_2 : Aside0 (w13.heap[w.heap.size]? = some (.cells #[.slice a0_A0 x0.1.length a0_c0, .slice a0_A1 x0.2.1.length a0_c1, .slice a0_A2 x0.2.2.length a0_c2] 25 (0, 0))) := ⟨T_.out.blk HK_2.out (fun h => by have := HU_v4.out _ h; have := HQ_v4.out _ h; omega)⟩; replace HK_6 : Aside0 (w13.heap[w4.heap.size]? = some (.cells #[.slice u3_0_A0 r0.1.length u3_0_c0, .slice u3_0_A1 r0.2.1.length u3_0_c1, .slice u3_0_A2 r0.2.2.length u3_0_c2] 27 (0, 0))) := ⟨T_.out.blk HK_6.out (fun h => by have := HU_v4.out _ h; have := HQ_v4.out _ h; omega)⟩; replace HK_7 : Aside0 (w13.heap[w5.heap.size]? = some (.cells #[.slice v4_A0 x0.1.length v4_c0, .slice v4_A1 x0.2.1.length v4_c1, .slice v4_A2 x0.2.2.length v4_c2] 27 (0, 0))) := ⟨T_.out.blk HK_7.out (fun h => by have := HU_v4.out _ h; have := HQ_v4.out _ h; omega)⟩; replace HK_9 : Aside0 (w13.heap[w7.heap.size]? = some (.cells #[.slice u6_0_A0 r0.1.length u6_0_c0, .slice u6_0_A1 r0.2.1.length u6_0_c1, .slice u6_0_A2 r0.2.2.length u6_0_c2] 27 (0, 0))) := ⟨T_.out.blk HK_9.out (fun h => by have := HU_v4.out _ h; have := HQ_v4.out _ h; omega)⟩; replace HO_v1 := Aside0.mk (owT.tr HO_v1.out T_.out (fun b h h' => by first | (have := HQ_v1.out b h; have := HU_v4.out b h'; omega) | (have := HU_v1.out b h; have := HQ_v4.out b h'; omega))); replace HO_v2 := Aside0.mk (owI.tr HO_v2.out T_.out (fun b h h' => by first | (have := HQ_v2.out b h; have := HU_v4.out b h'; omega) | (have := HU_v2.out b h; have := HQ_v4.out b h'; omega))); replace HO_v5 := Aside0.mk (owI.tr HO_v5.out T_.out (fun b h h' => by first | (have := HQ_v5.out b h; have := HU_v4.out b h'; omega) | (have := HU_v5.out b h; have := HQ_v4.out b h'; omega))); replace HO_u6_0 := Aside0.mk (owT.tr HO_u6_0.out T_.out (fun b h h' => by first | (have := HQ_u6_0.out b h; have := HU_v4.out b h'; omega) | (have := HU_u6_0.out b h; have := HQ_v4.out b h'; omega))); replace HO_v7 := Aside0.mk (owT.tr HO_v7.out T_.out (fun b h h' => by first | (have := HQ_v7.out b h; have := HU_v4.out b h'; omega) | (have := HU_v7.out b h; have := HQ_v4.out b h'; omega))); replace HO_v8 := Aside0.mk (owI.tr HO_v8.out T_.out (fun b h h' => by first | (have := HQ_v8.out b h; have := HU_v4.out b h'; omega) | (have := HU_v8.out b h; have := HQ_v4.out b h'; omega))); have s_ : w12.heap.size ≤ w13.heap.size := T_.out.size; have ST13 := Aside0.mk trivial; clear t_ T_ HB12 HS12 HO_v4 o_ g_) | (go_at_call 13; have tok := ST13; (with_reducible refine (markI_r (w := w) HN2.out HO_v5.out HL_v5.out HB13.out (HG.out.2.1) (by have := HBD.out; omega) (by repeat (first | (with_reducible exact Tr.refl _ _) | (with_reducible apply Tr.drew) | (with_reducible apply Tr.drewN) | (with_reducible refine Tr.set ?_ (Nat.le_refl _) _) | (with_reducible apply Tr.alloc)))).mono ?_); clear tok ST13; rintro e w14 ⟨rfl, ⟨b2_v5, o_, g_⟩, t_⟩; have T_ : Aside0 (Tr (· ∈ b_v5) w13 w14) := ⟨tr0.then_ (by repeat (first | (with_reducible exact Tr.refl _ _) | (with_reducible apply Tr.drew) | (with_reducible apply Tr.drewN) | (with_reducible refine Tr.set ?_ (Nat.le_refl _) _) | (with_reducible apply Tr.alloc))) t_⟩; have HB14 : Aside0 (Below w.heap.size w w14) := ⟨Tr.bel_ HB13.out T_.out (fun b h => HL_v5.out b h)⟩; have HS14 : Aside0 (Below w4.heap.size w4 w14) := ⟨Tr.bel_ HS13.out T_.out (fun b h => by have := HQ_v5.out b h; omega)⟩; replace HK_2 : Aside0 (w14.heap[w.heap.size]? = some (.cells #[.slice a0_A0 x0.1.length a0_c0, .slice a0_A1 x0.2.1.length a0_c1, .slice a0_A2 x0.2.2.length a0_c2] 25 (0, 0))) := ⟨T_.out.blk HK_2.out (fun h => by have := HU_v5.out _ h; have := HQ_v5.out _ h; omega)⟩; replace HK_6 : Aside0 (w14.heap[w4.heap.size]? = some (.cells #[.slice u3_0_A0 r0.1.length u3_0_c0, .slice u3_0_A1 r0.2.1.length u3_0_c1, .slice u3_0_A2 r0.2.2.length u3_0_c2] 27 (0, 0))) := ⟨T_.out.blk HK_6.out (fun h => by have := HU_v5.out _ h; have := HQ_v5.out _ h; omega)⟩; replace HK_7 : Aside0 (w14.heap[w5.heap.size]? = some (.cells #[.slice v4_A0 x0.1.length v4_c0, .slice v4_A1 x0.2.1.length v4_c1, .slice v4_A2 x0.2.2.length v4_c2] 27 (0, 0))) := ⟨T_.out.blk HK_7.out (fun h => by have := HU_v5.out _ h; have := HQ_v5.out _ h; omega)⟩; replace HK_9 : Aside0 (w14.heap[w7.heap.size]? = some (.cells #[.slice u6_0_A0 r0.1.length u6_0_c0, .slice u6_0_A1 r0.2.1.length u6_0_c1, .slice u6_0_A2 r0.2.2.length u6_0_c2] 27 (0, 0))) := ⟨T_.out.blk HK_9.out (fun h => by have := HU_v5.out _ h; have := HQ_v5.out _ h; omega)⟩; replace HO_v1 := Aside0.mk (owT.tr HO_v1.out T_.out (fun b h h' => by first | (have := HQ_v1.out b h; have := HU_v5.out b h'; omega) | (have := HU_v1.out b h; have := HQ_v5.out b h'; omega))); replace HO_v2 := Aside0.mk (owI.tr HO_v2.out T_.out (fun b h h' => by first | (have := HQ_v2.out b h; have := HU_v5.out b h'; omega) | (have := HU_v2.out b h; have := HQ_v5.out b h'; omega))); replace HO_u6_0 := Aside0.mk (owT.tr HO_u6_0.out T_.out (fun b h h' => by first | (have := HQ_u6_0.out b h; have := HU_v5.out b h'; omega) | (have := HU_u6_0.out b h; have := HQ_v5.out b h'; omega))); replace HO_v7 := Aside0.mk (owT.tr HO_v7.out T_.out (fun b h h' => by first | (have := HQ_v7.out b h; have := HU_v5.out b h'; omega) | (have := HU_v7.out b h; have := HQ_v5.out b h'; omega))); replace HO_v8 := Aside0.mk (owI.tr HO_v8.out T_.out (fun b h h' => by first | (have := HQ_v8.out b h; have := HU_v5.out b h'; omega) | (have := HU_v8.out b h; have := HQ_v5.out b h'; omega))); have s_ : w13.heap.size ≤ w14.heap.size := T_.out.size; have hb_9_14 : w7.heap.size < w14.heap.size := blk_lt HK_9.out; have hc_9_0_14 : w14.cell? ⟨w7.heap.size, 0, none⟩ = some (.slice u6_0_A0 r0.1.length u6_0_c0) := (blk_cell HK_9.out 0).trans rfl; have hc_9_1_14 : w14.cell? ⟨w7.heap.size, 1, none⟩ = some (.slice u6_0_A1 r0.2.1.length u6_0_c1) := (blk_cell HK_9.out 1).trans rfl; have hc_9_2_14 : w14.cell? ⟨w7.heap.size, 2, none⟩ = some (.slice u6_0_A2 r0.2.2.length u6_0_c2) := (blk_cell HK_9.out 2).trans rfl; have hb_6_14 : w4.heap.size < w14.heap.size := blk_lt HK_6.out; have hc_6_0_14 : w14.cell? ⟨w4.heap.size, 0, none⟩ = some (.slice u3_0_A0 r0.1.length u3_0_c0) := (blk_cell HK_6.out 0).trans rfl; have hc_6_1_14 : w14.cell? ⟨w4.heap.size, 1, none⟩ = some (.slice u3_0_A1 r0.2.1.length u3_0_c1) := (blk_cell HK_6.out 1).trans rfl; have hc_6_2_14 : w14.cell? ⟨w4.heap.size, 2, none⟩ = some (.slice u3_0_A2 r0.2.2.length u3_0_c2) := (blk_cell HK_6.out 2).trans rfl; have ST14 := Aside0.mk trivial; clear t_ T_ HB13 HS13 HO_v5 o_ g_) | (go_at_call 10; have tok := ST14; (with_reducible refine (eqT_c (oT.rd HO_u6_0.out) (HR_u3_0.out.past HS14.out) (HG.out.2.2.1) (by repeat (first | (with_reducible exact Tr.refl _ _) | (with_reducible apply Tr.drew) | (with_reducible apply Tr.drewN) | (with_reducible refine Tr.set ?_ (Nat.le_refl _) _) | (with_reducible apply Tr.alloc)))).mono ?_); clear tok ST14 hb_9_14 hc_9_0_14 hc_9_1_14 hc_9_2_14 hb_6_14 hc_6_0_14 hc_6_1_14 hc_6_2_14; rintro e w15 ⟨rfl, t_⟩; have T_ : Aside0 (Tr (fun _ => False) w14 w15) := ⟨tr0.then_ (by repeat (first | (with_reducible exact Tr.refl _ _) | (with_reducible apply Tr.drew) | (with_reducible apply Tr.drewN) | (with_reducible refine Tr.set ?_ (Nat.le_refl _) _) | (with_reducible apply Tr.alloc))) t_⟩; have HB15 : Aside0 (Below w.heap.size w w15) := ⟨Tr.bel_ HB14.out T_.out (fun _ h => h.elim)⟩; have HS15 : Aside0 (Below w4.heap.size w4 w15) := ⟨Tr.bel_ HS14.out T_.out (fun _ h => h.elim)⟩; replace HK_2 : Aside0 (w15.heap[w.heap.size]? = some (.cells #[.slice a0_A0 x0.1.length a0_c0, .slice a0_A1 x0.2.1.length a0_c1, .slice a0_A2 x0.2.2.length a0_c2] 25 (0, 0))) := ⟨T_.out.blk HK_2.out (fun h => h)⟩; replace HK_6 : Aside0 (w15.heap[w4.heap.size]? = some (.cells #[.slice u3_0_A0 r0.1.length u3_0_c0, .slice u3_0_A1 r0.2.1.length u3_0_c1, .slice u3_0_A2 r0.2.2.length u3_0_c2] 27 (0, 0))) := ⟨T_.out.blk HK_6.out (fun h => h)⟩; replace HK_7 : Aside0 (w15.heap[w5.heap.size]? = some (.cells #[.slice v4_A0 x0.1.length v4_c0, .slice v4_A1 x0.2.1.length v4_c1, .slice v4_A2 x0.2.2.length v4_c2] 27 (0, 0))) := ⟨T_.out.blk HK_7.out (fun h => h)⟩; replace HK_9 : Aside0 (w15.heap[w7.heap.size]? = some (.cells #[.slice u6_0_A0 r0.1.length u6_0_c0, .slice u6_0_A1 r0.2.1.length u6_0_c1, .slice u6_0_A2 r0.2.2.length u6_0_c2] 27 (0, 0))) := ⟨T_.out.blk HK_9.out (fun h => h)⟩; replace HO_v1 := Aside0.mk (owT.tr HO_v1.out T_.out (fun _ _ h => h)); replace HO_v2 := Aside0.mk (owI.tr HO_v2.out T_.out (fun _ _ h => h)); replace HO_u6_0 := Aside0.mk (owT.tr HO_u6_0.out T_.out (fun _ _ h => h)); replace HO_v7 := Aside0.mk (owT.tr HO_v7.out T_.out (fun _ _ h => h)); replace HO_v8 := Aside0.mk (owI.tr HO_v8.out T_.out (fun _ _ h => h)); have s_ : w14.heap.size ≤ w15.heap.size := T_.out.size; have hb_9_15 : w7.heap.size < w15.heap.size := blk_lt HK_9.out; have hc_9_0_15 : w15.cell? ⟨w7.heap.size, 0, none⟩ = some (.slice u6_0_A0 r0.1.length u6_0_c0) := (blk_cell HK_9.out 0).trans rfl; have hc_9_1_15 : w15.cell? ⟨w7.heap.size, 1, none⟩ = some (.slice u6_0_A1 r0.2.1.length u6_0_c1) := (blk_cell HK_9.out 1).trans rfl; have hc_9_2_15 : w15.cell? ⟨w7.heap.size, 2, none⟩ = some (.slice u6_0_A2 r0.2.2.length u6_0_c2) := (blk_cell HK_9.out 2).trans rfl; have ST15 := Aside0.mk trivial; clear t_ T_ HB14 HS14) | (go_at_call 12; have tok := ST15; (with_reducible refine (markT_r (w := w) HM1.out HO_u6_0.out HL_u6_0.out HB15.out (HG.out.2.2.1) (by have := HBD.out; omega) (by repeat (first | (with_reducible exact Tr.refl _ _) | (with_reducible apply Tr.drew) | (with_reducible apply Tr.drewN) | (with_reducible refine Tr.set ?_ (Nat.le_refl _) _) | (with_reducible apply Tr.alloc)))).mono ?_); clear tok ST15 hb_9_15 hc_9_0_15 hc_9_1_15 hc_9_2_15; rintro e w16 ⟨rfl, ⟨b2_u6_0, o_, g_⟩, t_⟩; have T_ : Aside0 (Tr (· ∈ b_u6_0) w15 w16) := ⟨tr0.then_ (by repeat (first | (with_reducible exact Tr.refl _ _) | (with_reducible apply Tr.drew) | (with_reducible apply Tr.drewN) | (with_reducible refine Tr.set ?_ (Nat.le_refl _) _) | (with_reducible apply Tr.alloc))) t_⟩; have HB16 : Aside0 (Below w.heap.size w w16) := ⟨Tr.bel_ HB15.out T_.out (fun b h => HL_u6_0.out b h)⟩; have HS16 : Aside0 (Below w4.heap.size w4 w16) := ⟨Tr.bel_ HS15.out T_.out (fun b h => by have := HQ_u6_0.out b h; omega)⟩; replace HK_2 : Aside0 (w16.heap[w.heap.size]? = some (.cells #[.slice a0_A0 x0.1.length a0_c0, .slice a0_A1 x0.2.1.length a0_c1, .slice a0_A2 x0.2.2.length a0_c2] 25 (0, 0))) := ⟨T_.out.blk HK_2.out (fun h => by have := HU_u6_0.out _ h; have := HQ_u6_0.out _ h; omega)⟩; replace HK_6 : Aside0 (w16.heap[w4.heap.size]? = some (.cells #[.slice u3_0_A0 r0.1.length u3_0_c0, .slice u3_0_A1 r0.2.1.length u3_0_c1, .slice u3_0_A2 r0.2.2.length u3_0_c2] 27 (0, 0))) := ⟨T_.out.blk HK_6.out (fun h => by have := HU_u6_0.out _ h; have := HQ_u6_0.out _ h; omega)⟩; replace HK_7 : Aside0 (w16.heap[w5.heap.size]? = some (.cells #[.slice v4_A0 x0.1.length v4_c0, .slice v4_A1 x0.2.1.length v4_c1, .slice v4_A2 x0.2.2.length v4_c2] 27 (0, 0))) := ⟨T_.out.blk HK_7.out (fun h => by have := HU_u6_0.out _ h; have := HQ_u6_0.out _ h; omega)⟩; replace HK_9 : Aside0 (w16.heap[w7.heap.size]? = some (.cells #[.slice u6_0_A0 r0.1.length u6_0_c0, .slice u6_0_A1 r0.2.1.length u6_0_c1, .slice u6_0_A2 r0.2.2.length u6_0_c2] 27 (0, 0))) := ⟨T_.out.blk HK_9.out (fun h => by have := HU_u6_0.out _ h; have := HQ_u6_0.out _ h; omega)⟩; replace HO_v1 := Aside0.mk (owT.tr HO_v1.out T_.out (fun b h h' => by first | (have := HQ_v1.out b h; have := HU_u6_0.out b h'; omega) | (have := HU_v1.out b h; have := HQ_u6_0.out b h'; omega))); replace HO_v2 := Aside0.mk (owI.tr HO_v2.out T_.out (fun b h h' => by first | (have := HQ_v2.out b h; have := HU_u6_0.out b h'; omega) | (have := HU_v2.out b h; have := HQ_u6_0.out b h'; omega))); replace HO_v7 := Aside0.mk (owT.tr HO_v7.out T_.out (fun b h h' => by first | (have := HQ_v7.out b h; have := HU_u6_0.out b h'; omega) | (have := HU_v7.out b h; have := HQ_u6_0.out b h'; omega))); replace HO_v8 := Aside0.mk (owI.tr HO_v8.out T_.out (fun b h h' => by first | (have := HQ_v8.out b h; have := HU_u6_0.out b h'; omega) | (have := HU_v8.out b h; have := HQ_u6_0.out b h'; omega))); have HH_u6_0 : Aside0 (RdT w16 (mkT 1 r0) u6_0_A0 u6_0_c0 u6_0_A1 u6_0_c1 u6_0_A2 u6_0_c2) := ⟨oT.rd o_⟩; have HX_u6_0 := Aside0.mk o_; have HXg_u6_0 := Aside0.mk g_; have s_ : w15.heap.size ≤ w16.heap.size := T_.out.size; have hb_9_16 : w7.heap.size < w16.heap.size := blk_lt HK_9.out; have hc_9_0_16 : w16.cell? ⟨w7.heap.size, 0, none⟩ = some (.slice u6_0_A0 r0.1.length u6_0_c0) := (blk_cell HK_9.out 0).trans rfl; have hc_9_1_16 : w16.cell? ⟨w7.heap.size, 1, none⟩ = some (.slice u6_0_A1 r0.2.1.length u6_0_c1) := (blk_cell HK_9.out 1).trans rfl; have hc_9_2_16 : w16.cell? ⟨w7.heap.size, 2, none⟩ = some (.slice u6_0_A2 r0.2.2.length u6_0_c2) := (blk_cell HK_9.out 2).trans rfl; have ST16 := Aside0.mk trivial; clear t_ T_ HB15 HS15 HO_u6_0 o_ g_) | (go_at_call 14; have tok := ST16; (with_reducible refine (heldT_r HM1.out HH_u6_0.out (HG.out.2.2.1) (by have := HBD.out; omega) (by repeat (first | (with_reducible exact Tr.refl _ _) | (with_reducible apply Tr.drew) | (with_reducible apply Tr.drewN) | (with_reducible refine Tr.set ?_ (Nat.le_refl _) _) | (with_reducible apply Tr.alloc)))).mono ?_); clear tok ST16 hb_9_16 hc_9_0_16 hc_9_1_16 hc_9_2_16; rintro e w17 ⟨rfl, t_⟩; have T_ : Aside0 (Tr (fun _ => False) w16 w17) := ⟨tr0.then_ (by repeat (first | (with_reducible exact Tr.refl _ _) | (with_reducible apply Tr.drew) | (with_reducible apply Tr.drewN) | (with_reducible refine Tr.set ?_ (Nat.le_refl _) _) | (with_reducible apply Tr.alloc))) t_⟩; have HB17 : Aside0 (Below w.heap.size w w17) := ⟨Tr.bel_ HB16.out T_.out (fun _ h => h.elim)⟩; have HS17 : Aside0 (Below w4.heap.size w4 w17) := ⟨Tr.bel_ HS16.out T_.out (fun _ h => h.elim)⟩; replace HK_2 : Aside0 (w17.heap[w.heap.size]? = some (.cells #[.slice a0_A0 x0.1.length a0_c0, .slice a0_A1 x0.2.1.length a0_c1, .slice a0_A2 x0.2.2.length a0_c2] 25 (0, 0))) := ⟨T_.out.blk HK_2.out (fun h => h)⟩; replace HK_6 : Aside0 (w17.heap[w4.heap.size]? = some (.cells #[.slice u3_0_A0 r0.1.length u3_0_c0, .slice u3_0_A1 r0.2.1.length u3_0_c1, .slice u3_0_A2 r0.2.2.length u3_0_c2] 27 (0, 0))) := ⟨T_.out.blk HK_6.out (fun h => h)⟩; replace HK_7 : Aside0 (w17.heap[w5.heap.size]? = some (.cells #[.slice v4_A0 x0.1.length v4_c0, .slice v4_A1 x0.2.1.length v4_c1, .slice v4_A2 x0.2.2.length v4_c2] 27 (0, 0))) := ⟨T_.out.blk HK_7.out (fun h => h)⟩; replace HK_9 : Aside0 (w17.heap[w7.heap.size]? = some (.cells #[.slice u6_0_A0 r0.1.length u6_0_c0, .slice u6_0_A1 r0.2.1.length u6_0_c1, .slice u6_0_A2 r0.2.2.length u6_0_c2] 27 (0, 0))) := ⟨T_.out.blk HK_9.out (fun h => h)⟩; replace HO_v1 := Aside0.mk (owT.tr HO_v1.out T_.out (fun _ _ h => h)); replace HO_v2 := Aside0.mk (owI.tr HO_v2.out T_.out (fun _ _ h => h)); replace HO_v7 := Aside0.mk (owT.tr HO_v7.out T_.out (fun _ _ h => h)); replace HO_v8 := Aside0.mk (owI.tr HO_v8.out T_.out (fun _ _ h => h)); replace HH_u6_0 := Aside0.mk (HH_u6_0.out.tr T_.out); have s_ : w16.heap.size ≤ w17.heap.size := T_.out.size; have hb_2_17 : w.heap.size < w17.heap.size := blk_lt HK_2.out; have hc_2_0_17 : w17.cell? ⟨w.heap.size, 0, none⟩ = some (.slice a0_A0 x0.1.length a0_c0) := (blk_cell HK_2.out 0).trans rfl; have hc_2_1_17 : w17.cell? ⟨w.heap.size, 1, none⟩ = some (.slice a0_A1 x0.2.1.length a0_c1) := (blk_cell HK_2.out 1).trans rfl; have hc_2_2_17 : w17.cell? ⟨w.heap.size, 2, none⟩ = some (.slice a0_A2 x0.2.2.length a0_c2) := (blk_cell HK_2.out 2).trans rfl; have ST17 := Aside0.mk trivial; clear t_ T_ HB16 HS16) | (go_at_call 7; have tok := ST17; (with_reducible refine (toT_c (HA0.out.past HB17.out) (HG.out.1) (by repeat (first | (with_reducible exact Tr.refl _ _) | (with_reducible apply Tr.drew) | (with_reducible apply Tr.drewN) | (with_reducible refine Tr.set ?_ (Nat.le_refl _) _) | (with_reducible apply Tr.alloc)))).mono ?_); clear tok ST17 hb_2_17 hc_2_0_17 hc_2_1_17 hc_2_2_17; rintro e w18 ⟨v9_A0, v9_c0, v9_A1, v9_c1, v9_A2, v9_c2, b_v9, rfl, o_, g_, t_⟩; have T_ : Aside0 (Tr (fun _ => False) w17 w18) := ⟨tr0.then_ (by repeat (first | (with_reducible exact Tr.refl _ _) | (with_reducible apply Tr.drew) | (with_reducible apply Tr.drewN) | (with_reducible refine Tr.set ?_ (Nat.le_refl _) _) | (with_reducible apply Tr.alloc))) t_⟩; have HB18 : Aside0 (Below w.heap.size w w18) := ⟨Tr.bel_ HB17.out T_.out (fun _ h => h.elim)⟩; have HS18 : Aside0 (Below w4.heap.size w4 w18) := ⟨Tr.bel_ HS17.out T_.out (fun _ h => h.elim)⟩; replace HK_2 : Aside0 (w18.heap[w.heap.size]? = some (.cells #[.slice a0_A0 x0.1.length a0_c0, .slice a0_A1 x0.2.1.length a0_c1, .slice a0_A2 x0.2.2.length a0_c2] 25 (0, 0))) := ⟨T_.out.blk HK_2.out (fun h => h)⟩; replace HK_6 : Aside0 (w18.heap[w4.heap.size]? = some (.cells #[.slice u3_0_A0 r0.1.length u3_0_c0, .slice u3_0_A1 r0.2.1.length u3_0_c1, .slice u3_0_A2 r0.2.2.length u3_0_c2] 27 (0, 0))) := ⟨T_.out.blk HK_6.out (fun h => h)⟩; replace HK_7 : Aside0 (w18.heap[w5.heap.size]? = some (.cells #[.slice v4_A0 x0.1.length v4_c0, .slice v4_A1 x0.2.1.length v4_c1, .slice v4_A2 x0.2.2.length v4_c2] 27 (0, 0))) := ⟨T_.out.blk HK_7.out (fun h => h)⟩; replace HK_9 : Aside0 (w18.heap[w7.heap.size]? = some (.cells #[.slice u6_0_A0 r0.1.length u6_0_c0, .slice u6_0_A1 r0.2.1.length u6_0_c1, .slice u6_0_A2 r0.2.2.length u6_0_c2] 27 (0, 0))) := ⟨T_.out.blk HK_9.out (fun h => h)⟩; replace HO_v1 := Aside0.mk (owT.tr HO_v1.out T_.out (fun _ _ h => h)); replace HO_v2 := Aside0.mk (owI.tr HO_v2.out T_.out (fun _ _ h => h)); replace HO_v7 := Aside0.mk (owT.tr HO_v7.out T_.out (fun _ _ h => h)); replace HO_v8 := Aside0.mk (owI.tr HO_v8.out T_.out (fun _ _ h => h)); replace HH_u6_0 := Aside0.mk (HH_u6_0.out.tr T_.out); have HO_v9 := Aside0.mk o_; have HQ_v9 : Aside0 (∀ b, b ∈ b_v9 → w17.heap.size ≤ b) := ⟨fun b h => Nat.le_trans ((by repeat (first | (with_reducible exact Tr.refl _ _) | (with_reducible apply Tr.drew) | (with_reducible apply Tr.drewN) | (with_reducible refine Tr.set ?_ (Nat.le_refl _) _) | (with_reducible apply Tr.alloc))) : tr0 w17 _).size (g_ b h)⟩; have HU_v9 : Aside0 (∀ b, b ∈ b_v9 → b < w18.heap.size) := ⟨owT.lt o_⟩; have HL_v9 : Aside0 (∀ b, b ∈ b_v9 → w.heap.size ≤ b) := ⟨fun b h => by have h9 := HB17.out.size; have h8 := HQ_v9.out b h; omega⟩; have s_ : w17.heap.size ≤ w18.heap.size := T_.out.size; have ST18 := Aside0.mk trivial; clear t_ T_ HB17 HS17 o_ g_) | (go_at_call 8; have tok := ST18; (with_reducible refine (toI_c (HA1.out.past HB18.out) (HG.out.2.1) (by repeat (first | (with_reducible exact Tr.refl _ _) | (with_reducible apply Tr.drew) | (with_reducible apply Tr.drewN) | (with_reducible refine Tr.set ?_ (Nat.le_refl _) _) | (with_reducible apply Tr.alloc)))).mono ?_); clear tok ST18; rintro e w19 ⟨v10_A0, v10_c0, b_v10, rfl, o_, g_, t_⟩; have T_ : Aside0 (Tr (fun _ => False) w18 w19) := ⟨tr0.then_ (by repeat (first | (with_reducible exact Tr.refl _ _) | (with_reducible apply Tr.drew) | (with_reducible apply Tr.drewN) | (with_reducible refine Tr.set ?_ (Nat.le_refl _) _) | (with_reducible apply Tr.alloc))) t_⟩; have HB19 : Aside0 (Below w.heap.size w w19) := ⟨Tr.bel_ HB18.out T_.out (fun _ h => h.elim)⟩; have HS19 : Aside0 (Below w4.heap.size w4 w19) := ⟨Tr.bel_ HS18.out T_.out (fun _ h => h.elim)⟩; replace HK_2 : Aside0 (w19.heap[w.heap.size]? = some (.cells #[.slice a0_A0 x0.1.length a0_c0, .slice a0_A1 x0.2.1.length a0_c1, .slice a0_A2 x0.2.2.length a0_c2] 25 (0, 0))) := ⟨T_.out.blk HK_2.out (fun h => h)⟩; replace HK_6 : Aside0 (w19.heap[w4.heap.size]? = some (.cells #[.slice u3_0_A0 r0.1.length u3_0_c0, .slice u3_0_A1 r0.2.1.length u3_0_c1, .slice u3_0_A2 r0.2.2.length u3_0_c2] 27 (0, 0))) := ⟨T_.out.blk HK_6.out (fun h => h)⟩; replace HK_7 : Aside0 (w19.heap[w5.heap.size]? = some (.cells #[.slice v4_A0 x0.1.length v4_c0, .slice v4_A1 x0.2.1.length v4_c1, .slice v4_A2 x0.2.2.length v4_c2] 27 (0, 0))) := ⟨T_.out.blk HK_7.out (fun h => h)⟩; replace HK_9 : Aside0 (w19.heap[w7.heap.size]? = some (.cells #[.slice u6_0_A0 r0.1.length u6_0_c0, .slice u6_0_A1 r0.2.1.length u6_0_c1, .slice u6_0_A2 r0.2.2.length u6_0_c2] 27 (0, 0))) := ⟨T_.out.blk HK_9.out (fun h => h)⟩; replace HO_v1 := Aside0.mk (owT.tr HO_v1.out T_.out (fun _ _ h => h)); replace HO_v2 := Aside0.mk (owI.tr HO_v2.out T_.out (fun _ _ h => h)); replace HO_v7 := Aside0.mk (owT.tr HO_v7.out T_.out (fun _ _ h => h)); replace HO_v8 := Aside0.mk (owI.tr HO_v8.out T_.out (fun _ _ h => h)); replace HO_v9 := Aside0.mk (owT.tr HO_v9.out T_.out (fun _ _ h => h)); replace HH_u6_0 := Aside0.mk (HH_u6_0.out.tr T_.out); have HO_v10 := Aside0.mk o_; have HQ_v10 : Aside0 (∀ b, b ∈ b_v10 → w18.heap.size ≤ b) := ⟨fun b h => Nat.le_trans ((by repeat (first | (with_reducible exact Tr.refl _ _) | (with_reducible apply Tr.drew) | (with_reducible apply Tr.drewN) | (with_reducible refine Tr.set ?_ (Nat.le_refl _) _) | (with_reducible apply Tr.alloc))) : tr0 w18 _).size (g_ b h)⟩; have HU_v10 : Aside0 (∀ b, b ∈ b_v10 → b < w19.heap.size) := ⟨owI.lt o_⟩; have HL_v10 : Aside0 (∀ b, b ∈ b_v10 → w.heap.size ≤ b) := ⟨fun b h => by have h9 := HB18.out.size; have h8 := HQ_v10.out b h; omega⟩; have s_ : w18.heap.size ≤ w19.heap.size := T_.out.size; have ST19 := Aside0.mk trivial; clear t_ T_ HB18 HS18 o_ g_) | (go_at_call 9; have tok := ST19; (with_reducible refine (HIM.out w19 _ _ _ _ _ _ _ _ _ (by repeat (first | (with_reducible exact Tr.refl _ _) | (with_reducible apply Tr.drew) | (with_reducible apply Tr.drewN) | (with_reducible refine Tr.set ?_ (Nat.le_refl _) _) | (with_reducible apply Tr.alloc))) (oT.rd HO_v9.out) (oI.rd HO_v10.out)).mono ?_); clear tok ST19; rintro e w20 ⟨u11_0_A0, u11_0_c0, u11_0_A1, u11_0_c1, u11_0_A2, u11_0_c2, b_u11_0, rfl, o_0, g_0, t_⟩; have T_ : Aside0 (Tr (fun _ => False) w19 w20) := ⟨tr0.then_ (by repeat (first | (with_reducible exact Tr.refl _ _) | (with_reducible apply Tr.drew) | (with_reducible apply Tr.drewN) | (with_reducible refine Tr.set ?_ (Nat.le_refl _) _) | (with_reducible apply Tr.alloc))) t_⟩; have HB20 : Aside0 (Below w.heap.size w w20) := ⟨Tr.bel_ HB19.out T_.out (fun _ h => h.elim)⟩; have HS20 : Aside0 (Below w4.heap.size w4 w20) := ⟨Tr.bel_ HS19.out T_.out (fun _ h => h.elim)⟩; replace HK_2 : Aside0 (w20.heap[w.heap.size]? = some (.cells #[.slice a0_A0 x0.1.length a0_c0, .slice a0_A1 x0.2.1.length a0_c1, .slice a0_A2 x0.2.2.length a0_c2] 25 (0, 0))) := ⟨T_.out.blk HK_2.out (fun h => h)⟩; replace HK_6 : Aside0 (w20.heap[w4.heap.size]? = some (.cells #[.slice u3_0_A0 r0.1.length u3_0_c0, .slice u3_0_A1 r0.2.1.length u3_0_c1, .slice u3_0_A2 r0.2.2.length u3_0_c2] 27 (0, 0))) := ⟨T_.out.blk HK_6.out (fun h => h)⟩; replace HK_7 : Aside0 (w20.heap[w5.heap.size]? = some (.cells #[.slice v4_A0 x0.1.length v4_c0, .slice v4_A1 x0.2.1.length v4_c1, .slice v4_A2 x0.2.2.length v4_c2] 27 (0, 0))) := ⟨T_.out.blk HK_7.out (fun h => h)⟩; replace HK_9 : Aside0 (w20.heap[w7.heap.size]? = some (.cells #[.slice u6_0_A0 r0.1.length u6_0_c0, .slice u6_0_A1 r0.2.1.length u6_0_c1, .slice u6_0_A2 r0.2.2.length u6_0_c2] 27 (0, 0))) := ⟨T_.out.blk HK_9.out (fun h => h)⟩; replace HO_v1 := Aside0.mk (owT.tr HO_v1.out T_.out (fun _ _ h => h)); replace HO_v2 := Aside0.mk (owI.tr HO_v2.out T_.out (fun _ _ h => h)); replace HO_v7 := Aside0.mk (owT.tr HO_v7.out T_.out (fun _ _ h => h)); replace HO_v8 := Aside0.mk (owI.tr HO_v8.out T_.out (fun _ _ h => h)); replace HO_v9 := Aside0.mk (owT.tr HO_v9.out T_.out (fun _ _ h => h)); replace HO_v10 := Aside0.mk (owI.tr HO_v10.out T_.out (fun _ _ h => h)); replace HH_u6_0 := Aside0.mk (HH_u6_0.out.tr T_.out); have HO_u11_0 := Aside0.mk o_0; have HQ_u11_0 : Aside0 (∀ b, b ∈ b_u11_0 → w19.heap.size ≤ b) := ⟨fun b h => Nat.le_trans ((by repeat (first | (with_reducible exact Tr.refl _ _) | (with_reducible apply Tr.drew) | (with_reducible apply Tr.drewN) | (with_reducible refine Tr.set ?_ (Nat.le_refl _) _) | (with_reducible apply Tr.alloc))) : tr0 w19 _).size (g_0 b h)⟩; have HU_u11_0 : Aside0 (∀ b, b ∈ b_u11_0 → b < w20.heap.size) := ⟨owT.lt o_0⟩; have HL_u11_0 : Aside0 (∀ b, b ∈ b_u11_0 → w.heap.size ≤ b) := ⟨fun b h => by have h9 := HB19.out.size; have h8 := HQ_u11_0.out b h; omega⟩; have s_ : w19.heap.size ≤ w20.heap.size := T_.out.size; have hb_6_20 : w4.heap.size < w20.heap.size := blk_lt HK_6.out; have hc_6_0_20 : w20.cell? ⟨w4.heap.size, 0, none⟩ = some (.slice u3_0_A0 r0.1.length u3_0_c0) := (blk_cell HK_6.out 0).trans rfl; have hc_6_1_20 : w20.cell? ⟨w4.heap.size, 1, none⟩ = some (.slice u3_0_A1 r0.2.1.length u3_0_c1) := (blk_cell HK_6.out 1).trans rfl; have hc_6_2_20 : w20.cell? ⟨w4.heap.size, 2, none⟩ = some (.slice u3_0_A2 r0.2.2.length u3_0_c2) := (blk_cell HK_6.out 2).trans rfl; have ST20 := Aside0.mk trivial; clear t_ T_ HB19 HS19 o_0 g_0) | (go_at_call 10; have tok := ST20; (with_reducible refine (eqT_c (oT.rd HO_u11_0.out) (HR_u3_0.out.past HS20.out) (HG.out.2.2.1) (by repeat (first | (with_reducible exact Tr.refl _ _) | (with_reducible apply Tr.drew) | (with_reducible apply Tr.drewN) | (with_reducible refine Tr.set ?_ (Nat.le_refl _) _) | (with_reducible apply Tr.alloc)))).mono ?_); clear tok ST20 hb_6_20 hc_6_0_20 hc_6_1_20 hc_6_2_20; rintro e w21 ⟨rfl, t_⟩; have T_ : Aside0 (Tr (fun _ => False) w20 w21) := ⟨tr0.then_ (by repeat (first | (with_reducible exact Tr.refl _ _) | (with_reducible apply Tr.drew) | (with_reducible apply Tr.drewN) | (with_reducible refine Tr.set ?_ (Nat.le_refl _) _) | (with_reducible apply Tr.alloc))) t_⟩; have HB21 : Aside0 (Below w.heap.size w w21) := ⟨Tr.bel_ HB20.out T_.out (fun _ h => h.elim)⟩; have HS21 : Aside0 (Below w4.heap.size w4 w21) := ⟨Tr.bel_ HS20.out T_.out (fun _ h => h.elim)⟩; replace HK_2 : Aside0 (w21.heap[w.heap.size]? = some (.cells #[.slice a0_A0 x0.1.length a0_c0, .slice a0_A1 x0.2.1.length a0_c1, .slice a0_A2 x0.2.2.length a0_c2] 25 (0, 0))) := ⟨T_.out.blk HK_2.out (fun h => h)⟩; replace HK_6 : Aside0 (w21.heap[w4.heap.size]? = some (.cells #[.slice u3_0_A0 r0.1.length u3_0_c0, .slice u3_0_A1 r0.2.1.length u3_0_c1, .slice u3_0_A2 r0.2.2.length u3_0_c2] 27 (0, 0))) := ⟨T_.out.blk HK_6.out (fun h => h)⟩; replace HK_7 : Aside0 (w21.heap[w5.heap.size]? = some (.cells #[.slice v4_A0 x0.1.length v4_c0, .slice v4_A1 x0.2.1.length v4_c1, .slice v4_A2 x0.2.2.length v4_c2] 27 (0, 0))) := ⟨T_.out.blk HK_7.out (fun h => h)⟩; replace HK_9 : Aside0 (w21.heap[w7.heap.size]? = some (.cells #[.slice u6_0_A0 r0.1.length u6_0_c0, .slice u6_0_A1 r0.2.1.length u6_0_c1, .slice u6_0_A2 r0.2.2.length u6_0_c2] 27 (0, 0))) := ⟨T_.out.blk HK_9.out (fun h => h)⟩; have K_ : w21.heap[w20.heap.size]? = some (.cells #[.slice u11_0_A0 r0.1.length u11_0_c0, .slice u11_0_A1 r0.2.1.length u11_0_c1, .slice u11_0_A2 r0.2.2.length u11_0_c2] 27 (0, 0)) := t_.blk (by first | exact blk_new _ _ | exact blk_put (blk_put (blk_put (blk_new _ (.cells #[.slice none 0 0, .slice none 0 0, .slice none 0 0] 27 (0, 0))) 0 (.slice u11_0_A0 r0.1.length u11_0_c0) (cs' := #[.slice u11_0_A0 r0.1.length u11_0_c0, .slice none 0 0, .slice none 0 0]) rfl) 1 (.slice u11_0_A1 r0.2.1.length u11_0_c1) (cs' := #[.slice u11_0_A0 r0.1.length u11_0_c0, .slice u11_0_A1 r0.2.1.length u11_0_c1, .slice none 0 0]) rfl) 2 (.slice u11_0_A2 r0.2.2.length u11_0_c2) (cs' := #[.slice u11_0_A0 r0.1.length u11_0_c0, .slice u11_0_A1 r0.2.1.length u11_0_c1, .slice u11_0_A2 r0.2.2.length u11_0_c2]) rfl) (fun h => h); have HK_13 := Aside0.mk K_; clear K_; replace HO_v1 := Aside0.mk (owT.tr HO_v1.out T_.out (fun _ _ h => h)); replace HO_v2 := Aside0.mk (owI.tr HO_v2.out T_.out (fun _ _ h => h)); replace HO_v7 := Aside0.mk (owT.tr HO_v7.out T_.out (fun _ _ h => h)); replace HO_v8 := Aside0.mk (owI.tr HO_v8.out T_.out (fun _ _ h => h)); replace HO_v9 := Aside0.mk (owT.tr HO_v9.out T_.out (fun _ _ h => h)); replace HO_v10 := Aside0.mk (owI.tr HO_v10.out T_.out (fun _ _ h => h)); replace HO_u11_0 := Aside0.mk (owT.tr HO_u11_0.out T_.out (fun _ _ h => h)); replace HH_u6_0 := Aside0.mk (HH_u6_0.out.tr T_.out); (have s_ : w20.heap.size + 1 ≤ w21.heap.size := by have h9 := t_.size; simp only [al_size] at h9; omega); have ST21 := Aside0.mk trivial; clear t_ T_ HB20 HS20))
  go_ret
  exact ⟨rfl, HB21.out⟩
set_option maxHeartbeats 1000000 in
set_option maxRecDepth 100000 in
theorem lawProject_no0 (x0 : T3) (a0_A0 : Option Addr) (a0_c0 : Nat) (a0_A1 : Option Addr) (a0_c1 : Nat) (a0_A2 : Option Addr) (a0_c2 : Nat) (x1 : List Int) (a1_A0 : Option Addr) (a1_c0 : Nat) (r0 : T3) (z0 : Int) (w : World)
    (ha0 : RdT w x0 a0_A0 a0_c0 a0_A1 a0_c1 a0_A2 a0_c2) (ha1 : RdI w x1 a1_A0 a1_c0) (hz0 : z0 = szT x0.1 x0.2.1 x0.2.2 1048576) (hfit : 1048576 < x1.length) :
    Calls Try.prog 3 #[(.agg #[.slice a0_A0 x0.1.length a0_c0, .slice a0_A1 x0.2.1.length a0_c1, .slice a0_A2 x0.2.2.length a0_c2]), (.slice a1_A0 x1.length a1_c0)] w fun e w' => e = .returned (.bool true) ∧ Below w.heap.size w w' := by
  have HB0 := Aside0.mk (Below.refl w.heap.size w)
  have HA0 := Aside0.mk ha0
  have HA1 := Aside0.mk ha1
  have HZ0 := Aside0.mk hz0
  have HFIT := Aside0.mk (show -1 ≤ (1048576 : Int) ∧ (1048576 : Int) ≤ 1048576 by omega)
  have ee : decide ((x1.length : Int) > 1048576) = true := decide_eq_true (by have := hfit; omega)
  have ST0 := Aside0.mk trivial
  clear ha0 ha1 hz0 hfit
  go_enter Try.func3, Try.ntmps3
  go_wp2
  go_ret
  exact ⟨rfl, by repeat (first | exact HB0.out | apply below_alloc)⟩
set_option maxHeartbeats 1000000 in
set_option maxRecDepth 100000 in
theorem lawProject_no1 (x0 : T3) (a0_A0 : Option Addr) (a0_c0 : Nat) (a0_A1 : Option Addr) (a0_c1 : Nat) (a0_A2 : Option Addr) (a0_c2 : Nat) (x1 : List Int) (a1_A0 : Option Addr) (a1_c0 : Nat) (r0 : T3) (z0 : Int) (w : World)
    (ha0 : RdT w x0 a0_A0 a0_c0 a0_A1 a0_c1 a0_A2 a0_c2) (ha1 : RdI w x1 a1_A0 a1_c0) (hz0 : z0 = szT x0.1 x0.2.1 x0.2.2 1048576) (hfit : x1.length ≤ 1048576 ∧ z0 < 0) :
    Calls Try.prog 3 #[(.agg #[.slice a0_A0 x0.1.length a0_c0, .slice a0_A1 x0.2.1.length a0_c1, .slice a0_A2 x0.2.2.length a0_c2]), (.slice a1_A0 x1.length a1_c0)] w fun e w' => e = .returned (.bool true) ∧ Below w.heap.size w w' := by
  have HB0 := Aside0.mk (Below.refl w.heap.size w)
  have HA0 := Aside0.mk ha0
  have HA1 := Aside0.mk ha1
  have HZ0 := Aside0.mk hz0
  have HFIT := Aside0.mk (show -1 ≤ (1048576 : Int) ∧ (1048576 : Int) ≤ 1048576 by omega)
  have e1 : decide ((x1.length : Int) > 1048576) = false := decide_eq_false (by have := hfit; omega)
  have ee : decide (z0 < 0) = true := decide_eq_true (by have := hfit; omega)
  have ST0 := Aside0.mk trivial
  clear ha0 ha1 hz0 hfit
  go_enter Try.func3, Try.ntmps3
  go_wp2_with (first | (go_at_call 5; have tok := ST0; (with_reducible refine (szT_r HZ0.out (HA0.out.past HB0.out) HFIT.out (by repeat (first | (with_reducible exact Tr.refl _ _) | (with_reducible apply Tr.drew) | (with_reducible apply Tr.drewN) | (with_reducible refine Tr.set ?_ (Nat.le_refl _) _) | (with_reducible apply Tr.alloc)))).mono ?_); clear tok ST0; rintro e w1 ⟨rfl, t_⟩; have T_ : Aside0 (Tr (fun _ => False) w w1) := ⟨tr0.then_ (by repeat (first | (with_reducible exact Tr.refl _ _) | (with_reducible apply Tr.drew) | (with_reducible apply Tr.drewN) | (with_reducible refine Tr.set ?_ (Nat.le_refl _) _) | (with_reducible apply Tr.alloc))) t_⟩; have HB1 : Aside0 (Below w.heap.size w w1) := ⟨Tr.bel_ HB0.out T_.out (fun _ h => h.elim)⟩; have K_ : w1.heap[w.heap.size]? = some (.cells #[.slice a0_A0 x0.1.length a0_c0, .slice a0_A1 x0.2.1.length a0_c1, .slice a0_A2 x0.2.2.length a0_c2] 25 (0, 0)) := t_.blk (blk_new _ _) (fun h => h); have HK_2 := Aside0.mk K_; clear K_; (have s_ : w.heap.size ≤ w1.heap.size := T_.out.size; have s0_ : w.heap.size + 1 ≤ w1.heap.size := by have h9 := t_.size; simp only [al_size] at h9; omega); have hb_2_1 : w.heap.size < w1.heap.size := blk_lt HK_2.out; have hc_2_0_1 : w1.cell? ⟨w.heap.size, 0, none⟩ = some (.slice a0_A0 x0.1.length a0_c0) := (blk_cell HK_2.out 0).trans rfl; have hc_2_1_1 : w1.cell? ⟨w.heap.size, 1, none⟩ = some (.slice a0_A1 x0.2.1.length a0_c1) := (blk_cell HK_2.out 1).trans rfl; have hc_2_2_1 : w1.cell? ⟨w.heap.size, 2, none⟩ = some (.slice a0_A2 x0.2.2.length a0_c2) := (blk_cell HK_2.out 2).trans rfl; have ST1 := Aside0.mk trivial; clear t_ T_ HB0))
  go_ret
  exact ⟨rfl, HB1.out⟩
theorem lawProject_walk (x0 : T3) (a0_A0 : Option Addr) (a0_c0 : Nat) (a0_A1 : Option Addr) (a0_c1 : Nat) (a0_A2 : Option Addr) (a0_c2 : Nat) (x1 : List Int) (a1_A0 : Option Addr) (a1_c0 : Nat) (r0 : T3) (z0 : Int) (w : World)
    (ha0 : RdT w x0 a0_A0 a0_c0 a0_A1 a0_c1 a0_A2 a0_c2) (ha1 : RdI w x1 a1_A0 a1_c0) (hz0 : z0 = szT x0.1 x0.2.1 x0.2.2 1048576)
    (hgood : x1.length ≤ 1048576 ∧ 0 ≤ z0 → goodT x0 ∧ goodI x1 ∧ goodT r0 ∧ True) (hbnd : x1.length ≤ 1048576 ∧ 0 ≤ z0 → 1 + cntT x0 + (x1.length : Int) ≤ 1099511627776 ∧ 1 + cntT r0 ≤ 1099511627776 ∧ 0 ≤ cntT x0 ∧ 0 ≤ (x1.length : Int) ∧ 0 ≤ cntT r0)
    (hspec : x1.length ≤ 1048576 ∧ 0 ≤ z0 → ∀ (W0 W : World) (q0_A0 : Option Addr) (q0_c0 : Nat) (q0_A1 : Option Addr) (q0_c1 : Nat) (q0_A2 : Option Addr) (q0_c2 : Nat) (q1_A0 : Option Addr) (q1_c0 : Nat), tr0 W0 W → RdT W0 x0 q0_A0 q0_c0 q0_A1 q0_c1 q0_A2 q0_c2 → RdI W0 x1 q1_A0 q1_c0 → Calls Try.prog 6 #[(.agg #[.slice q0_A0 x0.1.length q0_c0, .slice q0_A1 x0.2.1.length q0_c1, .slice q0_A2 x0.2.2.length q0_c2]), (.slice q1_A0 x1.length q1_c0)] W (ProjectSpecP W r0))
    (himpl : x1.length ≤ 1048576 ∧ 0 ≤ z0 → ∀ (W0 W : World) (q0_A0 : Option Addr) (q0_c0 : Nat) (q0_A1 : Option Addr) (q0_c1 : Nat) (q0_A2 : Option Addr) (q0_c2 : Nat) (q1_A0 : Option Addr) (q1_c0 : Nat), tr0 W0 W → RdT W0 x0 q0_A0 q0_c0 q0_A1 q0_c1 q0_A2 q0_c2 → RdI W0 x1 q1_A0 q1_c0 → Calls Try.prog 9 #[(.agg #[.slice q0_A0 x0.1.length q0_c0, .slice q0_A1 x0.2.1.length q0_c1, .slice q0_A2 x0.2.2.length q0_c2]), (.slice q1_A0 x1.length q1_c0)] W (ProjectImplP W r0)) :
    Calls Try.prog 3 #[(.agg #[.slice a0_A0 x0.1.length a0_c0, .slice a0_A1 x0.2.1.length a0_c1, .slice a0_A2 x0.2.2.length a0_c2]), (.slice a1_A0 x1.length a1_c0)] w fun e w' => e = .returned (.bool true) ∧ Below w.heap.size w w' := by
  by_cases c0 : x1.length ≤ 1048576
  case neg => exact lawProject_no0 x0 a0_A0 a0_c0 a0_A1 a0_c1 a0_A2 a0_c2 x1 a1_A0 a1_c0 r0 z0 w ha0 ha1 hz0 (by omega)
  by_cases c1 : 0 ≤ z0
  case neg => exact lawProject_no1 x0 a0_A0 a0_c0 a0_A1 a0_c1 a0_A2 a0_c2 x1 a1_A0 a1_c0 r0 z0 w ha0 ha1 hz0 (by omega)
  have hf : x1.length ≤ 1048576 ∧ 0 ≤ z0 := ⟨c0, c1⟩
  have hb := hbnd hf
  exact lawProject_fits x0 a0_A0 a0_c0 a0_A1 a0_c1 a0_A2 a0_c2 x1 a1_A0 a1_c0 r0 z0 w _ _ _ ha0 ha1 hz0 hf rfl rfl rfl (hgood hf) (by omega) (hspec hf) (himpl hf)
end Go.Proofs.Ytkohcdddgjaijaa.PT
namespace Go.Proofs
open Go.Shelf
def Try.sortL_ren : Go.Shelf.Ren := ⟨fun | 6 => 53 | 15 => 60 | 14 => 59 | 28 => 70 | 29 => 71 | 20 => 62 | 21 => 63 | 22 => 64 | 23 => 65 | 24 => 66 | 25 => 67 | 26 => 68 | 27 => 69 | 46 => 74 | 47 => 75 | 48 => 76 | 49 => 77 | 50 => 78 | 57 => 79 | n => n, fun | 22 => 23 | 24 => 22 | 25 => 50 | 3 => 3 | 39 => 56 | 0 => 0 | 53 => 74 | 55 => 76 | 4 => 4 | 46 => 68 | 45 => 67 | 50 => 48 | 5 => 5 | 9 => 9 | 66 => 81 | 70 => 85 | 76 => 87 | 77 => 88 | n => n, fun | n => n⟩
theorem Try.sortL : Go.Proofs.SlLaysF.n6 Try.prog Try.sortL_ren := {
  mixed := by kernel_rfl
  f6 := ⟨Try.f53.name, by decide, Try.func53.trans (congrArg some (by kernel_rfl))⟩
  f14 := ⟨Try.f59.name, by decide, Try.func59.trans (congrArg some (by kernel_rfl))⟩
  f15 := Try.func60.trans (congrArg some (by kernel_rfl))
  f20 := ⟨Try.f62.name, by decide, Try.func62.trans (congrArg some (by kernel_rfl))⟩
  f21 := ⟨Try.f63.name, by decide, Try.func63.trans (congrArg some (by kernel_rfl))⟩
  f22 := ⟨Try.f64.name, by decide, Try.func64.trans (congrArg some (by kernel_rfl))⟩
  f23 := ⟨Try.f65.name, by decide, Try.func65.trans (congrArg some (by kernel_rfl))⟩
  f24 := ⟨Try.f66.name, by decide, Try.func66.trans (congrArg some (by kernel_rfl))⟩
  f25 := ⟨Try.f67.name, by decide, Try.func67.trans (congrArg some (by kernel_rfl))⟩
  f26 := ⟨Try.f68.name, by decide, Try.func68.trans (congrArg some (by kernel_rfl))⟩
  f27 := ⟨Try.f69.name, by decide, Try.func69.trans (congrArg some (by kernel_rfl))⟩
  f28 := Try.func70.trans (congrArg some (by kernel_rfl))
  f29 := Try.func71.trans (congrArg some (by kernel_rfl))
  f46 := ⟨Try.f74.name, by decide, Try.func74.trans (congrArg some (by kernel_rfl))⟩
  f47 := Try.func75.trans (congrArg some (by kernel_rfl))
  f48 := Try.func76.trans (congrArg some (by kernel_rfl))
  f49 := ⟨Try.f77.name, by decide, Try.func77.trans (congrArg some (by kernel_rfl))⟩
  f50 := ⟨Try.f78.name, by decide, Try.func78.trans (congrArg some (by kernel_rfl))⟩
  f57 := ⟨Try.f79.name, by decide, Try.func79.trans (congrArg some (by kernel_rfl))⟩
  t0 := Try.underlying0
  a0 := Try.isAgg0
  z0 := Try.sizeOf0
  v0 := Try.zeroValue0
  t3 := Try.underlying3
  a3 := Try.isAgg3
  z3 := Try.sizeOf3
  v3 := Try.zeroValue3
  t4 := Try.underlying4
  a4 := Try.isAgg4
  z4 := Try.sizeOf4
  v4 := Try.zeroValue4
  t5 := Try.underlying5
  a5 := Try.isAgg5
  z5 := Try.sizeOf5
  v5 := Try.zeroValue5
  t9 := Try.underlying9
  a9 := Try.isAgg9
  z9 := Try.sizeOf9
  v9 := Try.zeroValue9
  t22 := Try.underlying23
  a22 := Try.isAgg23
  z22 := Try.sizeOf23
  v22 := Try.zeroValue23
  a24 := Try.isAgg22
  z24 := Try.sizeOf22
  t25 := Try.underlying50
  a25 := Try.isAgg50
  z25 := Try.sizeOf50
  v25 := Try.zeroValue50
  t39 := Try.underlying56
  a39 := Try.isAgg56
  z39 := Try.sizeOf56
  v39 := Try.zeroValue56
  t45 := Try.underlying67
  a45 := Try.isAgg67
  z45 := Try.sizeOf67
  v45 := Try.zeroValue67
  t46 := Try.underlying68
  a46 := Try.isAgg68
  z46 := Try.sizeOf68
  v46 := Try.zeroValue68
  t50 := Try.underlying48
  a50 := Try.isAgg48
  z50 := Try.sizeOf48
  v50 := Try.zeroValue48
  t53 := Try.underlying74
  a53 := Try.isAgg74
  z53 := Try.sizeOf74
  v53 := Try.zeroValue74
  t55 := Try.underlying76
  a55 := Try.isAgg76
  z55 := Try.sizeOf76
  v55 := Try.zeroValue76
  t66 := Try.underlying81
  a66 := Try.isAgg81
  z66 := Try.sizeOf81
  v66 := Try.zeroValue81
  t70 := Try.underlying85
  a70 := Try.isAgg85
  z70 := Try.sizeOf85
  v70 := Try.zeroValue85
  t76 := Try.underlying87
  a76 := Try.isAgg87
  z76 := Try.sizeOf87
  v76 := Try.zeroValue87
  t77 := Try.underlying88
  a77 := Try.isAgg88
  z77 := Try.sizeOf88
  v77 := Try.zeroValue88 }
end Go.Proofs
namespace Go.Proofs.Ytkohcdddgjaijaa.PT
set_option linter.unusedSimpArgs false
set_option linter.unusedVariables false
theorem cmpL_self : ∀ a : List Int, cmpL a a = 0
  | [] => rfl
  | a :: s => by simp only [cmpL]; rw [if_neg (by omega), if_neg (by omega)]; exact cmpL_self s
theorem cmpL_neg : ∀ a b : List Int, cmpL b a = -cmpL a b
  | [], [] => rfl
  | [], _ :: _ => rfl
  | _ :: _, [] => rfl
  | a :: s, b :: t => by
    simp only [cmpL]
    by_cases h1 : a < b
    · rw [if_neg (by omega), if_pos h1, if_pos h1]; rfl
    · by_cases h2 : b < a
      · rw [if_pos h2, if_neg h1, if_pos h2]
      · rw [if_neg h2, if_neg h1, if_neg h1, if_neg h2]; exact cmpL_neg s t
theorem cmpL_eq : ∀ a b : List Int, cmpL a b = 0 → a = b
  | [], [], _ => rfl
  | [], _ :: _, h => by simp [cmpL] at h
  | _ :: _, [], h => by simp [cmpL] at h
  | a :: s, b :: t, h => by
    simp only [cmpL] at h
    by_cases h1 : a < b
    · rw [if_pos h1] at h; omega
    · rw [if_neg h1] at h
      by_cases h2 : b < a
      · rw [if_pos h2] at h; omega
      · rw [if_neg h2] at h
        rw [cmpL_eq s t h, show a = b by omega]
theorem cmpL_trans : ∀ a b c : List Int, cmpL a b < 0 → cmpL b c < 0 → cmpL a c < 0
  | [], [], _, h, _ => by simp [cmpL] at h
  | [], _ :: _, [], _, h => by simp [cmpL] at h
  | [], _ :: _, _ :: _, _, _ => by simp [cmpL]
  | _ :: _, [], _, h, _ => by simp [cmpL] at h
  | _ :: _, _ :: _, [], _, h => by simp [cmpL] at h
  | a :: s, b :: t, c :: u, h, k => by
    simp only [cmpL] at h k ⊢
    by_cases h1 : a < b
    · by_cases k1 : b < c
      · rw [if_pos (by omega)]; omega
      · rw [if_neg k1] at k
        by_cases k2 : c < b
        · rw [if_pos k2] at k; omega
        · rw [if_pos (by omega)]; omega
    · rw [if_neg h1] at h
      by_cases h2 : b < a
      · rw [if_pos h2] at h; omega
      · rw [if_neg h2] at h
        by_cases k1 : b < c
        · rw [if_pos (by omega)]; omega
        · rw [if_neg k1] at k
          by_cases k2 : c < b
          · rw [if_pos k2] at k; omega
          · rw [if_neg k2] at k
            rw [if_neg (by omega), if_neg (by omega)]
            exact cmpL_trans s t u h k
def Strict (l : List (List Int)) : Prop := l.Pairwise (fun a b => cmpL a b < 0)
theorem strict_unique : ∀ a b : List (List Int), Strict a → Strict b → (∀ x, x ∈ a ↔ x ∈ b) → a = b
  | [], [], _, _, _ => rfl
  | [], y :: b, _, _, h => by have := (h y).2 (by simp); simp at this
  | x :: a, [], _, _, h => by have := (h x).1 (by simp); simp at this
  | x :: a, y :: b, ha, hb, h => by
    unfold Strict at ha hb
    rw [List.pairwise_cons] at ha hb
    have hxy : x = y := by
      rcases List.mem_cons.1 ((h x).1 (by simp)) with e | e
      · exact e
      · rcases List.mem_cons.1 ((h y).2 (by simp)) with f | f
        · exact f.symm
        · have h1 := hb.1 x e
          have h2 := ha.1 y f
          have h3 := cmpL_neg x y
          omega
    subst hxy
    have : a = b := strict_unique a b ha.2 hb.2 (fun z => by
      have h4 := h z
      simp only [List.mem_cons] at h4
      constructor
      · intro hz
        rcases h4.1 (.inr hz) with e | e
        · subst e
          have := ha.1 z hz
          rw [cmpL_self] at this; omega
        · exact e
      · intro hz
        rcases h4.2 (.inr hz) with e | e
        · subst e
          have := hb.1 z hz
          rw [cmpL_self] at this; omega
        · exact e)
    rw [this]
def insR (x : List Int) : List (List Int) → List (List Int)
  | [] => [x]
  | y :: r => if cmpL x y < 0 then x :: y :: r else if cmpL x y = 0 then y :: r else y :: insR x r
theorem mem_insR (x z : List Int) : ∀ l, z ∈ insR x l ↔ z = x ∨ z ∈ l
  | [] => by simp [insR]
  | y :: r => by
    simp only [insR]
    by_cases h1 : cmpL x y < 0
    · rw [if_pos h1]; simp
    · rw [if_neg h1]
      by_cases h2 : cmpL x y = 0
      · rw [if_pos h2]
        have := cmpL_eq x y h2
        subst this
        simp
      · rw [if_neg h2]
        simp only [List.mem_cons, mem_insR x z r]
        constructor
        · rintro (h | h | h)
          · exact .inr (.inl h)
          · exact .inl h
          · exact .inr (.inr h)
        · rintro (h | h | h)
          · exact .inr (.inl h)
          · exact .inl h
          · exact .inr (.inr h)
theorem strict_insR (x : List Int) : ∀ l, Strict l → Strict (insR x l)
  | [], _ => by simp [insR, Strict]
  | y :: r, h => by
    unfold Strict at h ⊢
    have hc := h
    rw [List.pairwise_cons] at h
    simp only [insR]
    by_cases h1 : cmpL x y < 0
    · rw [if_pos h1, List.pairwise_cons]
      refine ⟨fun z hz => ?_, hc⟩
      rcases List.mem_cons.1 hz with e | e
      · rw [e]; exact h1
      · exact cmpL_trans x y z h1 (h.1 z e)
    · rw [if_neg h1]
      by_cases h2 : cmpL x y = 0
      · rw [if_pos h2]; exact hc
      · rw [if_neg h2, List.pairwise_cons]
        refine ⟨fun z hz => ?_, strict_insR x r h.2⟩
        rcases (mem_insR x z r).1 hz with e | e
        · rw [e]; have := cmpL_neg x y; omega
        · exact h.1 z e
def sdR (l : List (List Int)) : List (List Int) := l.foldr insR []
theorem mem_sdR (z : List Int) : ∀ l, z ∈ sdR l ↔ z ∈ l
  | [] => by simp [sdR]
  | x :: r => by
    have : sdR (x :: r) = insR x (sdR r) := rfl
    rw [this, mem_insR, mem_sdR z r]; simp
theorem strict_sdR : ∀ l, Strict (sdR l)
  | [] => by simp [sdR, Strict]
  | x :: r => strict_insR x _ (strict_sdR r)
theorem sdR_of {a l : List (List Int)} (h : Strict a) (hm : ∀ x, x ∈ a ↔ x ∈ l) : a = sdR l :=
  strict_unique a _ h (strict_sdR l) (fun x => (hm x).trans (mem_sdR x l).symm)
theorem sdR_len (l : List (List Int)) : (sdR l).length ≤ l.length := by
  induction l with
  | nil => simp [sdR]
  | cons x r ih =>
    have h : ∀ m : List (List Int), (insR x m).length ≤ m.length + 1 := by
      intro m
      induction m with
      | nil => simp [insR]
      | cons y s ih2 =>
        simp only [insR]
        split
        · simp
        · split
          · simp
          · simp only [List.length_cons]; omega
    have h2 := h (sdR r)
    have : sdR (x :: r) = insR x (sdR r) := rfl
    rw [this]; simp only [List.length_cons]; omega
def mrg : List (List Int) → List (List Int) → List (List Int)
  | [], b => b
  | a, [] => a
  | x :: a, y :: b => if cmpL x y < 0 then x :: mrg a (y :: b) else if 0 < cmpL x y then y :: mrg (x :: a) b else x :: mrg a b
  termination_by a b => a.length + b.length
theorem mrg_nil (a : List (List Int)) : mrg a [] = a := by cases a <;> simp [mrg]
theorem mem_mrg : ∀ (a b : List (List Int)) (z : List Int), z ∈ mrg a b ↔ z ∈ a ∨ z ∈ b
  | [], b, z => by simp [mrg]
  | x :: a, [], z => by simp [mrg]
  | x :: a, y :: b, z => by
    rw [mrg]
    by_cases h1 : cmpL x y < 0
    · rw [if_pos h1, List.mem_cons, mem_mrg a (y :: b) z]
      simp only [List.mem_cons, or_assoc]
    · rw [if_neg h1]
      by_cases h2 : 0 < cmpL x y
      · rw [if_pos h2, List.mem_cons, mem_mrg (x :: a) b z]
        simp only [List.mem_cons]
        constructor
        · rintro (h | (h | h) | h)
          · exact .inr (.inl h)
          · exact .inl (.inl h)
          · exact .inl (.inr h)
          · exact .inr (.inr h)
        · rintro ((h | h) | h | h)
          · exact .inr (.inl (.inl h))
          · exact .inr (.inl (.inr h))
          · exact .inl h
          · exact .inr (.inr h)
      · rw [if_neg h2, List.mem_cons, mem_mrg a b z]
        have := cmpL_eq x y (by omega)
        subst this
        simp only [List.mem_cons]
        constructor
        · rintro (h | h | h)
          · exact .inl (.inl h)
          · exact .inl (.inr h)
          · exact .inr (.inr h)
        · rintro ((h | h) | h | h)
          · exact .inl h
          · exact .inr (.inl h)
          · exact .inl h
          · exact .inr (.inr h)
  termination_by a b => a.length + b.length
theorem strict_mrg : ∀ (a b : List (List Int)), Strict a → Strict b → Strict (mrg a b)
  | [], b, _, hb => by simpa [mrg] using hb
  | x :: a, [], ha, _ => by simpa [mrg] using ha
  | x :: a, y :: b, ha, hb => by
    have ha' := ha; have hb' := hb
    unfold Strict at ha hb
    rw [List.pairwise_cons] at ha hb
    rw [mrg]
    by_cases h1 : cmpL x y < 0
    · rw [if_pos h1]
      unfold Strict
      rw [List.pairwise_cons]
      refine ⟨fun z hz => ?_, strict_mrg a (y :: b) ha.2 hb'⟩
      rcases (mem_mrg a (y :: b) z).1 hz with e | e
      · exact ha.1 z e
      · rcases List.mem_cons.1 e with e | e
        · rw [e]; exact h1
        · exact cmpL_trans x y z h1 (hb.1 z e)
    · rw [if_neg h1]
      by_cases h2 : 0 < cmpL x y
      · rw [if_pos h2]
        have h3 : cmpL y x < 0 := by have := cmpL_neg x y; omega
        unfold Strict
        rw [List.pairwise_cons]
        refine ⟨fun z hz => ?_, strict_mrg (x :: a) b ha' hb.2⟩
        rcases (mem_mrg (x :: a) b z).1 hz with e | e
        · rcases List.mem_cons.1 e with e | e
          · rw [e]; exact h3
          · exact cmpL_trans y x z h3 (ha.1 z e)
        · exact hb.1 z e
      · rw [if_neg h2]
        have e := cmpL_eq x y (by omega)
        subst e
        unfold Strict
        rw [List.pairwise_cons]
        refine ⟨fun z hz => ?_, strict_mrg a b ha.2 hb.2⟩
        rcases (mem_mrg a b z).1 hz with e | e
        · exact ha.1 z e
        · exact hb.1 z e
  termination_by a b => a.length + b.length
theorem mrg_sdR (a b : List (List Int)) : mrg (sdR a) (sdR b) = sdR (a ++ b) :=
  sdR_of (strict_mrg _ _ (strict_sdR a) (strict_sdR b)) (fun x => by rw [mem_mrg, mem_sdR, mem_sdR, List.mem_append])
theorem sdR_one (x : List Int) : sdR [x] = [x] := rfl
def cpt : List (List Int) → List (List Int)
  | [] => []
  | [x] => [x]
  | x :: y :: r => if y = x then cpt (y :: r) else x :: cpt (y :: r)
theorem mem_cpt : ∀ (l : List (List Int)) (z : List Int), z ∈ cpt l ↔ z ∈ l
  | [], z => by simp [cpt]
  | [x], z => by simp [cpt]
  | x :: y :: r, z => by
    simp only [cpt]
    by_cases h : y = x
    · rw [if_pos h, mem_cpt (y :: r) z]; subst h; simp
    · rw [if_neg h, List.mem_cons, mem_cpt (y :: r) z]; simp
theorem strict_cpt : ∀ (l : List (List Int)), l.Pairwise (fun a b => cmpL a b ≤ 0) → Strict (cpt l)
  | [], _ => by simp [cpt, Strict]
  | [x], _ => by simp [cpt, Strict]
  | x :: y :: r, h => by
    rw [List.pairwise_cons] at h
    simp only [cpt]
    by_cases e : y = x
    · rw [if_pos e]; exact strict_cpt (y :: r) h.2
    · rw [if_neg e]
      unfold Strict
      rw [List.pairwise_cons]
      refine ⟨fun z hz => ?_, strict_cpt (y :: r) h.2⟩
      have hz2 := (mem_cpt (y :: r) z).1 hz
      have hxy : cmpL x y < 0 := by
        have h1 := h.1 y (by simp)
        rcases Int.lt_or_eq_of_le h1 with h2 | h2
        · exact h2
        · exact absurd (cmpL_eq x y h2).symm e
      rcases List.mem_cons.1 hz2 with f | f
      · rw [f]; exact hxy
      · have h2 := h.2
        rw [List.pairwise_cons] at h2
        have h3 := h2.1 z f
        rcases Int.lt_or_eq_of_le h3 with h4 | h4
        · exact cmpL_trans x y z hxy h4
        · rw [← cmpL_eq y z h4]; exact hxy
theorem cpt_sdR {l d : List (List Int)} (h : d.Pairwise (fun a b => cmpL a b ≤ 0)) (hm : ∀ x, x ∈ d ↔ x ∈ l) : cpt d = sdR l :=
  sdR_of (strict_cpt d h) (fun x => (mem_cpt d x).trans (hm x))
end Go.Proofs.Ytkohcdddgjaijaa.PT
namespace Go.Proofs.Ytkohcdddgjaijaa.PT
open Go.RowKit Go.Lib Go.Sort Go.Proofs.Ytkohcdddgjaijaa.P Go.Proofs.YtkohcdddgjaijaaW.PrintWords Go.Proofs.YtkohcdddgjaijaaW.PrintLast Go.Proofs.Ytkohcdddgjaijaa.EvKit
set_option linter.unusedVariables false
set_option linter.unusedSimpArgs false
structure SortRow (g n : Nat) (V : Fin n → Value) (L : Fin n → List Int) (w : World) : Prop where
  lt : g < w.heap.size
  cell : ∀ i : Fin n, w.cell? ⟨g, i.1, none⟩ = some (V i) ∧ w.frozen? ⟨g, i.1, none⟩ = false
  read : ∀ i : Fin n, ∃ A c, V i = .slice A (L i).length c ∧ (L i).length ≤ c ∧ (L i).length ≤ 1048576 ∧ Kd.C (Kd.int .i64) w A (L i).length (L i) ∧ (∀ ad, A = some ad → 0 < (L i).length → ad.block ≠ g)
def cfR {n : Nat} (L : Fin n → List Int) (i j : Fin n) : Int := cmpL (L i) (L j)
theorem cfR_lt {n : Nat} (L : Fin n → List Int) (i j : Fin n) : Go.Proofs.ltOf (cfR L) i j = decide (cmpL (L i) (L j) < 0) := rfl
theorem cmpL_le_trans (a b c : List Int) (h1 : ¬ cmpL a b < 0) (h2 : ¬ cmpL b c < 0) : ¬ cmpL a c < 0 := by
  intro h
  have n1 := cmpL_neg a b
  have n2 := cmpL_neg b c
  by_cases e1 : cmpL a b = 0
  · have := cmpL_eq a b e1; subst this; exact h2 h
  · by_cases e2 : cmpL b c = 0
    · have := cmpL_eq b c e2; subst this; exact h1 h
    · have h3 := cmpL_trans c b a (by omega) (by omega)
      have n3 := cmpL_neg a c
      omega
theorem swoR {n : Nat} (L : Fin n → List Int) : SWO (Go.Proofs.ltOf (cfR L)) where
  irrefl x := by rw [cfR_lt, cmpL_self]; rfl
  trans x y z h1 h2 := by
    rw [cfR_lt] at *
    exact decide_eq_true (cmpL_trans _ _ _ (of_decide_eq_true h1) (of_decide_eq_true h2))
  ntrans x y z h1 h2 := by
    rw [cfR_lt] at *
    exact decide_eq_false (cmpL_le_trans _ _ _ (of_decide_eq_false h1) (of_decide_eq_false h2))
theorem keep_sortWorld {α : Type} [Inhabited α] (enc : α → Value) (w : World) (g m : Nat) (dk : Array α) (os : Array Obj) : KeepBut w (sortWorld enc w g 0 m dk os) g none := by
  refine ⟨?_, fun i hi hne _ => ?_⟩
  · show w.heap.size ≤ ((w.heap.modify g _) ++ os).size
    simp
  · show ((w.heap.modify g _) ++ os)[i]? = w.heap[i]?
    rw [Array.getElem?_append_left (by simpa using hi), Array.getElem?_modify, if_neg (fun e => hne e.symm)]
theorem sort_cmp {n : Nat} [Inhabited (Fin n)] (g : Nat) (V : Fin n → Value) (L : Fin n → List Int) (w : World) (h : SortRow g n V L w) : Go.Proofs.CmpLays1 Try.prog 40 #[] V (cfR L) g 0 n w := by
  refine Go.Proofs.CmpReads.lays (fun m os dk hs x y => ?_)
  obtain ⟨A1, c1, e1, hc1, hl1, hC1, hf1⟩ := h.read x
  obtain ⟨A2, c2, e2, hc2, hl2, hC2, hf2⟩ := h.read y
  have hk := keep_sortWorld V w g m dk os
  obtain ⟨k, hkc⟩ := Ev.rounds (slicesCompare_ev (L x) (L y) (by omega))
  have e : (#[V x, V y] ++ #[] : Array Value) = #[.slice A1 (L x).length c1, .slice A2 (L y).length c2] := by rw [e1, e2]; rfl
  rw [e]
  refine (slices_Compare_int_int.calls k A1 c1 (L x) A2 c2 (L y) _ _ (Kd.C_keep (0 : Int) hC1 hk hf1) hc1 (Kd.C_keep (0 : Int) hC2 hk hf2) hc2 hkc).mono ?_
  rintro e w' ⟨rfl, hd⟩
  exact ⟨rfl, hd.out⟩
theorem extract_all {α : Type} (a : Array α) (m : Nat) (h : a.size = m) : a.extract 0 m = a := by subst h; simp
theorem sort_walk {n : Nat} [Inhabited (Fin n)] (hn : 0 < n) (hn2 : n ≤ 1048576) (g cap : Nat) (V : Fin n → Value) (L : Fin n → List Int) (w : World) (h : SortRow g n V L w) :
    Calls Try.prog 53 #[.slice (some ⟨g, 0, none⟩) n cap, .func (.func 40) #[] #[]] w fun e w' => e = .returned (.tuple #[]) ∧
      ∃ (p : List (Fin n)) (m : Nat) (os : Array Obj), p.Perm (List.finRange n) ∧ p.Pairwise (fun i j => cmpL (L i) (L j) ≤ 0) ∧ w' = sortWorld V w g 0 m p.toArray os := by
  have hd : ((List.finRange n).toArray : Array (Fin n)).size = n := by simp
  have h1 : OneCell V := fun x => by
    obtain ⟨A, c, e, _⟩ := h.read x
    rw [e]; rfl
  have hH : Holds V w g 0 ((List.finRange n).toArray) := fun j hj => by
    rw [hd] at hj
    have e : ((List.finRange n).toArray : Array (Fin n))[j]! = ⟨j, hj⟩ := by
      rw [getElem!_pos _ j (by rw [hd]; exact hj)]; simp
    rw [e, Nat.zero_add]
    exact h.cell ⟨j, hj⟩
  have hs := Go.Proofs.Any.slices_SortFunc Try.sortL V h1 (cfR L) (swoR L) 40 #[] g 0 cap ((List.finRange n).toArray) w
    (fun args w => enters_ Try.func40 (by kernel_rfl) (by kernel_rfl) args w) (by rw [hd]; exact sort_cmp g V L w h) hH h.lt (by rw [hd]; omega)
  rw [hd] at hs
  refine hs.mono ?_
  rintro e w' ⟨he, d', m, os, hp, hsrt, hw⟩
  refine ⟨he, d'.toList, m, os, ?_, ?_, ?_⟩
  · obtain ⟨hsz, _, hpm⟩ := hp
    rw [hd] at hsz
    rw [extract_all d' n hsz, extract_all _ n hd] at hpm
    simpa using hpm
  · have hsz := hp.1
    rw [hd] at hsz
    rw [List.pairwise_iff_getElem]
    intro i j hi hj hij
    have hi' : i < d'.size := by simpa using hi
    have hj' : j < d'.size := by simpa using hj
    have := hsrt i j (Nat.zero_le _) hij (by omega)
    rw [cfR_lt, getElem!_pos d' i hi', getElem!_pos d' j hj'] at this
    have h5 := of_decide_eq_false this
    have h6 := cmpL_neg (L d'[i]) (L d'[j])
    simp only [Array.getElem_toList]
    omega
  · rw [hw]
end Go.Proofs.Ytkohcdddgjaijaa.PT
