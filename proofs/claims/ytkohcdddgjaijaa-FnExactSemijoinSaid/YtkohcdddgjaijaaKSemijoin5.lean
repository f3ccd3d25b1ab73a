/-
  Part 5 of the proof of this: The law FnExactSemijoin answers true at every argument.
-/
import Derived.Test.YtkohcdddgjaijaaKSemijoin2
import Derived.Test.YtkohcdddgjaijaaKSemijoin3
import Derived.Test.YtkohcdddgjaijaaKSemijoin4
import Derived.Deep.LoopGhost
namespace Go.Proofs.Ytkohcdddgjaijaa.P
open Go.RowKit Go.Proofs.YtkohcdddgjaijaaW.PrintWords Go.Proofs.YtkohcdddgjaijaaW.PrintLast Go.Proofs.YtkohcdddgjaijaaW.PrintMore
attribute [local go_sem] max2_int min2_int max_two min_two max_three min_three max_four min_four
set_option linter.unusedVariables false
set_option linter.unusedSimpArgs false
def laws_heldTable.f (k : Nat) (l0_0 : List Int) (l0_1 : List (List Int)) (l0_2 : List Int) (a1 : Int) : Option (Int) := (laws_heldIntS.f k l0_0 a1).bind fun t300 => (if t300 < 0 then (some (-1)) else ((laws_heldIntSS.f k l0_1 t300).bind fun t301 => (if t301 < 0 then (some (-1)) else ((laws_heldIntS.f k l0_2 t301).bind fun t302 => (if t302 < 0 then (some (-1)) else (some t302))))))
theorem laws_heldTable.mono : ∀ a0 a1 a2 a3 k, LeO (laws_heldTable.f k a0 a1 a2 a3) (laws_heldTable.f (k + 1) a0 a1 a2 a3) := by
 intro a0 a1 a2 a3 k
 unfold laws_heldTable.f
 repeat' first
   | (with_reducible exact laws_heldIntS.mono _ _ _)
   | (with_reducible exact laws_heldIntSS.mono _ _ _)
   | (with_reducible exact LeO.refl _)
   | (with_reducible exact LeO.none _)
   | (with_reducible refine LeO.ite ?_ ?_)
   | (with_reducible refine LeO.bind ?_ (fun _ => ?_))
   | exact laws_heldIntS.mono _ _ _
   | exact laws_heldIntSS.mono _ _ _
   | exact LeO.none _
   | refine LeO.ite ?_ ?_
   | refine LeO.bind ?_ (fun _ => ?_)
set_option maxHeartbeats 8000000 in
set_option maxRecDepth 100000 in
theorem laws_heldTable.calls (k : Nat) (A0_0 : Option Addr) (c0_0 : Nat) (l0_0 : List Int) (A0_1 : Option Addr) (c0_1 : Nat) (l0_1 : List (List Int)) (A0_2 : Option Addr) (c0_2 : Nat) (l0_2 : List Int) (a1 : Int) (r : Int) (w : World) (hr0_0 : Kd.C (Kd.int .i64) w A0_0 l0_0.length l0_0) (hc0_0 : l0_0.length ≤ c0_0) (hr0_1 : Kd.C (Kd.slice 3 (Kd.int .i64)) w A0_1 l0_1.length l0_1) (hc0_1 : l0_1.length ≤ c0_1) (hr0_2 : Kd.C (Kd.int .i64) w A0_2 l0_2.length l0_2) (hc0_2 : l0_2.length ≤ c0_2) (h : laws_heldTable.f k l0_0 l0_1 l0_2 a1 = some r) :
  Calls Try.prog 14 #[.agg #[.slice A0_0 l0_0.length c0_0, .slice A0_1 l0_1.length c0_1, .slice A0_2 l0_2.length c0_2], .int .i64 a1] w fun e w' => e = .returned (.int .i64 r) ∧ Below w.heap.size w w' := by
 have hu27 := Try.underlying27
 have HR0_0 := Aside0.mk hr0_0
 have HC0_0 := Aside0.mk hc0_0
 clear hr0_0 hc0_0
 have HR0_1 := Aside0.mk hr0_1
 have HC0_1 := Aside0.mk hc0_1
 clear hr0_1 hc0_1
 have HR0_2 := Aside0.mk hr0_2
 have HC0_2 := Aside0.mk hc0_2
 clear hr0_2 hc0_2
 have HB := Aside0.mk (Below.refl w.heap.size w)
 have H : ((laws_heldIntS.f k l0_0 a1).bind fun t300 => (if t300 < 0 then (some (-1)) else ((laws_heldIntSS.f k l0_1 t300).bind fun t301 => (if t301 < 0 then (some (-1)) else ((laws_heldIntS.f k l0_2 t301).bind fun t302 => (if t302 < 0 then (some (-1)) else (some t302))))))) = some r := h
 clear h
 replace H := Option.bind_eq_some_iff.mp H
 obtain ⟨t300, A30, H⟩ := H
 replace H : (if t300 < 0 then (some (-1)) else ((laws_heldIntSS.f k l0_1 t300).bind fun t301 => (if t301 < 0 then (some (-1)) else ((laws_heldIntS.f k l0_2 t301).bind fun t302 => (if t302 < 0 then (some (-1)) else (some t302)))))) = some r := H
 have A3 := Aside0.mk A30
 clear A30
 by_cases c4 : t300 < 0
 ·rw [if_pos c4] at H
  have c4b0 : decide (t300 < 0) = true := decide_eq_true c4
  clear c4
  obtain rfl := Option.some.inj H
  go_enter Try.func14, Try.ntmps14
  go_wp2_with (first | ((with_reducible refine gate_dst (N := 2) rfl ?_); refine box_event ?hg (N := 2) ?hd (cs := #[.slice A0_0 l0_0.length c0_0, .slice A0_1 l0_1.length c0_1, .slice A0_2 l0_2.length c0_2]) (t := 27) ?hr ?_; (case hd => rfl); (case hg => rfl); (case hr => first | (go_simp; done) | (go_simp; rfl)); intro gb299 hg w5 hbox hb; have n0_ := Aside0.mk (below_step (by repeat (first | (with_reducible first | exact HB.out | apply below_alloc | apply pw_below_drewN | apply below_drew1) | exact HB.out)) hb); have n1_ := Aside0.mk (hbox); have n2_ := Aside0.mk ((by rw [hg]; exact (below_size (by repeat (first | (with_reducible first | exact HB.out | apply below_alloc | apply pw_below_drewN | apply below_drew1) | exact HB.out))) : w.heap.size ≤ gb299)); have n3_ := Aside0.mk ((by rw [hg]; exact (below_size (by repeat (first | (with_reducible first | exact HB.out | apply below_alloc | apply pw_below_drewN | apply below_drew1) | exact HB.out))) : w.heap.size ≤ gb299)); clear HB; have HB := n0_; have BK299 := n1_; have GW299 := n2_; have GE299 := n3_; clear n0_ n1_ n2_ n3_; clear hb hbox hg; have hcz6_0 : w5.cell? ⟨gb299, 0, none⟩ = some (.slice A0_0 l0_0.length c0_0) := (blk_cell BK299.out 0).trans rfl; have hcz6_1 : w5.cell? ⟨gb299, 1, none⟩ = some (.slice A0_1 l0_1.length c0_1) := (blk_cell BK299.out 1).trans rfl; have hcz6_2 : w5.cell? ⟨gb299, 2, none⟩ = some (.slice A0_2 l0_2.length c0_2) := (blk_cell BK299.out 2).trans rfl; have hfz6_0 := blk_frozen BK299.out 0; have hfz6_1 := blk_frozen BK299.out 1; have hfz6_2 := blk_frozen BK299.out 2) | ((with_reducible refine gate_callee (f := 31) rfl ?_); refine goesL_ (some 8) rfl rfl Try.func31 (by kernel_rfl) rfl #[.slice A0_0 l0_0.length c0_0, .int .i64 a1] rfl (by (try simp only [List.map_toArray, List.map_cons, List.map_nil]); first | done | rfl | (simp only [List.length_drop, List.length_take]; rfl)) ?_; (with_reducible refine (laws_heldIntS.calls k _ _ l0_0 a1 t300 _ ?side1 ?side2 A3.out).mono ?_); (case side1 => repeat (first | exact (Kd.C_below HR0_0.out HB.out) | (with_reducible refine Kd.C_alloc ?_ _) | (with_reducible refine Kd.C_drewN ?_ _) | (with_reducible refine Kd.C_drew ?_))); (case side2 => exact HC0_0.out); rintro e w' ⟨rfl, ⟨nd, rfl⟩⟩; refine ⟨_, rfl, ?_⟩))
  go_ret
  exact ⟨by first | rfl | (simp [errW_none, errW_some] <;> rfl) | (simp [*, errW_none, errW_some] <;> rfl), by repeat (first | (with_reducible first | exact HB.out | apply below_alloc | apply pw_below_drewN | apply below_drew1 | refine below_set ?_ GE299.out) | exact HB.out)⟩
 ·rw [if_neg c4] at H
  have c4b0 : decide (t300 < 0) = false := decide_eq_false c4
  clear c4
  replace H := Option.bind_eq_some_iff.mp H
  obtain ⟨t301, A70, H⟩ := H
  replace H : (if t301 < 0 then (some (-1)) else ((laws_heldIntS.f k l0_2 t301).bind fun t302 => (if t302 < 0 then (some (-1)) else (some t302)))) = some r := H
  have A7 := Aside0.mk A70
  clear A70
  by_cases c8 : t301 < 0
  ·rw [if_pos c8] at H
   have c8b0 : decide (t301 < 0) = true := decide_eq_true c8
   clear c8
   obtain rfl := Option.some.inj H
   go_enter Try.func14, Try.ntmps14
   go_wp2_with (first | ((with_reducible refine gate_dst (N := 2) rfl ?_); refine box_event ?hg (N := 2) ?hd (cs := #[.slice A0_0 l0_0.length c0_0, .slice A0_1 l0_1.length c0_1, .slice A0_2 l0_2.length c0_2]) (t := 27) ?hr ?_; (case hd => rfl); (case hg => rfl); (case hr => first | (go_simp; done) | (go_simp; rfl)); intro gb299 hg w9 hbox hb; have n0_ := Aside0.mk (below_step (by repeat (first | (with_reducible first | exact HB.out | apply below_alloc | apply pw_below_drewN | apply below_drew1) | exact HB.out)) hb); have n1_ := Aside0.mk (hbox); have n2_ := Aside0.mk ((by rw [hg]; exact (below_size (by repeat (first | (with_reducible first | exact HB.out | apply below_alloc | apply pw_below_drewN | apply below_drew1) | exact HB.out))) : w.heap.size ≤ gb299)); have n3_ := Aside0.mk ((by rw [hg]; exact (below_size (by repeat (first | (with_reducible first | exact HB.out | apply below_alloc | apply pw_below_drewN | apply below_drew1) | exact HB.out))) : w.heap.size ≤ gb299)); clear HB; have HB := n0_; have BK299 := n1_; have GW299 := n2_; have GE299 := n3_; clear n0_ n1_ n2_ n3_; clear hb hbox hg; have hcz10_0 : w9.cell? ⟨gb299, 0, none⟩ = some (.slice A0_0 l0_0.length c0_0) := (blk_cell BK299.out 0).trans rfl; have hcz10_1 : w9.cell? ⟨gb299, 1, none⟩ = some (.slice A0_1 l0_1.length c0_1) := (blk_cell BK299.out 1).trans rfl; have hcz10_2 : w9.cell? ⟨gb299, 2, none⟩ = some (.slice A0_2 l0_2.length c0_2) := (blk_cell BK299.out 2).trans rfl; have hfz10_0 := blk_frozen BK299.out 0; have hfz10_1 := blk_frozen BK299.out 1; have hfz10_2 := blk_frozen BK299.out 2) | ((with_reducible refine gate_callee (f := 31) rfl ?_); refine goesL_ (some 8) rfl rfl Try.func31 (by kernel_rfl) rfl #[.slice A0_0 l0_0.length c0_0, .int .i64 a1] rfl (by (try simp only [List.map_toArray, List.map_cons, List.map_nil]); first | done | rfl | (simp only [List.length_drop, List.length_take]; rfl)) ?_; (with_reducible refine (laws_heldIntS.calls k _ _ l0_0 a1 t300 _ ?side1 ?side2 A3.out).mono ?_); (case side1 => repeat (first | exact (Kd.C_below HR0_0.out HB.out) | (with_reducible refine Kd.C_alloc ?_ _) | (with_reducible refine Kd.C_drewN ?_ _) | (with_reducible refine Kd.C_drew ?_))); (case side2 => exact HC0_0.out); rintro e w' ⟨rfl, ⟨nd, rfl⟩⟩; refine ⟨_, rfl, ?_⟩) | ((with_reducible refine gate_callee (f := 32) rfl ?_); refine goesL_ (some 14) rfl rfl Try.func32 (by kernel_rfl) rfl #[.slice A0_1 l0_1.length c0_1, .int .i64 t300] rfl (by (try simp only [List.map_toArray, List.map_cons, List.map_nil]); first | done | rfl | (simp only [List.length_drop, List.length_take]; rfl)) ?_; (with_reducible refine (laws_heldIntSS.calls k _ _ l0_1 t300 t301 _ ?side1 ?side2 A7.out).mono ?_); (case side1 => repeat (first | exact (Kd.C_below HR0_1.out (by repeat (first | (with_reducible first | exact HB.out | apply below_alloc | apply pw_below_drewN | apply below_drew1 | refine below_set ?_ GE299.out) | exact HB.out))) | (with_reducible refine Kd.C_alloc ?_ _) | (with_reducible refine Kd.C_drewN ?_ _) | (with_reducible refine Kd.C_drew ?_))); (case side2 => exact HC0_1.out); rintro e w' ⟨rfl, ⟨nd, rfl⟩⟩; refine ⟨_, rfl, ?_⟩))
   go_ret
   exact ⟨by first | rfl | (simp [errW_none, errW_some] <;> rfl) | (simp [*, errW_none, errW_some] <;> rfl), by repeat (first | (with_reducible first | exact HB.out | apply below_alloc | apply pw_below_drewN | apply below_drew1 | refine below_set ?_ GE299.out) | exact HB.out)⟩
  ·rw [if_neg c8] at H
   have c8b0 : decide (t301 < 0) = false := decide_eq_false c8
   clear c8
   replace H := Option.bind_eq_some_iff.mp H
   obtain ⟨t302, A110, H⟩ := H
   replace H : (if t302 < 0 then (some (-1)) else (some t302)) = some r := H
   have A11 := Aside0.mk A110
   clear A110
   by_cases c12 : t302 < 0
   ·rw [if_pos c12] at H
    have c12b0 : decide (t302 < 0) = true := decide_eq_true c12
    clear c12
    obtain rfl := Option.some.inj H
    go_enter Try.func14, Try.ntmps14
    go_wp2_with (first | ((with_reducible refine gate_dst (N := 2) rfl ?_); refine box_event ?hg (N := 2) ?hd (cs := #[.slice A0_0 l0_0.length c0_0, .slice A0_1 l0_1.length c0_1, .slice A0_2 l0_2.length c0_2]) (t := 27) ?hr ?_; (case hd => rfl); (case hg => rfl); (case hr => first | (go_simp; done) | (go_simp; rfl)); intro gb299 hg w13 hbox hb; have n0_ := Aside0.mk (below_step (by repeat (first | (with_reducible first | exact HB.out | apply below_alloc | apply pw_below_drewN | apply below_drew1) | exact HB.out)) hb); have n1_ := Aside0.mk (hbox); have n2_ := Aside0.mk ((by rw [hg]; exact (below_size (by repeat (first | (with_reducible first | exact HB.out | apply below_alloc | apply pw_below_drewN | apply below_drew1) | exact HB.out))) : w.heap.size ≤ gb299)); have n3_ := Aside0.mk ((by rw [hg]; exact (below_size (by repeat (first | (with_reducible first | exact HB.out | apply below_alloc | apply pw_below_drewN | apply below_drew1) | exact HB.out))) : w.heap.size ≤ gb299)); clear HB; have HB := n0_; have BK299 := n1_; have GW299 := n2_; have GE299 := n3_; clear n0_ n1_ n2_ n3_; clear hb hbox hg; have hcz14_0 : w13.cell? ⟨gb299, 0, none⟩ = some (.slice A0_0 l0_0.length c0_0) := (blk_cell BK299.out 0).trans rfl; have hcz14_1 : w13.cell? ⟨gb299, 1, none⟩ = some (.slice A0_1 l0_1.length c0_1) := (blk_cell BK299.out 1).trans rfl; have hcz14_2 : w13.cell? ⟨gb299, 2, none⟩ = some (.slice A0_2 l0_2.length c0_2) := (blk_cell BK299.out 2).trans rfl; have hfz14_0 := blk_frozen BK299.out 0; have hfz14_1 := blk_frozen BK299.out 1; have hfz14_2 := blk_frozen BK299.out 2) | ((with_reducible refine gate_callee (f := 31) rfl ?_); refine goesL_ (some 8) rfl rfl Try.func31 (by kernel_rfl) rfl #[.slice A0_0 l0_0.length c0_0, .int .i64 a1] rfl (by (try simp only [List.map_toArray, List.map_cons, List.map_nil]); first | done | rfl | (simp only [List.length_drop, List.length_take]; rfl)) ?_; (with_reducible refine (laws_heldIntS.calls k _ _ l0_0 a1 t300 _ ?side1 ?side2 A3.out).mono ?_); (case side1 => repeat (first | exact (Kd.C_below HR0_0.out HB.out) | (with_reducible refine Kd.C_alloc ?_ _) | (with_reducible refine Kd.C_drewN ?_ _) | (with_reducible refine Kd.C_drew ?_))); (case side2 => exact HC0_0.out); rintro e w' ⟨rfl, ⟨nd, rfl⟩⟩; refine ⟨_, rfl, ?_⟩) | ((with_reducible refine gate_callee (f := 32) rfl ?_); refine goesL_ (some 14) rfl rfl Try.func32 (by kernel_rfl) rfl #[.slice A0_1 l0_1.length c0_1, .int .i64 t300] rfl (by (try simp only [List.map_toArray, List.map_cons, List.map_nil]); first | done | rfl | (simp only [List.length_drop, List.length_take]; rfl)) ?_; (with_reducible refine (laws_heldIntSS.calls k _ _ l0_1 t300 t301 _ ?side1 ?side2 A7.out).mono ?_); (case side1 => repeat (first | exact (Kd.C_below HR0_1.out (by repeat (first | (with_reducible first | exact HB.out | apply below_alloc | apply pw_below_drewN | apply below_drew1 | refine below_set ?_ GE299.out) | exact HB.out))) | (with_reducible refine Kd.C_alloc ?_ _) | (with_reducible refine Kd.C_drewN ?_ _) | (with_reducible refine Kd.C_drew ?_))); (case side2 => exact HC0_1.out); rintro e w' ⟨rfl, ⟨nd, rfl⟩⟩; refine ⟨_, rfl, ?_⟩) | ((with_reducible refine gate_callee (f := 31) rfl ?_); refine goesL_ (some 20) rfl rfl Try.func31 (by kernel_rfl) rfl #[.slice A0_2 l0_2.length c0_2, .int .i64 t301] rfl (by (try simp only [List.map_toArray, List.map_cons, List.map_nil]); first | done | rfl | (simp only [List.length_drop, List.length_take]; rfl)) ?_; (with_reducible refine (laws_heldIntS.calls k _ _ l0_2 t301 t302 _ ?side1 ?side2 A11.out).mono ?_); (case side1 => repeat (first | exact (Kd.C_below HR0_2.out (by repeat (first | (with_reducible first | exact HB.out | apply below_alloc | apply pw_below_drewN | apply below_drew1 | refine below_set ?_ GE299.out) | exact HB.out))) | (with_reducible refine Kd.C_alloc ?_ _) | (with_reducible refine Kd.C_drewN ?_ _) | (with_reducible refine Kd.C_drew ?_))); (case side2 => exact HC0_2.out); rintro e w' ⟨rfl, ⟨nd, rfl⟩⟩; refine ⟨_, rfl, ?_⟩))
    go_ret
    exact ⟨by first | rfl | (simp [errW_none, errW_some] <;> rfl) | (simp [*, errW_none, errW_some] <;> rfl), by repeat (first | (with_reducible first | exact HB.out | apply below_alloc | apply pw_below_drewN | apply below_drew1 | refine below_set ?_ GE299.out) | exact HB.out)⟩
   ·rw [if_neg c12] at H
    have c12b0 : decide (t302 < 0) = false := decide_eq_false c12
    clear c12
    obtain rfl := Option.some.inj H
    go_enter Try.func14, Try.ntmps14
    go_wp2_with (first | ((with_reducible refine gate_dst (N := 2) rfl ?_); refine box_event ?hg (N := 2) ?hd (cs := #[.slice A0_0 l0_0.length c0_0, .slice A0_1 l0_1.length c0_1, .slice A0_2 l0_2.length c0_2]) (t := 27) ?hr ?_; (case hd => rfl); (case hg => rfl); (case hr => first | (go_simp; done) | (go_simp; rfl)); intro gb299 hg w15 hbox hb; have n0_ := Aside0.mk (below_step (by repeat (first | (with_reducible first | exact HB.out | apply below_alloc | apply pw_below_drewN | apply below_drew1) | exact HB.out)) hb); have n1_ := Aside0.mk (hbox); have n2_ := Aside0.mk ((by rw [hg]; exact (below_size (by repeat (first | (with_reducible first | exact HB.out | apply below_alloc | apply pw_below_drewN | apply below_drew1) | exact HB.out))) : w.heap.size ≤ gb299)); have n3_ := Aside0.mk ((by rw [hg]; exact (below_size (by repeat (first | (with_reducible first | exact HB.out | apply below_alloc | apply pw_below_drewN | apply below_drew1) | exact HB.out))) : w.heap.size ≤ gb299)); clear HB; have HB := n0_; have BK299 := n1_; have GW299 := n2_; have GE299 := n3_; clear n0_ n1_ n2_ n3_; clear hb hbox hg; have hcz16_0 : w15.cell? ⟨gb299, 0, none⟩ = some (.slice A0_0 l0_0.length c0_0) := (blk_cell BK299.out 0).trans rfl; have hcz16_1 : w15.cell? ⟨gb299, 1, none⟩ = some (.slice A0_1 l0_1.length c0_1) := (blk_cell BK299.out 1).trans rfl; have hcz16_2 : w15.cell? ⟨gb299, 2, none⟩ = some (.slice A0_2 l0_2.length c0_2) := (blk_cell BK299.out 2).trans rfl; have hfz16_0 := blk_frozen BK299.out 0; have hfz16_1 := blk_frozen BK299.out 1; have hfz16_2 := blk_frozen BK299.out 2) | ((with_reducible refine gate_callee (f := 31) rfl ?_); refine goesL_ (some 8) rfl rfl Try.func31 (by kernel_rfl) rfl #[.slice A0_0 l0_0.length c0_0, .int .i64 a1] rfl (by (try simp only [List.map_toArray, List.map_cons, List.map_nil]); first | done | rfl | (simp only [List.length_drop, List.length_take]; rfl)) ?_; (with_reducible refine (laws_heldIntS.calls k _ _ l0_0 a1 t300 _ ?side1 ?side2 A3.out).mono ?_); (case side1 => repeat (first | exact (Kd.C_below HR0_0.out HB.out) | (with_reducible refine Kd.C_alloc ?_ _) | (with_reducible refine Kd.C_drewN ?_ _) | (with_reducible refine Kd.C_drew ?_))); (case side2 => exact HC0_0.out); rintro e w' ⟨rfl, ⟨nd, rfl⟩⟩; refine ⟨_, rfl, ?_⟩) | ((with_reducible refine gate_callee (f := 32) rfl ?_); refine goesL_ (some 14) rfl rfl Try.func32 (by kernel_rfl) rfl #[.slice A0_1 l0_1.length c0_1, .int .i64 t300] rfl (by (try simp only [List.map_toArray, List.map_cons, List.map_nil]); first | done | rfl | (simp only [List.length_drop, List.length_take]; rfl)) ?_; (with_reducible refine (laws_heldIntSS.calls k _ _ l0_1 t300 t301 _ ?side1 ?side2 A7.out).mono ?_); (case side1 => repeat (first | exact (Kd.C_below HR0_1.out (by repeat (first | (with_reducible first | exact HB.out | apply below_alloc | apply pw_below_drewN | apply below_drew1 | refine below_set ?_ GE299.out) | exact HB.out))) | (with_reducible refine Kd.C_alloc ?_ _) | (with_reducible refine Kd.C_drewN ?_ _) | (with_reducible refine Kd.C_drew ?_))); (case side2 => exact HC0_1.out); rintro e w' ⟨rfl, ⟨nd, rfl⟩⟩; refine ⟨_, rfl, ?_⟩) | ((with_reducible refine gate_callee (f := 31) rfl ?_); refine goesL_ (some 20) rfl rfl Try.func31 (by kernel_rfl) rfl #[.slice A0_2 l0_2.length c0_2, .int .i64 t301] rfl (by (try simp only [List.map_toArray, List.map_cons, List.map_nil]); first | done | rfl | (simp only [List.length_drop, List.length_take]; rfl)) ?_; (with_reducible refine (laws_heldIntS.calls k _ _ l0_2 t301 t302 _ ?side1 ?side2 A11.out).mono ?_); (case side1 => repeat (first | exact (Kd.C_below HR0_2.out (by repeat (first | (with_reducible first | exact HB.out | apply below_alloc | apply pw_below_drewN | apply below_drew1 | refine below_set ?_ GE299.out) | exact HB.out))) | (with_reducible refine Kd.C_alloc ?_ _) | (with_reducible refine Kd.C_drewN ?_ _) | (with_reducible refine Kd.C_drew ?_))); (case side2 => exact HC0_2.out); rintro e w' ⟨rfl, ⟨nd, rfl⟩⟩; refine ⟨_, rfl, ?_⟩))
    go_ret
    exact ⟨by first | rfl | (simp [errW_none, errW_some] <;> rfl) | (simp [*, errW_none, errW_some] <;> rfl), by repeat (first | (with_reducible first | exact HB.out | apply below_alloc | apply pw_below_drewN | apply below_drew1 | refine below_set ?_ GE299.out) | exact HB.out)⟩
end Go.Proofs.Ytkohcdddgjaijaa.P
namespace Go.Proofs.Ytkohcdddgjaijaa.PT
open Go.RowKit Go.Proofs.Ytkohcdddgjaijaa.P Go.Proofs.YtkohcdddgjaijaaW.PrintWords Go.Proofs.YtkohcdddgjaijaaW.PrintLast Go.Proofs.Ytkohcdddgjaijaa.EvKit
set_option linter.unusedVariables false
set_option linter.unusedSimpArgs false
namespace Ow
theorem pair_one {α β : Type} {A : Ow α} {B : Ow β} {W : World} {x : α} {y : β} {u : Value} {cs : List Value} {bs : List Nat} (hA : A.kd.sz = 1) (h : (pair A B).own W (x, y) (u :: cs) bs) :
    ∃ b1 b2, bs = b1 ++ b2 ∧ bs.Nodup ∧ A.own W x [u] b1 ∧ B.own W y cs b2 := by
  obtain ⟨c1, c2, b1, b2, e, hb, hn, ha, hb'⟩ := h
  have hl := A.kd.K_len (A.rd ha)
  rw [hA] at hl
  obtain ⟨v, rfl⟩ : ∃ v, c1 = [v] := by
    match c1, hl with
    | [v], _ => exact ⟨v, rfl⟩
  simp only [List.cons_append, List.nil_append, List.cons.injEq] at e
  obtain ⟨rfl, rfl⟩ := e
  exact ⟨b1, b2, hb, hn, ha, hb'⟩
end Ow
abbrev owT : Ow (List Int × List (List Int) × List Int) := Ow.pair owI (Ow.pair owII owI)
abbrev T3 := List Int × List (List Int) × List Int
structure RdT (W : World) (x : T3) (A0 : Option Addr) (c0 : Nat) (A1 : Option Addr) (c1 : Nat) (A2 : Option Addr) (c2 : Nat) : Prop where
  vars : RdI W x.1 A0 c0
  rows : RdII W x.2.1 A1 c1
  wts : RdI W x.2.2 A2 c2
theorem RdT.tr {W W' : World} {x : T3} {A0 : Option Addr} {c0 : Nat} {A1 : Option Addr} {c1 : Nat} {A2 : Option Addr} {c2 : Nat} (h : RdT W x A0 c0 A1 c1 A2 c2) (t : tr0 W W') : RdT W' x A0 c0 A1 c1 A2 c2 := ⟨h.vars.tr t, h.rows.tr t, h.wts.tr t⟩
def goodT (x : T3) : Prop := goodI x.1 ∧ goodII x.2.1 ∧ goodI x.2.2
def cntT (x : T3) : Int := x.1.length + cntII x.2.1 + x.2.2.length
def mkT (k : Int) (x : T3) : T3 := (markI k x.1, markII (k + x.1.length) x.2.1, markI (k + x.1.length + cntII x.2.1) x.2.2)
abbrev valT (x : T3) (A0 : Option Addr) (c0 : Nat) (A1 : Option Addr) (c1 : Nat) (A2 : Option Addr) (c2 : Nat) : Value := .agg #[.slice A0 x.1.length c0, .slice A1 x.2.1.length c1, .slice A2 x.2.2.length c2]
abbrev oT (W : World) (x : T3) (A0 : Option Addr) (n0 c0 : Nat) (A1 : Option Addr) (n1 c1 : Nat) (A2 : Option Addr) (n2 c2 : Nat) (bs : List Nat) : Prop := owT.own W x [.slice A0 n0 c0, .slice A1 n1 c1, .slice A2 n2 c2] bs
theorem oT.parts {W : World} {x : T3} {A0 : Option Addr} {n0 c0 : Nat} {A1 : Option Addr} {n1 c1 : Nat} {A2 : Option Addr} {n2 c2 : Nat} {bs : List Nat} (h : oT W x A0 n0 c0 A1 n1 c1 A2 n2 c2 bs) :
    ∃ b0 b1 b2, bs = b0 ++ (b1 ++ b2) ∧ bs.Nodup ∧ oI W x.1 A0 n0 c0 b0 ∧ oII W x.2.1 A1 n1 c1 b1 ∧ oI W x.2.2 A2 n2 c2 b2 := by
  obtain ⟨b0, b', rfl, hn, h0, h'⟩ := Ow.pair_one rfl h
  obtain ⟨b1, b2, rfl, _, h1, h2⟩ := Ow.pair_one rfl h'
  exact ⟨b0, b1, b2, rfl, hn, h0, h1, h2⟩
theorem oT.mk {W : World} {x : T3} {A0 : Option Addr} {n0 c0 : Nat} {A1 : Option Addr} {n1 c1 : Nat} {A2 : Option Addr} {n2 c2 : Nat} {b0 b1 b2 : List Nat} (h0 : oI W x.1 A0 n0 c0 b0) (h1 : oII W x.2.1 A1 n1 c1 b1) (h2 : oI W x.2.2 A2 n2 c2 b2)
    (d01 : ∀ b, b ∈ b0 → b ∈ b1 → False) (d02 : ∀ b, b ∈ b0 → b ∈ b2 → False) (d12 : ∀ b, b ∈ b1 → b ∈ b2 → False) : oT W x A0 n0 c0 A1 n1 c1 A2 n2 c2 (b0 ++ (b1 ++ b2)) :=
  Ow.pair_mk (c1 := [_]) h0 (Ow.pair_mk (c1 := [_]) (c2 := [_]) h1 h2 d12) (fun b hb hb' => by
    rcases List.mem_append.1 hb' with hb' | hb'
    · exact d01 b hb hb'
    · exact d02 b hb hb')
theorem oT.rd {W : World} {x : T3} {A0 : Option Addr} {n0 c0 : Nat} {A1 : Option Addr} {n1 c1 : Nat} {A2 : Option Addr} {n2 c2 : Nat} {bs : List Nat} (h : oT W x A0 n0 c0 A1 n1 c1 A2 n2 c2 bs) : RdT W x A0 c0 A1 c1 A2 c2 := by
  obtain ⟨_, _, _, _, _, h0, h1, h2⟩ := h.parts
  exact ⟨h0.rd, h1.rd, h2.rd⟩
def ToT (W0 W : World) (x : T3) (e : Ending) (w' : World) : Prop := ∃ A0 c0 A1 c1 A2 c2 bs, e = .returned (valT x A0 c0 A1 c1 A2 c2) ∧ oT w' x A0 x.1.length c0 A1 x.2.1.length c1 A2 x.2.2.length c2 bs ∧ (∀ b, b ∈ bs → W.heap.size ≤ b) ∧ tr0 W w'
theorem oT_of {W : World} {base : Nat} {x : T3} {v0 v1 v2 : Value} {ok0 ok1 ok2 : Nat → Prop} (h0 : Kd.R (Kd.int .i64) 3 W base ok0 v0 x.1) (h1 : Kd.S (Kd.slice 3 (Kd.int .i64)) 22 W base ok1 v1 x.2.1) (h2 : Kd.R (Kd.int .i64) 3 W base ok2 v2 x.2.2)
    (d01 : ∀ k, ok1 k → some k ≠ v0.ownBlock) (d12 : ∀ k, ok1 k → some k ≠ v2.ownBlock) (d02 : ∀ k, ok0 k → some k ≠ v2.ownBlock) :
    ∃ A0 c0 A1 c1 A2 c2 bs, v0 = .slice A0 x.1.length c0 ∧ v1 = .slice A1 x.2.1.length c1 ∧ v2 = .slice A2 x.2.2.length c2 ∧ oT W x A0 x.1.length c0 A1 x.2.1.length c1 A2 x.2.2.length c2 bs ∧ ∀ b, b ∈ bs → base ≤ b := by
  obtain ⟨A0, c0, rfl⟩ := Kd.R_slice h0
  obtain ⟨A1, c1, rfl⟩ := Kd.S_slice h1
  obtain ⟨A2, c2, rfl⟩ := Kd.R_slice h2
  obtain ⟨b0, o0, g0⟩ := owI_of (Kd.R_mono (Kd.R_tight rfl h0) (ok' := fun k => some k = (Value.slice A0 x.1.length c0).ownBlock ∧ ok0 k) (fun k hk => ⟨hk, h0.1 k hk.symm⟩))
  obtain ⟨b1, o1, g1⟩ := owII_of h1
  obtain ⟨b2, o2, g2⟩ := owI_of (Kd.R_tight rfl h2)
  refine ⟨A0, c0, A1, c1, A2, c2, b0 ++ (b1 ++ b2), rfl, rfl, rfl, oT.mk o0 o1 o2 (fun b hb hb' => d01 b (g1 b hb').1 (g0 b hb).1.1) (fun b hb hb' => d02 b (g0 b hb).1.2 (g2 b hb').1) (fun b hb hb' => d12 b (g1 b hb).1 (g2 b hb').1), fun b hb => ?_⟩
  rcases List.mem_append.1 hb with hb | hb
  · exact (g0 b hb).2
  · rcases List.mem_append.1 hb with hb | hb
    · exact (g1 b hb).2
    · exact (g2 b hb).2
theorem szT_c {W0 W : World} {x : T3} {A0 : Option Addr} {c0 : Nat} {A1 : Option Addr} {c1 : Nat} {A2 : Option Addr} {c2 : Nat} (h : RdT W0 x A0 c0 A1 c1 A2 c2) (z : Int) (h1 : -1 ≤ z) (h2 : z ≤ 1048576) (t : tr0 W0 W) :
    Calls Try.prog 5 #[valT x A0 c0 A1 c1 A2 c2, .int .i64 z] W fun e w' => e = .returned (.int .i64 (szT x.1 x.2.1 x.2.2 z)) ∧ tr0 W w' := by
  have l0 := h.vars.2.2.1
  have l1 := h.rows.2.2.1
  have l2 := h.wts.2.2.1
  obtain ⟨k, hk⟩ := Ev.rounds (szTable_ev x.1 x.2.1 x.2.2 z l0 l1 (fun y hy => by
    obtain ⟨i, hi, rfl⟩ := List.getElem_of_mem hy
    obtain ⟨_, _, hc⟩ := h.rows.2.2.2 (by omega)
    obtain ⟨_, _, ⟨_, _, _, _, hC⟩, _⟩ := hc i _ (List.getElem?_eq_getElem hi)
    exact hC.2.1) l2 h1 h2)
  exact (laws_szTable.calls k A0 c0 x.1 A1 c1 x.2.1 A2 c2 x.2.2 z _ W (h.vars.tr t).2 h.vars.1 (h.rows.tr t).2 h.rows.1 (h.wts.tr t).2 h.wts.1 hk).mono (fun e w' hh => ⟨hh.1, Tr.of_below hh.2⟩)
theorem toT_c {W0 W : World} {x : T3} {A0 : Option Addr} {c0 : Nat} {A1 : Option Addr} {c1 : Nat} {A2 : Option Addr} {c2 : Nat} (h : RdT W0 x A0 c0 A1 c1 A2 c2) (hg : goodT x) (t : tr0 W0 W) : Calls Try.prog 7 #[valT x A0 c0 A1 c1 A2 c2] W (ToT W0 W x) := by
  obtain ⟨k, hk⟩ := Ev.rounds (toTable_ev x.1 x.2.1 x.2.2 hg.1 hg.2.1.1 hg.2.1.2 hg.2.2)
  refine (laws_toTable.calls k A0 c0 x.1 A1 c1 x.2.1 A2 c2 x.2.2 x.1 x.2.1 x.2.2 W (h.vars.tr t).2 h.vars.1 (h.rows.tr t).2 h.rows.1 (h.wts.tr t).2 h.wts.1 hk).mono ?_
  rintro e w' ⟨v0, v1, v2, rfl, h0, h1, h2, hb⟩
  obtain ⟨B0, d0, B1, d1, B2, d2, bs, rfl, rfl, rfl, ho, hbs⟩ := oT_of h0 h1 h2 (fun k hk => hk.1) (fun k hk => hk.2) (fun k hk => hk)
  exact ⟨B0, d0, B1, d1, B2, d2, bs, rfl, ho, hbs, Tr.of_below hb⟩
theorem eqT_c {W0 W : World} {x : T3} {A0 : Option Addr} {c0 : Nat} {A1 : Option Addr} {c1 : Nat} {A2 : Option Addr} {c2 : Nat} {B0 : Option Addr} {d0 : Nat} {B1 : Option Addr} {d1 : Nat} {B2 : Option Addr} {d2 : Nat} (h : RdT W0 x A0 c0 A1 c1 A2 c2) (h' : RdT W0 x B0 d0 B1 d1 B2 d2) (hg : goodT x) (t : tr0 W0 W) :
    Calls Try.prog 10 #[valT x A0 c0 A1 c1 A2 c2, valT x B0 d0 B1 d1 B2 d2] W fun e w' => e = .returned (.bool true) ∧ tr0 W w' := by
  obtain ⟨k, hk⟩ := Ev.rounds (eqTable_self x.1 x.2.1 x.2.2 hg.1 hg.2.1.1 hg.2.1.2 hg.2.2)
  exact (laws_eqTable.calls k A0 c0 x.1 A1 c1 x.2.1 A2 c2 x.2.2 B0 d0 x.1 B1 d1 x.2.1 B2 d2 x.2.2 true W (h.vars.tr t).2 h.vars.1 (h.rows.tr t).2 h.rows.1 (h.wts.tr t).2 h.wts.1 (h'.vars.tr t).2 h'.vars.1 (h'.rows.tr t).2 h'.rows.1 (h'.wts.tr t).2 h'.wts.1 hk).mono (fun e w' hh => ⟨hh.1, Tr.of_below hh.2⟩)
theorem heldT_c {W0 W : World} {x : T3} {A0 : Option Addr} {c0 : Nat} {A1 : Option Addr} {c1 : Nat} {A2 : Option Addr} {c2 : Nat} (k : Int) (h : RdT W0 (mkT k x) A0 c0 A1 c1 A2 c2) (hg : goodT x) (h0 : 0 ≤ k) (hk : k + cntT x ≤ 1099511627776) (t : tr0 W0 W) :
    Calls Try.prog 14 #[valT x A0 c0 A1 c1 A2 c2, .int .i64 k] W fun e w' => e = .returned (.int .i64 (k + cntT x)) ∧ tr0 W w' := by
  have hc := cntII_ge x.2.1
  unfold cntT at hk
  have hg1 := hg.1
  have hg2 := hg.2.2
  unfold goodI at hg1 hg2
  have ev : Ev (fun q => laws_heldTable.f q (mkT k x).1 (mkT k x).2.1 (mkT k x).2.2 k) (k + cntT x) := by
    unfold laws_heldTable.f mkT cntT
    refine Ev.bind (heldIntS_ev x.1 k h0 (by omega) (by omega)) (Ev.neg (by omega) (Ev.bind (heldIntSS_ev x.2.1 (k + x.1.length) (by omega) hg.2.1 (by omega)) (Ev.neg (by omega) (Ev.bind (heldIntS_ev x.2.2 (k + x.1.length + cntII x.2.1) (by omega) (by omega) (by omega)) (Ev.neg (by omega) (Ev.to (Ev.now _) (by omega)))))))
  obtain ⟨q, hq⟩ := Ev.rounds ev
  have h1 := laws_heldTable.calls q A0 c0 (mkT k x).1 A1 c1 (mkT k x).2.1 A2 c2 (mkT k x).2.2 k _ W (h.vars.tr t).2 h.vars.1 (h.rows.tr t).2 h.rows.1 (h.wts.tr t).2 h.wts.1 hq
  have e0 : (mkT k x).1.length = x.1.length := markI_len _ _
  have e1 : (mkT k x).2.1.length = x.2.1.length := markII_len _ _
  have e2 : (mkT k x).2.2.length = x.2.2.length := markI_len _ _
  rw [e0, e1, e2] at h1
  exact h1.mono (fun e w' hh => ⟨hh.1, Tr.of_below hh.2⟩)
def MkT (w W : World) (x : T3) (k : Int) (A0 : Option Addr) (n0 c0 : Nat) (A1 : Option Addr) (n1 c1 : Nat) (A2 : Option Addr) (n2 c2 : Nat) (bs : List Nat) (e : Ending) (w' : World) : Prop :=
  e = .returned (.int .i64 (k + cntT x)) ∧ (∃ bs', oT w' (mkT k x) A0 n0 c0 A1 n1 c1 A2 n2 c2 bs' ∧ ∀ b, b ∈ bs' → b ∈ bs ∨ W.heap.size ≤ b) ∧ Tr (· ∈ bs) W w'
theorem tr0.of_box {W0 W : World} (t : tr0 W0 W) (o : Obj) : tr0 W0 (W.alloc o) := Tr.alloc t o
set_option maxHeartbeats 1600000 in
set_option maxRecDepth 100000 in
theorem markT_c {w W0 W : World} {x : T3} {A0 : Option Addr} {c0 : Nat} {A1 : Option Addr} {c1 : Nat} {A2 : Option Addr} {c2 : Nat} {bs : List Nat} (k : Int) (h : oT W0 x A0 x.1.length c0 A1 x.2.1.length c1 A2 x.2.2.length c2 bs) (hb : ∀ b, b ∈ bs → w.heap.size ≤ b) (hB : Below w.heap.size w W0) (hg : goodT x) (h0 : 0 ≤ k) (hk : k + cntT x ≤ 1099511627776) (t : tr0 W0 W) :
    Calls Try.prog 12 #[valT x A0 c0 A1 c1 A2 c2, .int .i64 k] W (MkT w W x k A0 x.1.length c0 A1 x.2.1.length c1 A2 x.2.2.length c2 bs) := by
  have hBW := Tr.bel_ hB t (fun _ hk => hk.elim)
  have hoW := owT.tr h t (fun _ _ hk => hk)
  obtain ⟨b0, b1, b2, rfl, hn, o0, o1, o2⟩ := oT.parts hoW
  have HL0 := Aside0.mk (owI.lt o0)
  have HL1 := Aside0.mk (owII.lt o1)
  have HL2 := Aside0.mk (owI.lt o2)
  have hcn := cntII_ge x.2.1
  have hk2 := hk
  unfold cntT at hk
  rw [List.nodup_append] at hn
  obtain ⟨_, hn12, hd⟩ := hn
  rw [List.nodup_append] at hn12
  obtain ⟨_, _, hd12⟩ := hn12
  have HD : Aside0 ((∀ b, b ∈ b0 → b ∈ b1 → False) ∧ (∀ b, b ∈ b0 → b ∈ b2 → False) ∧ ∀ b, b ∈ b1 → b ∈ b2 → False) := ⟨fun b h h' => hd b h b (List.mem_append_left _ h') rfl, fun b h h' => hd b h b (List.mem_append_right _ h') rfl, fun b h h' => hd12 b h b h' rfl⟩
  have HT0 : Aside0 (∀ o, tr0 W (W.alloc o)) := ⟨fun o => Tr.alloc (Tr.refl _ _) o⟩
  have HM0 := Aside0.mk (fun W' (t' : tr0 W W') => markI_c (w := w) (x := x.1) (A := A0) (c := c0) k o0 (fun b h => hb b (List.mem_append_left _ h)) hBW hg.1 h0 (by omega) t')
  have hB0 := Aside0.mk hBW
  have HB' := Aside0.mk hb
  have HO1 := Aside0.mk o1
  have HO2 := Aside0.mk o2
  have HG := Aside0.mk hg
  have HCN : Aside0 (0 ≤ k + x.1.length + cntII x.2.1) := ⟨by omega⟩
  have HK : Aside0 (k + x.1.length + cntII x.2.1 ≤ 1099511627776 ∧ k + x.1.length + cntII x.2.1 + x.2.2.length ≤ 1099511627776 ∧ k + cntT x = k + x.1.length + cntII x.2.1 + x.2.2.length) := ⟨by omega, by omega, by unfold cntT; omega⟩
  clear h o0 o1 o2 hoW hd hd12 hg hb hBW hB t hk hk2
  obtain ⟨v, r, s⟩ := x
  simp only at *
  have hv0 : (0 : Int) ≤ (v.length : Int) := by omega
  go_enter Try.func12, Try.ntmps12
  go_wp2_with (first | (go_at_call 13; (with_reducible refine (HM0.out _ (HT0.out _)).mono ?_); clear HM0; rintro e w1 ⟨rfl, ⟨b0', p0, q0⟩, t1⟩; have HP0 := Aside0.mk p0; have HQ0 := Aside0.mk q0; have HT1 := Aside0.mk (tr0.then_ (HT0.out _) t1); have HK0 := Aside0.mk (t1.blk (blk_new W _) (fun h => by have := HL0.out _ h; omega)); have hx1 : w1.cell? ⟨W.heap.size, 1, none⟩ = some (.slice A1 r.length c1) := (blk_cell HK0.out 1).trans rfl; have HM1 := Aside0.mk (markII_c (w := w) (x := r) (A := A1) (c := c1) (k + v.length) (owII.tr HO1.out HT1.out (fun b h h' => HD.out.1 b h' h)) (fun b h => HB'.out b (List.mem_append_right _ (List.mem_append_left _ h))) (Tr.bel_ hB0.out HT1.out (fun b h => HB'.out b (List.mem_append_left _ h))) (by omega) (by have := HK.out.1; omega) (Tr.refl _ w1)); clear p0 q0 t1 HO1) | (go_at_call 30; (with_reducible refine HM1.out.mono ?_); clear HM1 hx1; rintro e w2 ⟨rfl, ⟨b1', p1, q1⟩, t2⟩; have HP1 := Aside0.mk p1; have HQ1 := Aside0.mk q1; have HT2 := Aside0.mk t2; have hx2 : w2.cell? ⟨W.heap.size, 2, none⟩ = some (.slice A2 s.length c2) := (blk_cell (t2.blk HK0.out (fun h => by have := HL1.out _ h; omega)) 2).trans rfl; have HM2 := Aside0.mk (markI_c (w := w) (x := s) (A := A2) (c := c2) (k + v.length + cntII r) (owI.tr (owI.tr HO2.out HT1.out (fun b h h' => HD.out.2.1 b h' h)) HT2.out (fun b h h' => HD.out.2.2 b h' h)) (fun b h => HB'.out b (List.mem_append_right _ (List.mem_append_right _ h))) (Tr.bel_ (Tr.bel_ hB0.out HT1.out (fun b h => HB'.out b (List.mem_append_left _ h))) HT2.out (fun b h => HB'.out b (List.mem_append_right _ (List.mem_append_left _ h)))) HG.out.2.2 (by have := HCN.out; omega) HK.out.2.1 (Tr.refl _ w2)); clear p1 q1 t2) | (go_at_call 13; (with_reducible refine HM2.out.mono ?_); clear HM2; rintro e w3 ⟨rfl, ⟨b2', p2, q2⟩, t3⟩; have HP2 := Aside0.mk p2; have HQ2 := Aside0.mk q2; have HT3 := Aside0.mk t3; clear p2 q2 t3))
  go_ret
  have z1 := HT1.out.size
  have z2 := HT2.out.size
  have z3 := HT3.out.size
  have q0 := HQ0.out
  have q1 := HQ1.out
  have q2 := HQ2.out
  have l0 := HL0.out
  have l1 := HL1.out
  have l2 := HL2.out
  have d := HD.out
  rw [al_size] at q0
  have m0 := owI.lt HP0.out
  have m1 := owII.lt HP1.out
  refine ⟨by rw [HK.out.2.2]; rfl, ⟨b0' ++ (b1' ++ b2'), oT.mk (owI.tr (owI.tr HP0.out HT2.out (fun b h h' => ?_)) HT3.out (fun b h h' => ?_)) (owII.tr HP1.out HT3.out (fun b h h' => ?_)) HP2.out (fun b h h' => ?_) (fun b h h' => ?_) (fun b h h' => ?_), fun b h => ?_⟩, ?_⟩
  · rcases q0 b h with h2 | h2
    · exact d.1 b h2 h'
    · have := l1 b h'; omega
  · rcases q0 b h with h2 | h2
    · exact d.2.1 b h2 h'
    · have := l2 b h'; omega
  · rcases q1 b h with h2 | h2
    · exact d.2.2 b h2 h'
    · have := l2 b h'; omega
  · have := m0 b h
    rcases q1 b h' with h3 | h3
    · rcases q0 b h with h2 | h2
      · exact d.1 b h2 h3
      · have := l1 b h3; omega
    · omega
  · have := m0 b h
    rcases q2 b h' with h3 | h3
    · rcases q0 b h with h2 | h2
      · exact d.2.1 b h2 h3
      · have := l2 b h3; omega
    · omega
  · have := m1 b h
    rcases q2 b h' with h3 | h3
    · rcases q1 b h with h2 | h2
      · exact d.2.2 b h2 h3
      · have := l2 b h3; omega
    · omega
  · rcases List.mem_append.1 h with h | h
    · rcases q0 b h with h2 | h2
      · exact .inl (List.mem_append_left _ h2)
      · exact .inr (by omega)
    · rcases List.mem_append.1 h with h | h
      · rcases q1 b h with h2 | h2
        · exact .inl (List.mem_append_right _ (List.mem_append_left _ h2))
        · exact .inr (by omega)
      · rcases q2 b h with h2 | h2
        · exact .inl (List.mem_append_right _ (List.mem_append_right _ h2))
        · exact .inr (by omega)
  · exact Tr.trans (Tr.trans HT1.out HT2.out (T := fun b => b ∈ b0 ++ (b1 ++ b2)) (fun b h => List.mem_append_left _ h) (fun b h _ => List.mem_append_right _ (List.mem_append_left _ h))) HT3.out (fun b h => h) (fun b h _ => List.mem_append_right _ (List.mem_append_right _ h))
theorem RdT.past {W0 W : World} {x : T3} {A0 : Option Addr} {c0 : Nat} {A1 : Option Addr} {c1 : Nat} {A2 : Option Addr} {c2 : Nat} (h : RdT W0 x A0 c0 A1 c1 A2 c2) (t : Below W0.heap.size W0 W) : RdT W x A0 c0 A1 c1 A2 c2 := ⟨h.vars.past t, h.rows.past t, h.wts.past t⟩
theorem szT_r {W0 W : World} {x : T3} {A0 : Option Addr} {c0 : Nat} {A1 : Option Addr} {c1 : Nat} {A2 : Option Addr} {c2 : Nat} {z r : Int} (hr : r = szT x.1 x.2.1 x.2.2 z) (h : RdT W0 x A0 c0 A1 c1 A2 c2) (hz : -1 ≤ z ∧ z ≤ 1048576) (t : tr0 W0 W) :
    Calls Try.prog 5 #[valT x A0 c0 A1 c1 A2 c2, .int .i64 z] W fun e w' => e = .returned (.int .i64 r) ∧ tr0 W w' := by subst hr; exact szT_c h z hz.1 hz.2 t
theorem heldT_r {W0 W : World} {x : T3} {A0 : Option Addr} {c0 : Nat} {A1 : Option Addr} {c1 : Nat} {A2 : Option Addr} {c2 : Nat} {k r : Int} (hr : r = k + cntT x) (h : RdT W0 (mkT k x) A0 c0 A1 c1 A2 c2) (hg : goodT x) (hk : 0 ≤ k ∧ r ≤ 1099511627776) (t : tr0 W0 W) :
    Calls Try.prog 14 #[valT x A0 c0 A1 c1 A2 c2, .int .i64 k] W fun e w' => e = .returned (.int .i64 r) ∧ tr0 W w' := by subst hr; exact heldT_c k h hg hk.1 hk.2 t
theorem markT_r {w : World} {W0 W : World} {x : T3} {A0 : Option Addr} {c0 : Nat} {A1 : Option Addr} {c1 : Nat} {A2 : Option Addr} {c2 : Nat} {bs : List Nat} {k r : Int} (hr : r = k + cntT x) (h : oT W0 x A0 x.1.length c0 A1 x.2.1.length c1 A2 x.2.2.length c2 bs) (hb : ∀ b, b ∈ bs → w.heap.size ≤ b) (hB : Below w.heap.size w W0) (hg : goodT x) (hk : 0 ≤ k ∧ r ≤ 1099511627776) (t : tr0 W0 W) :
    Calls Try.prog 12 #[valT x A0 c0 A1 c1 A2 c2, .int .i64 k] W fun e w' => e = .returned (.int .i64 r) ∧ (∃ bs', oT w' (mkT k x) A0 x.1.length c0 A1 x.2.1.length c1 A2 x.2.2.length c2 bs' ∧ ∀ b, b ∈ bs' → b ∈ bs ∨ W.heap.size ≤ b) ∧ Tr (· ∈ bs) W w' := by subst hr; exact markT_c k h hb hB hg hk.1 hk.2 t
theorem rdn_oT {W W' : World} {x : T3} {A0 : Option Addr} {c0 : Nat} {A1 : Option Addr} {c1 : Nat} {A2 : Option Addr} {c2 : Nat} {bs : List Nat} (o : oT W' x A0 x.1.length c0 A1 x.2.1.length c1 A2 x.2.2.length c2 bs) (g : ∀ b, b ∈ bs → W.heap.size ≤ b) : RdN W W' (fun W9 => RdT W9 x A0 c0 A1 c1 A2 c2) :=
  fun _ h => oT.rd (owT.move o (fun b hb => h b (g b hb) (owT.lt o b hb)))
end Go.Proofs.Ytkohcdddgjaijaa.PT
namespace Go.Proofs.Ytkohcdddgjaijaa.PT
open Go.RowKit Go.Proofs.Ytkohcdddgjaijaa.P Go.Proofs.YtkohcdddgjaijaaW.PrintWords Go.Proofs.Ytkohcdddgjaijaa.EvKit
set_option linter.unusedVariables false
theorem szSS_all : ∀ (l : List (List Int)) (a : Int), 0 ≤ szSS a l → (∀ x, x ∈ l → (x.length : Int) ≤ a) ∧ cntII l ≤ a
  | [], a, h => ⟨fun x hx => by simp at hx, by simpa [cntII, szSS] using h⟩
  | y :: r, a, h => by
    simp only [szSS] at h
    by_cases c : a - (y.length : Int) < 0
    · rw [if_pos c] at h; omega
    · rw [if_neg c] at h
      obtain ⟨h1, h2⟩ := szSS_all r _ h
      refine ⟨fun x hx => ?_, by simp only [cntII]; omega⟩
      rcases List.mem_cons.1 hx with rfl | hx
      · omega
      · have := h1 x hx; omega
theorem szII_all {l : List (List Int)} {a : Int} (h : 0 ≤ szIntSSv l a) : (l.length : Int) ≤ a ∧ (∀ x, x ∈ l → (x.length : Int) ≤ a) ∧ cntII l ≤ a ∧ szIntSSv l a ≤ a := by
  have h4 := szIntSSv_le l a h
  unfold szIntSSv at h
  by_cases c : a - (l.length : Int) < 0
  · rw [if_pos c] at h; omega
  · rw [if_neg c] at h
    obtain ⟨h1, h2⟩ := szSS_all l _ h
    exact ⟨by omega, fun x hx => by have := h1 x hx; omega, by omega, h4.2.1⟩
theorem szT_le5 {x : T3} {a : Int} (h : 0 ≤ szT x.1 x.2.1 x.2.2 a) : szT x.1 x.2.1 x.2.2 a ≤ a := (szT_le h).2.2.2.2
theorem szT_all {x : T3} {a : Int} (h : 0 ≤ szT x.1 x.2.1 x.2.2 a) (ha : a ≤ 1048576) : goodT x ∧ cntT x ≤ 3145728 ∧ 0 ≤ cntT x := by
  obtain ⟨h1, h2, h3, h4, h5⟩ := szT_le h
  have hc : cntII x.2.1 ≤ a := by
    unfold szT at h
    by_cases c1 : a - (x.1.length : Int) < 0
    · rw [if_pos c1] at h; omega
    · rw [if_neg c1] at h
      by_cases c2 : szIntSSv x.2.1 (a - x.1.length) < 0
      · rw [if_pos c2] at h; omega
      · have := (szII_all (l := x.2.1) (a := a - x.1.length) (by omega)).2.2.1
        omega
  have hn := cntII_ge x.2.1
  refine ⟨⟨by unfold goodI; omega, ⟨by omega, fun y hy => by have := h3 y hy; omega⟩, by unfold goodI; omega⟩, ?_, ?_⟩ <;> (unfold cntT; omega)
theorem asc_len : ∀ (l : List Int) (a : Int), asc a l = true → l = [] ∨ (l.length : Int) ≤ 5 - a
  | [], _, _ => .inl rfl
  | v :: r, a, h => by
    simp only [asc, Bool.and_eq_true, decide_eq_true_eq] at h
    right
    rcases asc_len r v h.2 with rfl | h2
    · simp; omega
    · simp only [List.length_cons]; omega
theorem asc_len6 {l : List Int} (h : asc (-1) l = true) : l.length ≤ 6 := by
  rcases asc_len l _ h with rfl | h
  · simp
  · omega
theorem cntII_le {m : Nat} : ∀ (l : List (List Int)), (∀ x, x ∈ l → x.length ≤ m) → cntII l ≤ l.length * m
  | [], _ => by simp [cntII]
  | a :: r, h => by
    have h1 := cntII_le r (fun x hx => h x (List.mem_cons_of_mem _ hx))
    have h2 := h a List.mem_cons_self
    simp only [cntII, List.length_cons]
    rw [Int.natCast_add, Int.add_mul]
    omega
end Go.Proofs.Ytkohcdddgjaijaa.PT
