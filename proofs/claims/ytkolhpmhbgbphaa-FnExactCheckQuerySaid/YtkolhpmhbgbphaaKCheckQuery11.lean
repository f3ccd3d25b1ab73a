/-
  Part 11 of the proof of this: The law FnExactCheckQuery answers true at every argument.
-/
import Derived.Test.YtkolhpmhbgbphaaKCheckQuery1
import Derived.Test.YtkolhpmhbgbphaaKCheckQuery2
import Derived.Test.YtkolhpmhbgbphaaKCheckQuery3
import Derived.Test.YtkolhpmhbgbphaaKCheckQuery7
import Derived.Test.YtkolhpmhbgbphaaKCheckQuery8
import Derived.Test.YtkolhpmhbgbphaaKCheckQuery9
import Derived.Test.YtkolhpmhbgbphaaKCheckQuery10
import Derived.Deep.RegionHeld3
namespace Go.Proofs.Ytkolhpmhbgbphaa.P
open Go.RowKit Go.Proofs.YtkolhpmhbgbphaaW.PrintWords Go.Proofs.YtkolhpmhbgbphaaW.PrintLast Go.Proofs.YtkolhpmhbgbphaaW.PrintMore
attribute [local go_sem] max2_int min2_int max_two min_two max_three min_three max_four min_four
set_option linter.unusedVariables false
set_option linter.unusedSimpArgs false
def laws_eqRelation.f (k : Nat) (a0_0 : ByteArray) (a0_1 : Int) (l0_2 : List (List Int)) (l0_3 : List Int) (a1_0 : ByteArray) (a1_1 : Int) (l1_2 : List (List Int)) (l1_3 : List Int) : Option (Bool) := if a0_0.toList = a1_0.toList then (if a0_1 = a1_1 then ((laws_eqIntSS.f k l0_2 l1_2).bind fun t645 => (if t645 = true then ((laws_eqIntS.f k l0_3 l1_3).bind fun t646 => (if t646 = true then (some true) else (some false))) else (some false))) else (some false)) else (some false)
theorem laws_eqRelation.mono : ∀ a0 a1 a2 a3 a4 a5 a6 a7 k, LeO (laws_eqRelation.f k a0 a1 a2 a3 a4 a5 a6 a7) (laws_eqRelation.f (k + 1) a0 a1 a2 a3 a4 a5 a6 a7) := by
 intro a0 a1 a2 a3 a4 a5 a6 a7 k
 unfold laws_eqRelation.f
 repeat' first
   | (with_reducible exact laws_eqIntS.mono _ _ _)
   | (with_reducible exact laws_eqIntSS.mono _ _ _)
   | (with_reducible exact LeO.refl _)
   | (with_reducible exact LeO.none _)
   | (with_reducible refine LeO.ite ?_ ?_)
   | (with_reducible refine LeO.bind ?_ (fun _ => ?_))
   | exact laws_eqIntS.mono _ _ _
   | exact laws_eqIntSS.mono _ _ _
   | exact LeO.none _
   | refine LeO.ite ?_ ?_
   | refine LeO.bind ?_ (fun _ => ?_)
set_option maxHeartbeats 8000000 in
set_option maxRecDepth 100000 in
theorem laws_eqRelation.calls (k : Nat) (a0_0 : ByteArray) (a0_1 : Int) (A0_2 : Option Addr) (c0_2 : Nat) (l0_2 : List (List Int)) (A0_3 : Option Addr) (c0_3 : Nat) (l0_3 : List Int) (a1_0 : ByteArray) (a1_1 : Int) (A1_2 : Option Addr) (c1_2 : Nat) (l1_2 : List (List Int)) (A1_3 : Option Addr) (c1_3 : Nat) (l1_3 : List Int) (r : Bool) (w : World) (hr0_2 : Kd.C (Kd.slice 3 (Kd.int .i64)) w A0_2 l0_2.length l0_2) (hc0_2 : l0_2.length ≤ c0_2) (hr0_3 : Kd.C (Kd.int .i64) w A0_3 l0_3.length l0_3) (hc0_3 : l0_3.length ≤ c0_3) (hr1_2 : Kd.C (Kd.slice 3 (Kd.int .i64)) w A1_2 l1_2.length l1_2) (hc1_2 : l1_2.length ≤ c1_2) (hr1_3 : Kd.C (Kd.int .i64) w A1_3 l1_3.length l1_3) (hc1_3 : l1_3.length ≤ c1_3) (h : laws_eqRelation.f k a0_0 a0_1 l0_2 l0_3 a1_0 a1_1 l1_2 l1_3 = some r) :
  Calls Try.prog 174 #[.agg #[.string a0_0, .int .i64 a0_1, .slice A0_2 l0_2.length c0_2, .slice A0_3 l0_3.length c0_3], .agg #[.string a1_0, .int .i64 a1_1, .slice A1_2 l1_2.length c1_2, .slice A1_3 l1_3.length c1_3]] w fun e w' => e = .returned (.bool r) ∧ Below w.heap.size w w' := by
 have hu151 := Try.underlying151
 have HR0_2 := Aside0.mk hr0_2
 have HC0_2 := Aside0.mk hc0_2
 clear hr0_2 hc0_2
 have HR0_3 := Aside0.mk hr0_3
 have HC0_3 := Aside0.mk hc0_3
 clear hr0_3 hc0_3
 have HR1_2 := Aside0.mk hr1_2
 have HC1_2 := Aside0.mk hc1_2
 clear hr1_2 hc1_2
 have HR1_3 := Aside0.mk hr1_3
 have HC1_3 := Aside0.mk hc1_3
 clear hr1_3 hc1_3
 have HB := Aside0.mk (Below.refl w.heap.size w)
 have H : (if a0_0.toList = a1_0.toList then (if a0_1 = a1_1 then ((laws_eqIntSS.f k l0_2 l1_2).bind fun t645 => (if t645 = true then ((laws_eqIntS.f k l0_3 l1_3).bind fun t646 => (if t646 = true then (some true) else (some false))) else (some false))) else (some false)) else (some false)) = some r := h
 clear h
 by_cases c3 : a0_0.toList = a1_0.toList
 ·rw [if_pos c3] at H
  have c3b0 : (a0_0.toList == a1_0.toList) = true := beq_iff_eq.mpr c3
  have c3b1 : (a0_0.toList != a1_0.toList) = false := bne_eq_false_iff_eq.mpr c3
  clear c3
  by_cases c4 : a0_1 = a1_1
  ·rw [if_pos c4] at H
   have c4b0 : (a0_1 == a1_1) = true := beq_iff_eq.mpr c4
   have c4b1 : (a0_1 != a1_1) = false := bne_eq_false_iff_eq.mpr c4
   clear c4
   replace H := Option.bind_eq_some_iff.mp H
   obtain ⟨t645, A50, H⟩ := H
   replace H : (if t645 = true then ((laws_eqIntS.f k l0_3 l1_3).bind fun t646 => (if t646 = true then (some true) else (some false))) else (some false)) = some r := H
   have A5 := Aside0.mk A50
   clear A50
   by_cases c6 : t645 = true
   ·subst c6
    have H1 : ((laws_eqIntS.f k l0_3 l1_3).bind fun t646 => (if t646 = true then (some true) else (some false))) = some r := by rw [if_pos rfl] at H; exact H
    clear H
    have H := H1
    clear H1
    replace H := Option.bind_eq_some_iff.mp H
    obtain ⟨t646, A70, H⟩ := H
    replace H : (if t646 = true then (some true) else (some false)) = some r := H
    have A7 := Aside0.mk A70
    clear A70
    by_cases c8 : t646 = true
    ·subst c8
     have H1 : (some true) = some r := by rw [if_pos rfl] at H; exact H
     clear H
     have H := H1
     clear H1
     obtain rfl := Option.some.inj H
     go_enter Try.func174, Try.ntmps174
     go_wp2_with (first | ((with_reducible refine gate_dst (N := 2) rfl ?_); refine box_event ?hg (N := 2) ?hd (cs := #[.string a0_0, .int .i64 a0_1, .slice A0_2 l0_2.length c0_2, .slice A0_3 l0_3.length c0_3]) (t := 151) ?hr ?_; (case hd => rfl); (case hg => rfl); (case hr => first | (go_simp; done) | (go_simp; rfl)); intro gb643 hg w9 hbox hb; have n0_ := Aside0.mk (below_step (by repeat (first | (with_reducible first | exact HB.out | apply below_alloc | apply pw_below_drewN | apply below_drew1) | exact HB.out)) hb); have n1_ := Aside0.mk (hbox); have n2_ := Aside0.mk ((by rw [hg]; exact (below_size (by repeat (first | (with_reducible first | exact HB.out | apply below_alloc | apply pw_below_drewN | apply below_drew1) | exact HB.out))) : w.heap.size ≤ gb643)); have n3_ := Aside0.mk ((by rw [hg]; exact (below_size (by repeat (first | (with_reducible first | exact HB.out | apply below_alloc | apply pw_below_drewN | apply below_drew1) | exact HB.out))) : w.heap.size ≤ gb643)); clear HB; have HB := n0_; have BK643 := n1_; have GW643 := n2_; have GE643 := n3_; clear n0_ n1_ n2_ n3_; clear hb hbox hg) | ((with_reducible refine gate_dst (N := 3) rfl ?_); refine box_event ?hg (N := 3) ?hd (cs := #[.string a1_0, .int .i64 a1_1, .slice A1_2 l1_2.length c1_2, .slice A1_3 l1_3.length c1_3]) (t := 151) ?hr ?_; (case hd => rfl); (case hg => rfl); (case hr => first | (go_simp; done) | (go_simp; rfl)); intro gb644 hg w10 hbox hb; have n0_ := Aside0.mk (blk_below (g := gb643) (o := .cells #[.string a0_0, .int .i64 a0_1, .slice A0_2 l0_2.length c0_2, .slice A0_3 l0_3.length c0_3] 151 (0, 0)) (by (with_reducible repeat (first | refine blk_drewN ?_ _ | refine blk_drew ?_ | refine blk_alloc ?_ _)); exact BK643.out) hb); have n1_ := Aside0.mk (below_step (by repeat (first | (with_reducible first | exact HB.out | apply below_alloc | apply pw_below_drewN | apply below_drew1 | refine below_set ?_ GE643.out) | exact HB.out)) hb); have n2_ := Aside0.mk (hbox); have n3_ := Aside0.mk ((by rw [hg]; exact (below_size (by repeat (first | (with_reducible first | exact HB.out | apply below_alloc | apply pw_below_drewN | apply below_drew1 | refine below_set ?_ GE643.out) | exact HB.out))) : w.heap.size ≤ gb644)); have n4_ := Aside0.mk ((by rw [hg]; exact (below_size (by repeat (first | (with_reducible first | exact HB.out | apply below_alloc | apply pw_below_drewN | apply below_drew1 | refine below_set ?_ GE643.out) | exact HB.out))) : w.heap.size ≤ gb644)); have n5_ := Aside0.mk ((by rw [hg]; exact Nat.ne_of_lt (blk_lt (g := gb643) (o := .cells #[.string a0_0, .int .i64 a0_1, .slice A0_2 l0_2.length c0_2, .slice A0_3 l0_3.length c0_3] 151 (0, 0)) (by (with_reducible repeat (first | refine blk_drewN ?_ _ | refine blk_drew ?_ | refine blk_alloc ?_ _)); exact BK643.out)) : gb643 ≠ gb644)); have n6_ := Aside0.mk ((by rw [hg]; exact Nat.ne_of_gt (blk_lt (g := gb643) (o := .cells #[.string a0_0, .int .i64 a0_1, .slice A0_2 l0_2.length c0_2, .slice A0_3 l0_3.length c0_3] 151 (0, 0)) (by (with_reducible repeat (first | refine blk_drewN ?_ _ | refine blk_drew ?_ | refine blk_alloc ?_ _)); exact BK643.out)) : gb644 ≠ gb643)); clear BK643; clear HB; have BK643 := n0_; have HB := n1_; have BK644 := n2_; have GW644 := n3_; have GE644 := n4_; have NB643_644 := n5_; have NB644_643 := n6_; clear n0_ n1_ n2_ n3_ n4_ n5_ n6_; clear hb hbox hg; have hnb11 := NB643_644.out; have hnc11 := NB644_643.out; have hcz12_0 : w10.cell? ⟨gb643, 0, none⟩ = some (.string a0_0) := (blk_cell BK643.out 0).trans rfl; have hcz12_1 : w10.cell? ⟨gb643, 1, none⟩ = some (.int .i64 a0_1) := (blk_cell BK643.out 1).trans rfl; have hcz12_2 : w10.cell? ⟨gb643, 2, none⟩ = some (.slice A0_2 l0_2.length c0_2) := (blk_cell BK643.out 2).trans rfl; have hcz12_3 : w10.cell? ⟨gb643, 3, none⟩ = some (.slice A0_3 l0_3.length c0_3) := (blk_cell BK643.out 3).trans rfl; have hfz12_0 := blk_frozen BK643.out 0; have hfz12_1 := blk_frozen BK643.out 1; have hfz12_2 := blk_frozen BK643.out 2; have hfz12_3 := blk_frozen BK643.out 3; have hcz13_0 : w10.cell? ⟨gb644, 0, none⟩ = some (.string a1_0) := (blk_cell BK644.out 0).trans rfl; have hcz13_1 : w10.cell? ⟨gb644, 1, none⟩ = some (.int .i64 a1_1) := (blk_cell BK644.out 1).trans rfl; have hcz13_2 : w10.cell? ⟨gb644, 2, none⟩ = some (.slice A1_2 l1_2.length c1_2) := (blk_cell BK644.out 2).trans rfl; have hcz13_3 : w10.cell? ⟨gb644, 3, none⟩ = some (.slice A1_3 l1_3.length c1_3) := (blk_cell BK644.out 3).trans rfl; have hfz13_0 := blk_frozen BK644.out 0; have hfz13_1 := blk_frozen BK644.out 1; have hfz13_2 := blk_frozen BK644.out 2; have hfz13_3 := blk_frozen BK644.out 3) | ((with_reducible refine gate_callee (f := 17) rfl ?_); refine goesL_ (some 19) rfl rfl Try.func17 (by kernel_rfl) rfl #[.slice A0_2 l0_2.length c0_2, .slice A1_2 l1_2.length c1_2] rfl (by (try simp only [List.map_toArray, List.map_cons, List.map_nil]); first | done | rfl | (simp only [List.length_drop, List.length_take]; rfl)) ?_; (with_reducible refine (laws_eqIntSS.calls k _ _ l0_2 _ _ l1_2 true _ ?side1 ?side2 ?side3 ?side4 A5.out).mono ?_); (case side1 => repeat (first | exact (Kd.C_below HR0_2.out HB.out) | (with_reducible refine Kd.C_alloc ?_ _) | (with_reducible refine Kd.C_drewN ?_ _) | (with_reducible refine Kd.C_drew ?_))); (case side2 => exact HC0_2.out); (case side3 => repeat (first | exact (Kd.C_below HR1_2.out HB.out) | (with_reducible refine Kd.C_alloc ?_ _) | (with_reducible refine Kd.C_drewN ?_ _) | (with_reducible refine Kd.C_drew ?_))); (case side4 => exact HC1_2.out); rintro e w' ⟨rfl, ⟨nd, rfl⟩⟩; refine ⟨_, rfl, ?_⟩) | ((with_reducible refine gate_callee (f := 16) rfl ?_); refine goesL_ (some 25) rfl rfl Try.func16 (by kernel_rfl) rfl #[.slice A0_3 l0_3.length c0_3, .slice A1_3 l1_3.length c1_3] rfl (by (try simp only [List.map_toArray, List.map_cons, List.map_nil]); first | done | rfl | (simp only [List.length_drop, List.length_take]; rfl)) ?_; (with_reducible refine (laws_eqIntS.calls k _ _ l0_3 _ _ l1_3 true _ ?side1 ?side2 ?side3 ?side4 A7.out).mono ?_); (case side1 => repeat (first | exact (Kd.C_below HR0_3.out (by repeat (first | (with_reducible first | exact HB.out | apply below_alloc | apply pw_below_drewN | apply below_drew1 | refine below_set ?_ GE643.out | refine below_set ?_ GE644.out) | exact HB.out))) | (with_reducible refine Kd.C_alloc ?_ _) | (with_reducible refine Kd.C_drewN ?_ _) | (with_reducible refine Kd.C_drew ?_))); (case side2 => exact HC0_3.out); (case side3 => repeat (first | exact (Kd.C_below HR1_3.out (by repeat (first | (with_reducible first | exact HB.out | apply below_alloc | apply pw_below_drewN | apply below_drew1 | refine below_set ?_ GE643.out | refine below_set ?_ GE644.out) | exact HB.out))) | (with_reducible refine Kd.C_alloc ?_ _) | (with_reducible refine Kd.C_drewN ?_ _) | (with_reducible refine Kd.C_drew ?_))); (case side4 => exact HC1_3.out); rintro e w' ⟨rfl, ⟨nd, rfl⟩⟩; refine ⟨_, rfl, ?_⟩))
     go_ret
     exact ⟨by first | rfl | (simp [errW_none, errW_some] <;> rfl) | (simp [*, errW_none, errW_some] <;> rfl), by repeat (first | (with_reducible first | exact HB.out | apply below_alloc | apply pw_below_drewN | apply below_drew1 | refine below_set ?_ GE643.out | refine below_set ?_ GE644.out) | exact HB.out)⟩
    ·replace c8 := Bool.eq_false_iff.mpr c8
     subst c8
     have H1 : (some false) = some r := by rw [if_neg (show ¬ (false = true) by decide)] at H; exact H
     clear H
     have H := H1
     clear H1
     obtain rfl := Option.some.inj H
     go_enter Try.func174, Try.ntmps174
     go_wp2_with (first | ((with_reducible refine gate_dst (N := 2) rfl ?_); refine box_event ?hg (N := 2) ?hd (cs := #[.string a0_0, .int .i64 a0_1, .slice A0_2 l0_2.length c0_2, .slice A0_3 l0_3.length c0_3]) (t := 151) ?hr ?_; (case hd => rfl); (case hg => rfl); (case hr => first | (go_simp; done) | (go_simp; rfl)); intro gb643 hg w14 hbox hb; have n0_ := Aside0.mk (below_step (by repeat (first | (with_reducible first | exact HB.out | apply below_alloc | apply pw_below_drewN | apply below_drew1) | exact HB.out)) hb); have n1_ := Aside0.mk (hbox); have n2_ := Aside0.mk ((by rw [hg]; exact (below_size (by repeat (first | (with_reducible first | exact HB.out | apply below_alloc | apply pw_below_drewN | apply below_drew1) | exact HB.out))) : w.heap.size ≤ gb643)); have n3_ := Aside0.mk ((by rw [hg]; exact (below_size (by repeat (first | (with_reducible first | exact HB.out | apply below_alloc | apply pw_below_drewN | apply below_drew1) | exact HB.out))) : w.heap.size ≤ gb643)); clear HB; have HB := n0_; have BK643 := n1_; have GW643 := n2_; have GE643 := n3_; clear n0_ n1_ n2_ n3_; clear hb hbox hg) | ((with_reducible refine gate_dst (N := 3) rfl ?_); refine box_event ?hg (N := 3) ?hd (cs := #[.string a1_0, .int .i64 a1_1, .slice A1_2 l1_2.length c1_2, .slice A1_3 l1_3.length c1_3]) (t := 151) ?hr ?_; (case hd => rfl); (case hg => rfl); (case hr => first | (go_simp; done) | (go_simp; rfl)); intro gb644 hg w15 hbox hb; have n0_ := Aside0.mk (blk_below (g := gb643) (o := .cells #[.string a0_0, .int .i64 a0_1, .slice A0_2 l0_2.length c0_2, .slice A0_3 l0_3.length c0_3] 151 (0, 0)) (by (with_reducible repeat (first | refine blk_drewN ?_ _ | refine blk_drew ?_ | refine blk_alloc ?_ _)); exact BK643.out) hb); have n1_ := Aside0.mk (below_step (by repeat (first | (with_reducible first | exact HB.out | apply below_alloc | apply pw_below_drewN | apply below_drew1 | refine below_set ?_ GE643.out) | exact HB.out)) hb); have n2_ := Aside0.mk (hbox); have n3_ := Aside0.mk ((by rw [hg]; exact (below_size (by repeat (first | (with_reducible first | exact HB.out | apply below_alloc | apply pw_below_drewN | apply below_drew1 | refine below_set ?_ GE643.out) | exact HB.out))) : w.heap.size ≤ gb644)); have n4_ := Aside0.mk ((by rw [hg]; exact (below_size (by repeat (first | (with_reducible first | exact HB.out | apply below_alloc | apply pw_below_drewN | apply below_drew1 | refine below_set ?_ GE643.out) | exact HB.out))) : w.heap.size ≤ gb644)); have n5_ := Aside0.mk ((by rw [hg]; exact Nat.ne_of_lt (blk_lt (g := gb643) (o := .cells #[.string a0_0, .int .i64 a0_1, .slice A0_2 l0_2.length c0_2, .slice A0_3 l0_3.length c0_3] 151 (0, 0)) (by (with_reducible repeat (first | refine blk_drewN ?_ _ | refine blk_drew ?_ | refine blk_alloc ?_ _)); exact BK643.out)) : gb643 ≠ gb644)); have n6_ := Aside0.mk ((by rw [hg]; exact Nat.ne_of_gt (blk_lt (g := gb643) (o := .cells #[.string a0_0, .int .i64 a0_1, .slice A0_2 l0_2.length c0_2, .slice A0_3 l0_3.length c0_3] 151 (0, 0)) (by (with_reducible repeat (first | refine blk_drewN ?_ _ | refine blk_drew ?_ | refine blk_alloc ?_ _)); exact BK643.out)) : gb644 ≠ gb643)); clear BK643; clear HB; have BK643 := n0_; have HB := n1_; have BK644 := n2_; have GW644 := n3_; have GE644 := n4_; have NB643_644 := n5_; have NB644_643 := n6_; clear n0_ n1_ n2_ n3_ n4_ n5_ n6_; clear hb hbox hg; have hnb16 := NB643_644.out; have hnc16 := NB644_643.out; have hcz17_0 : w15.cell? ⟨gb643, 0, none⟩ = some (.string a0_0) := (blk_cell BK643.out 0).trans rfl; have hcz17_1 : w15.cell? ⟨gb643, 1, none⟩ = some (.int .i64 a0_1) := (blk_cell BK643.out 1).trans rfl; have hcz17_2 : w15.cell? ⟨gb643, 2, none⟩ = some (.slice A0_2 l0_2.length c0_2) := (blk_cell BK643.out 2).trans rfl; have hcz17_3 : w15.cell? ⟨gb643, 3, none⟩ = some (.slice A0_3 l0_3.length c0_3) := (blk_cell BK643.out 3).trans rfl; have hfz17_0 := blk_frozen BK643.out 0; have hfz17_1 := blk_frozen BK643.out 1; have hfz17_2 := blk_frozen BK643.out 2; have hfz17_3 := blk_frozen BK643.out 3; have hcz18_0 : w15.cell? ⟨gb644, 0, none⟩ = some (.string a1_0) := (blk_cell BK644.out 0).trans rfl; have hcz18_1 : w15.cell? ⟨gb644, 1, none⟩ = some (.int .i64 a1_1) := (blk_cell BK644.out 1).trans rfl; have hcz18_2 : w15.cell? ⟨gb644, 2, none⟩ = some (.slice A1_2 l1_2.length c1_2) := (blk_cell BK644.out 2).trans rfl; have hcz18_3 : w15.cell? ⟨gb644, 3, none⟩ = some (.slice A1_3 l1_3.length c1_3) := (blk_cell BK644.out 3).trans rfl; have hfz18_0 := blk_frozen BK644.out 0; have hfz18_1 := blk_frozen BK644.out 1; have hfz18_2 := blk_frozen BK644.out 2; have hfz18_3 := blk_frozen BK644.out 3) | ((with_reducible refine gate_callee (f := 17) rfl ?_); refine goesL_ (some 19) rfl rfl Try.func17 (by kernel_rfl) rfl #[.slice A0_2 l0_2.length c0_2, .slice A1_2 l1_2.length c1_2] rfl (by (try simp only [List.map_toArray, List.map_cons, List.map_nil]); first | done | rfl | (simp only [List.length_drop, List.length_take]; rfl)) ?_; (with_reducible refine (laws_eqIntSS.calls k _ _ l0_2 _ _ l1_2 true _ ?side1 ?side2 ?side3 ?side4 A5.out).mono ?_); (case side1 => repeat (first | exact (Kd.C_below HR0_2.out HB.out) | (with_reducible refine Kd.C_alloc ?_ _) | (with_reducible refine Kd.C_drewN ?_ _) | (with_reducible refine Kd.C_drew ?_))); (case side2 => exact HC0_2.out); (case side3 => repeat (first | exact (Kd.C_below HR1_2.out HB.out) | (with_reducible refine Kd.C_alloc ?_ _) | (with_reducible refine Kd.C_drewN ?_ _) | (with_reducible refine Kd.C_drew ?_))); (case side4 => exact HC1_2.out); rintro e w' ⟨rfl, ⟨nd, rfl⟩⟩; refine ⟨_, rfl, ?_⟩) | ((with_reducible refine gate_callee (f := 16) rfl ?_); refine goesL_ (some 25) rfl rfl Try.func16 (by kernel_rfl) rfl #[.slice A0_3 l0_3.length c0_3, .slice A1_3 l1_3.length c1_3] rfl (by (try simp only [List.map_toArray, List.map_cons, List.map_nil]); first | done | rfl | (simp only [List.length_drop, List.length_take]; rfl)) ?_; (with_reducible refine (laws_eqIntS.calls k _ _ l0_3 _ _ l1_3 false _ ?side1 ?side2 ?side3 ?side4 A7.out).mono ?_); (case side1 => repeat (first | exact (Kd.C_below HR0_3.out (by repeat (first | (with_reducible first | exact HB.out | apply below_alloc | apply pw_below_drewN | apply below_drew1 | refine below_set ?_ GE643.out | refine below_set ?_ GE644.out) | exact HB.out))) | (with_reducible refine Kd.C_alloc ?_ _) | (with_reducible refine Kd.C_drewN ?_ _) | (with_reducible refine Kd.C_drew ?_))); (case side2 => exact HC0_3.out); (case side3 => repeat (first | exact (Kd.C_below HR1_3.out (by repeat (first | (with_reducible first | exact HB.out | apply below_alloc | apply pw_below_drewN | apply below_drew1 | refine below_set ?_ GE643.out | refine below_set ?_ GE644.out) | exact HB.out))) | (with_reducible refine Kd.C_alloc ?_ _) | (with_reducible refine Kd.C_drewN ?_ _) | (with_reducible refine Kd.C_drew ?_))); (case side4 => exact HC1_3.out); rintro e w' ⟨rfl, ⟨nd, rfl⟩⟩; refine ⟨_, rfl, ?_⟩))
     go_ret
     exact ⟨by first | rfl | (simp [errW_none, errW_some] <;> rfl) | (simp [*, errW_none, errW_some] <;> rfl), by repeat (first | (with_reducible first | exact HB.out | apply below_alloc | apply pw_below_drewN | apply below_drew1 | refine below_set ?_ GE643.out | refine below_set ?_ GE644.out) | exact HB.out)⟩
   ·replace c6 := Bool.eq_false_iff.mpr c6
    subst c6
    have H1 : (some false) = some r := by rw [if_neg (show ¬ (false = true) by decide)] at H; exact H
    clear H
    have H := H1
    clear H1
    obtain rfl := Option.some.inj H
    go_enter Try.func174, Try.ntmps174
    go_wp2_with (first | ((with_reducible refine gate_dst (N := 2) rfl ?_); refine box_event ?hg (N := 2) ?hd (cs := #[.string a0_0, .int .i64 a0_1, .slice A0_2 l0_2.length c0_2, .slice A0_3 l0_3.length c0_3]) (t := 151) ?hr ?_; (case hd => rfl); (case hg => rfl); (case hr => first | (go_simp; done) | (go_simp; rfl)); intro gb643 hg w19 hbox hb; have n0_ := Aside0.mk (below_step (by repeat (first | (with_reducible first | exact HB.out | apply below_alloc | apply pw_below_drewN | apply below_drew1) | exact HB.out)) hb); have n1_ := Aside0.mk (hbox); have n2_ := Aside0.mk ((by rw [hg]; exact (below_size (by repeat (first | (with_reducible first | exact HB.out | apply below_alloc | apply pw_below_drewN | apply below_drew1) | exact HB.out))) : w.heap.size ≤ gb643)); have n3_ := Aside0.mk ((by rw [hg]; exact (below_size (by repeat (first | (with_reducible first | exact HB.out | apply below_alloc | apply pw_below_drewN | apply below_drew1) | exact HB.out))) : w.heap.size ≤ gb643)); clear HB; have HB := n0_; have BK643 := n1_; have GW643 := n2_; have GE643 := n3_; clear n0_ n1_ n2_ n3_; clear hb hbox hg) | ((with_reducible refine gate_dst (N := 3) rfl ?_); refine box_event ?hg (N := 3) ?hd (cs := #[.string a1_0, .int .i64 a1_1, .slice A1_2 l1_2.length c1_2, .slice A1_3 l1_3.length c1_3]) (t := 151) ?hr ?_; (case hd => rfl); (case hg => rfl); (case hr => first | (go_simp; done) | (go_simp; rfl)); intro gb644 hg w20 hbox hb; have n0_ := Aside0.mk (blk_below (g := gb643) (o := .cells #[.string a0_0, .int .i64 a0_1, .slice A0_2 l0_2.length c0_2, .slice A0_3 l0_3.length c0_3] 151 (0, 0)) (by (with_reducible repeat (first | refine blk_drewN ?_ _ | refine blk_drew ?_ | refine blk_alloc ?_ _)); exact BK643.out) hb); have n1_ := Aside0.mk (below_step (by repeat (first | (with_reducible first | exact HB.out | apply below_alloc | apply pw_below_drewN | apply below_drew1 | refine below_set ?_ GE643.out) | exact HB.out)) hb); have n2_ := Aside0.mk (hbox); have n3_ := Aside0.mk ((by rw [hg]; exact (below_size (by repeat (first | (with_reducible first | exact HB.out | apply below_alloc | apply pw_below_drewN | apply below_drew1 | refine below_set ?_ GE643.out) | exact HB.out))) : w.heap.size ≤ gb644)); have n4_ := Aside0.mk ((by rw [hg]; exact (below_size (by repeat (first | (with_reducible first | exact HB.out | apply below_alloc | apply pw_below_drewN | apply below_drew1 | refine below_set ?_ GE643.out) | exact HB.out))) : w.heap.size ≤ gb644)); have n5_ := Aside0.mk ((by rw [hg]; exact Nat.ne_of_lt (blk_lt (g := gb643) (o := .cells #[.string a0_0, .int .i64 a0_1, .slice A0_2 l0_2.length c0_2, .slice A0_3 l0_3.length c0_3] 151 (0, 0)) (by (with_reducible repeat (first | refine blk_drewN ?_ _ | refine blk_drew ?_ | refine blk_alloc ?_ _)); exact BK643.out)) : gb643 ≠ gb644)); have n6_ := Aside0.mk ((by rw [hg]; exact Nat.ne_of_gt (blk_lt (g := gb643) (o := .cells #[.string a0_0, .int .i64 a0_1, .slice A0_2 l0_2.length c0_2, .slice A0_3 l0_3.length c0_3] 151 (0, 0)) (by (with_reducible repeat (first | refine blk_drewN ?_ _ | refine blk_drew ?_ | refine blk_alloc ?_ _)); exact BK643.out)) : gb644 ≠ gb643)); clear BK643; clear HB; have BK643 := n0_; have HB := n1_; have BK644 := n2_; have GW644 := n3_; have GE644 := n4_; have NB643_644 := n5_; have NB644_643 := n6_; clear n0_ n1_ n2_ n3_ n4_ n5_ n6_; clear hb hbox hg; have hnb21 := NB643_644.out; have hnc21 := NB644_643.out; have hcz22_0 : w20.cell? ⟨gb643, 0, none⟩ = some (.string a0_0) := (blk_cell BK643.out 0).trans rfl; have hcz22_1 : w20.cell? ⟨gb643, 1, none⟩ = some (.int .i64 a0_1) := (blk_cell BK643.out 1).trans rfl; have hcz22_2 : w20.cell? ⟨gb643, 2, none⟩ = some (.slice A0_2 l0_2.length c0_2) := (blk_cell BK643.out 2).trans rfl; have hcz22_3 : w20.cell? ⟨gb643, 3, none⟩ = some (.slice A0_3 l0_3.length c0_3) := (blk_cell BK643.out 3).trans rfl; have hfz22_0 := blk_frozen BK643.out 0; have hfz22_1 := blk_frozen BK643.out 1; have hfz22_2 := blk_frozen BK643.out 2; have hfz22_3 := blk_frozen BK643.out 3; have hcz23_0 : w20.cell? ⟨gb644, 0, none⟩ = some (.string a1_0) := (blk_cell BK644.out 0).trans rfl; have hcz23_1 : w20.cell? ⟨gb644, 1, none⟩ = some (.int .i64 a1_1) := (blk_cell BK644.out 1).trans rfl; have hcz23_2 : w20.cell? ⟨gb644, 2, none⟩ = some (.slice A1_2 l1_2.length c1_2) := (blk_cell BK644.out 2).trans rfl; have hcz23_3 : w20.cell? ⟨gb644, 3, none⟩ = some (.slice A1_3 l1_3.length c1_3) := (blk_cell BK644.out 3).trans rfl; have hfz23_0 := blk_frozen BK644.out 0; have hfz23_1 := blk_frozen BK644.out 1; have hfz23_2 := blk_frozen BK644.out 2; have hfz23_3 := blk_frozen BK644.out 3) | ((with_reducible refine gate_callee (f := 17) rfl ?_); refine goesL_ (some 19) rfl rfl Try.func17 (by kernel_rfl) rfl #[.slice A0_2 l0_2.length c0_2, .slice A1_2 l1_2.length c1_2] rfl (by (try simp only [List.map_toArray, List.map_cons, List.map_nil]); first | done | rfl | (simp only [List.length_drop, List.length_take]; rfl)) ?_; (with_reducible refine (laws_eqIntSS.calls k _ _ l0_2 _ _ l1_2 false _ ?side1 ?side2 ?side3 ?side4 A5.out).mono ?_); (case side1 => repeat (first | exact (Kd.C_below HR0_2.out HB.out) | (with_reducible refine Kd.C_alloc ?_ _) | (with_reducible refine Kd.C_drewN ?_ _) | (with_reducible refine Kd.C_drew ?_))); (case side2 => exact HC0_2.out); (case side3 => repeat (first | exact (Kd.C_below HR1_2.out HB.out) | (with_reducible refine Kd.C_alloc ?_ _) | (with_reducible refine Kd.C_drewN ?_ _) | (with_reducible refine Kd.C_drew ?_))); (case side4 => exact HC1_2.out); rintro e w' ⟨rfl, ⟨nd, rfl⟩⟩; refine ⟨_, rfl, ?_⟩))
    go_ret
    exact ⟨by first | rfl | (simp [errW_none, errW_some] <;> rfl) | (simp [*, errW_none, errW_some] <;> rfl), by repeat (first | (with_reducible first | exact HB.out | apply below_alloc | apply pw_below_drewN | apply below_drew1 | refine below_set ?_ GE643.out | refine below_set ?_ GE644.out) | exact HB.out)⟩
  ·rw [if_neg c4] at H
   have c4b0 : (a0_1 == a1_1) = false := beq_eq_false_iff_ne.mpr c4
   have c4b1 : (a0_1 != a1_1) = true := bne_iff_ne.mpr c4
   obtain rfl := Option.some.inj H
   go_enter Try.func174, Try.ntmps174
   go_wp2_with (first | ((with_reducible refine gate_dst (N := 2) rfl ?_); refine box_event ?hg (N := 2) ?hd (cs := #[.string a0_0, .int .i64 a0_1, .slice A0_2 l0_2.length c0_2, .slice A0_3 l0_3.length c0_3]) (t := 151) ?hr ?_; (case hd => rfl); (case hg => rfl); (case hr => first | (go_simp; done) | (go_simp; rfl)); intro gb643 hg w24 hbox hb; have n0_ := Aside0.mk (below_step (by repeat (first | (with_reducible first | exact HB.out | apply below_alloc | apply pw_below_drewN | apply below_drew1) | exact HB.out)) hb); have n1_ := Aside0.mk (hbox); have n2_ := Aside0.mk ((by rw [hg]; exact (below_size (by repeat (first | (with_reducible first | exact HB.out | apply below_alloc | apply pw_below_drewN | apply below_drew1) | exact HB.out))) : w.heap.size ≤ gb643)); have n3_ := Aside0.mk ((by rw [hg]; exact (below_size (by repeat (first | (with_reducible first | exact HB.out | apply below_alloc | apply pw_below_drewN | apply below_drew1) | exact HB.out))) : w.heap.size ≤ gb643)); clear HB; have HB := n0_; have BK643 := n1_; have GW643 := n2_; have GE643 := n3_; clear n0_ n1_ n2_ n3_; clear hb hbox hg) | ((with_reducible refine gate_dst (N := 3) rfl ?_); refine box_event ?hg (N := 3) ?hd (cs := #[.string a1_0, .int .i64 a1_1, .slice A1_2 l1_2.length c1_2, .slice A1_3 l1_3.length c1_3]) (t := 151) ?hr ?_; (case hd => rfl); (case hg => rfl); (case hr => first | (go_simp; done) | (go_simp; rfl)); intro gb644 hg w25 hbox hb; have n0_ := Aside0.mk (blk_below (g := gb643) (o := .cells #[.string a0_0, .int .i64 a0_1, .slice A0_2 l0_2.length c0_2, .slice A0_3 l0_3.length c0_3] 151 (0, 0)) (by (with_reducible repeat (first | refine blk_drewN ?_ _ | refine blk_drew ?_ | refine blk_alloc ?_ _)); exact BK643.out) hb); have n1_ := Aside0.mk (below_step (by repeat (first | (with_reducible first | exact HB.out | apply below_alloc | apply pw_below_drewN | apply below_drew1 | refine below_set ?_ GE643.out) | exact HB.out)) hb); have n2_ := Aside0.mk (hbox); have n3_ := Aside0.mk ((by rw [hg]; exact (below_size (by repeat (first | (with_reducible first | exact HB.out | apply below_alloc | apply pw_below_drewN | apply below_drew1 | refine below_set ?_ GE643.out) | exact HB.out))) : w.heap.size ≤ gb644)); have n4_ := Aside0.mk ((by rw [hg]; exact (below_size (by repeat (first | (with_reducible first | exact HB.out | apply below_alloc | apply pw_below_drewN | apply below_drew1 | refine below_set ?_ GE643.out) | exact HB.out))) : w.heap.size ≤ gb644)); have n5_ := Aside0.mk ((by rw [hg]; exact Nat.ne_of_lt (blk_lt (g := gb643) (o := .cells #[.string a0_0, .int .i64 a0_1, .slice A0_2 l0_2.length c0_2, .slice A0_3 l0_3.length c0_3] 151 (0, 0)) (by (with_reducible repeat (first | refine blk_drewN ?_ _ | refine blk_drew ?_ | refine blk_alloc ?_ _)); exact BK643.out)) : gb643 ≠ gb644)); have n6_ := Aside0.mk ((by rw [hg]; exact Nat.ne_of_gt (blk_lt (g := gb643) (o := .cells #[.string a0_0, .int .i64 a0_1, .slice A0_2 l0_2.length c0_2, .slice A0_3 l0_3.length c0_3] 151 (0, 0)) (by (with_reducible repeat (first | refine blk_drewN ?_ _ | refine blk_drew ?_ | refine blk_alloc ?_ _)); exact BK643.out)) : gb644 ≠ gb643)); clear BK643; clear HB; have BK643 := n0_; have HB := n1_; have BK644 := n2_; have GW644 := n3_; have GE644 := n4_; have NB643_644 := n5_; have NB644_643 := n6_; clear n0_ n1_ n2_ n3_ n4_ n5_ n6_; clear hb hbox hg; have hnb26 := NB643_644.out; have hnc26 := NB644_643.out; have hcz27_0 : w25.cell? ⟨gb643, 0, none⟩ = some (.string a0_0) := (blk_cell BK643.out 0).trans rfl; have hcz27_1 : w25.cell? ⟨gb643, 1, none⟩ = some (.int .i64 a0_1) := (blk_cell BK643.out 1).trans rfl; have hcz27_2 : w25.cell? ⟨gb643, 2, none⟩ = some (.slice A0_2 l0_2.length c0_2) := (blk_cell BK643.out 2).trans rfl; have hcz27_3 : w25.cell? ⟨gb643, 3, none⟩ = some (.slice A0_3 l0_3.length c0_3) := (blk_cell BK643.out 3).trans rfl; have hfz27_0 := blk_frozen BK643.out 0; have hfz27_1 := blk_frozen BK643.out 1; have hfz27_2 := blk_frozen BK643.out 2; have hfz27_3 := blk_frozen BK643.out 3; have hcz28_0 : w25.cell? ⟨gb644, 0, none⟩ = some (.string a1_0) := (blk_cell BK644.out 0).trans rfl; have hcz28_1 : w25.cell? ⟨gb644, 1, none⟩ = some (.int .i64 a1_1) := (blk_cell BK644.out 1).trans rfl; have hcz28_2 : w25.cell? ⟨gb644, 2, none⟩ = some (.slice A1_2 l1_2.length c1_2) := (blk_cell BK644.out 2).trans rfl; have hcz28_3 : w25.cell? ⟨gb644, 3, none⟩ = some (.slice A1_3 l1_3.length c1_3) := (blk_cell BK644.out 3).trans rfl; have hfz28_0 := blk_frozen BK644.out 0; have hfz28_1 := blk_frozen BK644.out 1; have hfz28_2 := blk_frozen BK644.out 2; have hfz28_3 := blk_frozen BK644.out 3))
   go_ret
   exact ⟨by first | rfl | (simp [errW_none, errW_some] <;> rfl) | (simp [*, errW_none, errW_some] <;> rfl), by repeat (first | (with_reducible first | exact HB.out | apply below_alloc | apply pw_below_drewN | apply below_drew1 | refine below_set ?_ GE643.out | refine below_set ?_ GE644.out) | exact HB.out)⟩
 ·rw [if_neg c3] at H
  have c3b0 : (a0_0.toList == a1_0.toList) = false := beq_eq_false_iff_ne.mpr c3
  have c3b1 : (a0_0.toList != a1_0.toList) = true := bne_iff_ne.mpr c3
  obtain rfl := Option.some.inj H
  go_enter Try.func174, Try.ntmps174
  go_wp2_with (first | ((with_reducible refine gate_dst (N := 2) rfl ?_); refine box_event ?hg (N := 2) ?hd (cs := #[.string a0_0, .int .i64 a0_1, .slice A0_2 l0_2.length c0_2, .slice A0_3 l0_3.length c0_3]) (t := 151) ?hr ?_; (case hd => rfl); (case hg => rfl); (case hr => first | (go_simp; done) | (go_simp; rfl)); intro gb643 hg w29 hbox hb; have n0_ := Aside0.mk (below_step (by repeat (first | (with_reducible first | exact HB.out | apply below_alloc | apply pw_below_drewN | apply below_drew1) | exact HB.out)) hb); have n1_ := Aside0.mk (hbox); have n2_ := Aside0.mk ((by rw [hg]; exact (below_size (by repeat (first | (with_reducible first | exact HB.out | apply below_alloc | apply pw_below_drewN | apply below_drew1) | exact HB.out))) : w.heap.size ≤ gb643)); have n3_ := Aside0.mk ((by rw [hg]; exact (below_size (by repeat (first | (with_reducible first | exact HB.out | apply below_alloc | apply pw_below_drewN | apply below_drew1) | exact HB.out))) : w.heap.size ≤ gb643)); clear HB; have HB := n0_; have BK643 := n1_; have GW643 := n2_; have GE643 := n3_; clear n0_ n1_ n2_ n3_; clear hb hbox hg) | ((with_reducible refine gate_dst (N := 3) rfl ?_); refine box_event ?hg (N := 3) ?hd (cs := #[.string a1_0, .int .i64 a1_1, .slice A1_2 l1_2.length c1_2, .slice A1_3 l1_3.length c1_3]) (t := 151) ?hr ?_; (case hd => rfl); (case hg => rfl); (case hr => first | (go_simp; done) | (go_simp; rfl)); intro gb644 hg w30 hbox hb; have n0_ := Aside0.mk (blk_below (g := gb643) (o := .cells #[.string a0_0, .int .i64 a0_1, .slice A0_2 l0_2.length c0_2, .slice A0_3 l0_3.length c0_3] 151 (0, 0)) (by (with_reducible repeat (first | refine blk_drewN ?_ _ | refine blk_drew ?_ | refine blk_alloc ?_ _)); exact BK643.out) hb); have n1_ := Aside0.mk (below_step (by repeat (first | (with_reducible first | exact HB.out | apply below_alloc | apply pw_below_drewN | apply below_drew1 | refine below_set ?_ GE643.out) | exact HB.out)) hb); have n2_ := Aside0.mk (hbox); have n3_ := Aside0.mk ((by rw [hg]; exact (below_size (by repeat (first | (with_reducible first | exact HB.out | apply below_alloc | apply pw_below_drewN | apply below_drew1 | refine below_set ?_ GE643.out) | exact HB.out))) : w.heap.size ≤ gb644)); have n4_ := Aside0.mk ((by rw [hg]; exact (below_size (by repeat (first | (with_reducible first | exact HB.out | apply below_alloc | apply pw_below_drewN | apply below_drew1 | refine below_set ?_ GE643.out) | exact HB.out))) : w.heap.size ≤ gb644)); have n5_ := Aside0.mk ((by rw [hg]; exact Nat.ne_of_lt (blk_lt (g := gb643) (o := .cells #[.string a0_0, .int .i64 a0_1, .slice A0_2 l0_2.length c0_2, .slice A0_3 l0_3.length c0_3] 151 (0, 0)) (by (with_reducible repeat (first | refine blk_drewN ?_ _ | refine blk_drew ?_ | refine blk_alloc ?_ _)); exact BK643.out)) : gb643 ≠ gb644)); have n6_ := Aside0.mk ((by rw [hg]; exact Nat.ne_of_gt (blk_lt (g := gb643) (o := .cells #[.string a0_0, .int .i64 a0_1, .slice A0_2 l0_2.length c0_2, .slice A0_3 l0_3.length c0_3] 151 (0, 0)) (by (with_reducible repeat (first | refine blk_drewN ?_ _ | refine blk_drew ?_ | refine blk_alloc ?_ _)); exact BK643.out)) : gb644 ≠ gb643)); clear BK643; clear HB; have BK643 := n0_; have HB := n1_; have BK644 := n2_; have GW644 := n3_; have GE644 := n4_; have NB643_644 := n5_; have NB644_643 := n6_; clear n0_ n1_ n2_ n3_ n4_ n5_ n6_; clear hb hbox hg; have hnb31 := NB643_644.out; have hnc31 := NB644_643.out; have hcz32_0 : w30.cell? ⟨gb643, 0, none⟩ = some (.string a0_0) := (blk_cell BK643.out 0).trans rfl; have hcz32_1 : w30.cell? ⟨gb643, 1, none⟩ = some (.int .i64 a0_1) := (blk_cell BK643.out 1).trans rfl; have hcz32_2 : w30.cell? ⟨gb643, 2, none⟩ = some (.slice A0_2 l0_2.length c0_2) := (blk_cell BK643.out 2).trans rfl; have hcz32_3 : w30.cell? ⟨gb643, 3, none⟩ = some (.slice A0_3 l0_3.length c0_3) := (blk_cell BK643.out 3).trans rfl; have hfz32_0 := blk_frozen BK643.out 0; have hfz32_1 := blk_frozen BK643.out 1; have hfz32_2 := blk_frozen BK643.out 2; have hfz32_3 := blk_frozen BK643.out 3; have hcz33_0 : w30.cell? ⟨gb644, 0, none⟩ = some (.string a1_0) := (blk_cell BK644.out 0).trans rfl; have hcz33_1 : w30.cell? ⟨gb644, 1, none⟩ = some (.int .i64 a1_1) := (blk_cell BK644.out 1).trans rfl; have hcz33_2 : w30.cell? ⟨gb644, 2, none⟩ = some (.slice A1_2 l1_2.length c1_2) := (blk_cell BK644.out 2).trans rfl; have hcz33_3 : w30.cell? ⟨gb644, 3, none⟩ = some (.slice A1_3 l1_3.length c1_3) := (blk_cell BK644.out 3).trans rfl; have hfz33_0 := blk_frozen BK644.out 0; have hfz33_1 := blk_frozen BK644.out 1; have hfz33_2 := blk_frozen BK644.out 2; have hfz33_3 := blk_frozen BK644.out 3))
  go_ret
  exact ⟨by first | rfl | (simp [errW_none, errW_some] <;> rfl) | (simp [*, errW_none, errW_some] <;> rfl), by repeat (first | (with_reducible first | exact HB.out | apply below_alloc | apply pw_below_drewN | apply below_drew1 | refine below_set ?_ GE643.out | refine below_set ?_ GE644.out) | exact HB.out)⟩
end Go.Proofs.Ytkolhpmhbgbphaa.P
namespace Go.Proofs.Ytkolhpmhbgbphaa.P
open Go.RowKit Go.Proofs.YtkolhpmhbgbphaaW.PrintWords Go.Proofs.YtkolhpmhbgbphaaW.PrintLast Go.Proofs.YtkolhpmhbgbphaaW.PrintMore
attribute [local go_sem] max2_int min2_int max_two min_two max_three min_three max_four min_four
set_option linter.unusedVariables false
set_option linter.unusedSimpArgs false
def laws_eqRelationS.l0 : Nat → List (S151) → List (S151) → Int → Option (Bool)
 | 0, _, _, _ => none
 | k + 1, x0, x1, x5 => if x5 < (x0.length : Int) then (if 0 ≤ x5 then (if x5 < (x1.length : Int) then ((laws_eqRelation.f k ((rd_T151 x0 x5).f0) ((rd_T151 x0 x5).f1) ((rd_T151 x0 x5).f2) ((rd_T151 x0 x5).f3) ((rd_T151 x1 x5).f0) ((rd_T151 x1 x5).f1) ((rd_T151 x1 x5).f2) ((rd_T151 x1 x5).f3)).bind fun t649 => (if t649 = true then (laws_eqRelationS.l0 k x0 x1 (wrap64 (x5 + 1))) else (some false))) else (none)) else (none)) else (some true)
def laws_eqRelationS.f (k : Nat) (l0 : List (S151)) (l1 : List (S151)) : Option (Bool) := if (l0.length : Int) = (l1.length : Int) then (laws_eqRelationS.l0 k l0 l1 0) else (some false)
theorem laws_eqRelationS.mono_l : ∀ k, (∀ y0 y1 y2, LeO (laws_eqRelationS.l0 k y0 y1 y2) (laws_eqRelationS.l0 (k + 1) y0 y1 y2))
 | 0 => fun _ _ _ r h => by simp [laws_eqRelationS.l0] at h
 | k + 1 => by
  have ih0 := laws_eqRelationS.mono_l k
  ·intro y0 y1 y2
   unfold laws_eqRelationS.l0
   repeat' first
   | (with_reducible exact ih0 _ _ _)
   | (with_reducible exact laws_eqRelation.mono _ _ _ _ _ _ _ _ _)
   | (with_reducible exact LeO.refl _)
   | (with_reducible exact LeO.none _)
   | (with_reducible refine LeO.ite ?_ ?_)
   | (with_reducible refine LeO.bind ?_ (fun _ => ?_))
   | exact ih0 _ _ _
   | exact laws_eqRelation.mono _ _ _ _ _ _ _ _ _
   | exact LeO.none _
   | refine LeO.ite ?_ ?_
   | refine LeO.bind ?_ (fun _ => ?_)
theorem laws_eqRelationS.mono : ∀ a0 a1 k, LeO (laws_eqRelationS.f k a0 a1) (laws_eqRelationS.f (k + 1) a0 a1) := by
 intro a0 a1 k
 have ih0 := laws_eqRelationS.mono_l k
 unfold laws_eqRelationS.f
 repeat' first
   | (with_reducible exact ih0 _ _ _)
   | (with_reducible exact laws_eqRelation.mono _ _ _ _ _ _ _ _ _)
   | (with_reducible exact LeO.refl _)
   | (with_reducible exact LeO.none _)
   | (with_reducible refine LeO.ite ?_ ?_)
   | (with_reducible refine LeO.bind ?_ (fun _ => ?_))
   | exact ih0 _ _ _
   | exact laws_eqRelation.mono _ _ _ _ _ _ _ _ _
   | exact LeO.none _
   | refine LeO.ite ?_ ?_
   | refine LeO.bind ?_ (fun _ => ?_)
def laws_eqRelationS.T6 : Bool × List (List Nat × List Nat) := (true, [([], []), ([], []), ([0, 1], [0, 1]), ([2], [2]), ([], []), ([], []), ([4, 5], [4, 5]), ([6], [6]), ([3, 7], [3, 7]), ([8], [8])])
def laws_eqRelationS.B6 : List Nat := [0, 0, 3, 7, 0, 0, 48, 112, 255, 511]
theorem laws_eqRelationS.tab6 : rtab .any (opsOf Try.f112 6) = laws_eqRelationS.T6 := by kernel_rfl
theorem laws_eqRelationS.bits6 : waitsOk laws_eqRelationS.T6.2 laws_eqRelationS.B6 = true := by kernel_rfl
set_option maxHeartbeats 8000000 in
set_option maxRecDepth 100000 in
theorem laws_eqRelationS.calls (k : Nat) (A0 : Option Addr) (c0 : Nat) (l0 : List (S151)) (A1 : Option Addr) (c1 : Nat) (l1 : List (S151)) (r : Bool) (w : World) (hr0 : Kd.C k151 w A0 l0.length l0) (hc0 : l0.length ≤ c0) (hr1 : Kd.C k151 w A1 l1.length l1) (hc1 : l1.length ≤ c1) (h : laws_eqRelationS.f k l0 l1 = some r) :
  Calls Try.prog 112 #[.slice A0 l0.length c0, .slice A1 l1.length c1] w fun e w' => e = .returned (.bool r) ∧ Below w.heap.size w w' := by
 have hu151 := Try.underlying151
 have HR0 := Aside0.mk hr0
 have HC0 := Aside0.mk hc0
 clear hr0 hc0
 have HR1 := Aside0.mk hr1
 have HC1 := Aside0.mk hc1
 clear hr1 hc1
 have HB := Aside0.mk (Below.refl w.heap.size w)
 have H : (if (l0.length : Int) = (l1.length : Int) then (laws_eqRelationS.l0 k l0 l1 0) else (some false)) = some r := h
 clear h
 by_cases c3 : (l0.length : Int) = (l1.length : Int)
 ·rw [if_pos c3] at H
  have c3b0 : ((l0.length : Int) == (l1.length : Int)) = true := beq_iff_eq.mpr c3
  have c3b1 : ((l0.length : Int) != (l1.length : Int)) = false := bne_eq_false_iff_eq.mpr c3
  have c3b2 : (l0.length == l1.length) = true := by first | simpa using c3 | (simp at c3 ⊢; omega)
  clear c3
  have H' := Aside0.mk H
  clear H
  go_enter Try.func112, Try.ntmps112
  go_wp2
  go_loopg [5] k (fun kq v5 w' => ∃ (x5_1 : Int), v5 = .int .i64 x5_1 ∧ Aside0 (laws_eqRelationS.l0 kq l0 l1 x5_1 = some r) ∧ Aside0 (kq ≤ k) ∧ Aside0 (Below w.heap.size w w'))
  case atStart => exact ⟨(0), (by first | rfl | (simp; done) | (simp [*]; done)), H', ⟨Nat.le_refl _⟩, ⟨by repeat (first | (with_reducible first | exact HB.out | apply below_alloc | apply pw_below_drewN | apply below_drew1) | exact HB.out)⟩⟩
  case round =>
   clear H'
   try clear c1
   try clear p2
   try clear c3
   try clear c3b0
   try clear c3b1
   try clear c3b2
   obtain ⟨x5_1, rfl, HA, HK1, HB⟩ := hrel
   cases gk with
   | zero => exact absurd HA.out (by simp [laws_eqRelationS.l0])
   | succ k1 =>
    have H := HA.out
    clear HA
    simp only [laws_eqRelationS.l0] at H
    by_cases c4 : x5_1 < (l0.length : Int)
    ·rw [if_pos c4] at H
     have c4b0 : decide (x5_1 < (l0.length : Int)) = true := decide_eq_true c4
     clear c4
     by_cases c5 : 0 ≤ x5_1
     ·rw [if_pos c5] at H
      have c5b0 : decide (0 ≤ x5_1) = true := decide_eq_true c5
      clear c5
      by_cases c6 : x5_1 < (l1.length : Int)
      ·rw [if_pos c6] at H
       have c6b0 : decide (x5_1 < (l1.length : Int)) = true := decide_eq_true c6
       clear c6
       replace H := Option.bind_eq_some_iff.mp H
       obtain ⟨t649, A70, H⟩ := H
       replace H : (if t649 = true then (laws_eqRelationS.l0 k1 l0 l1 (wrap64 (x5_1 + 1))) else (some false)) = some r := H
       have A7 := Aside0.mk A70
       clear A70
       by_cases c8 : t649 = true
       ·subst c8
        have H1 : (laws_eqRelationS.l0 k1 l0 l1 (wrap64 (x5_1 + 1))) = some r := by rw [if_pos rfl] at H; exact H
        clear H
        have H := H1
        clear H1
        have H' := Aside0.mk H
        clear H
        try go_wp2
        have n0_ := Aside0.mk (below_drew1 HB.out)
        clear HB
        have HB := n0_
        clear n0_
        have p647 : 0 ≤ (x5_1 : Int) := of_decide_eq_true (by first | (with_reducible assumption) | assumption)
        have q647 : x5_1 < (l0.length : Int) := of_decide_eq_true (by first | (with_reducible assumption) | assumption)
        obtain ⟨ad647, A647_2, c647_2, A647_3, c647_3, e647, hx647_0, hx647_1, hx647_2, hx647_3, hl647_2, hi647_2, hl647_3, hi647_3⟩ := at_T151 HR0.out x5_1 p647 q647
        have hw647_3 := hx647_3
        have hw647_2 := hx647_2
        have hw647_1 := hx647_1
        have hw647_0 := hx647_0
        cases e647
        replace hx647_0 := (HB.out.cell (World.block_lt_of_cell? w _ hx647_0)).trans hx647_0
        replace hx647_1 := (HB.out.cell (World.block_lt_of_cell? w _ hx647_1)).trans hx647_1
        replace hx647_2 := (HB.out.cell (World.block_lt_of_cell? w _ hx647_2)).trans hx647_2
        replace hx647_3 := (HB.out.cell (World.block_lt_of_cell? w _ hx647_3)).trans hx647_3
        have HR647_2 := Aside0.mk hi647_2
        have HC647_2 := Aside0.mk hl647_2
        clear hi647_2 hl647_2
        have HR647_3 := Aside0.mk hi647_3
        have HC647_3 := Aside0.mk hl647_3
        clear hi647_3 hl647_3
        replace p647 := eq_true p647
        replace q647 := eq_true q647
        have p648 : 0 ≤ (x5_1 : Int) := of_decide_eq_true (by first | (with_reducible assumption) | assumption)
        have q648 : x5_1 < (l1.length : Int) := of_decide_eq_true (by first | (with_reducible assumption) | assumption)
        obtain ⟨ad648, A648_2, c648_2, A648_3, c648_3, e648, hx648_0, hx648_1, hx648_2, hx648_3, hl648_2, hi648_2, hl648_3, hi648_3⟩ := at_T151 HR1.out x5_1 p648 q648
        have hw648_3 := hx648_3
        have hw648_2 := hx648_2
        have hw648_1 := hx648_1
        have hw648_0 := hx648_0
        cases e648
        replace hx648_0 := (HB.out.cell (World.block_lt_of_cell? w _ hx648_0)).trans hx648_0
        replace hx648_1 := (HB.out.cell (World.block_lt_of_cell? w _ hx648_1)).trans hx648_1
        replace hx648_2 := (HB.out.cell (World.block_lt_of_cell? w _ hx648_2)).trans hx648_2
        replace hx648_3 := (HB.out.cell (World.block_lt_of_cell? w _ hx648_3)).trans hx648_3
        have HR648_2 := Aside0.mk hi648_2
        have HC648_2 := Aside0.mk hl648_2
        clear hi648_2 hl648_2
        have HR648_3 := Aside0.mk hi648_3
        have HC648_3 := Aside0.mk hl648_3
        clear hi648_3 hl648_3
        replace p648 := eq_true p648
        replace q648 := eq_true q648
        refine start_ (n := 10) (S := fun w' => w'.cell? (ad647.add ((x5_1).toNat * 4)) = some (.string ((rd_T151 l0 x5_1).f0)) ∧ w'.cell? ⟨(ad647.add ((x5_1).toNat * 4)).block, (ad647.add ((x5_1).toNat * 4)).off + 1, none⟩ = some (.int .i64 ((rd_T151 l0 x5_1).f1)) ∧ w'.cell? ⟨(ad647.add ((x5_1).toNat * 4)).block, (ad647.add ((x5_1).toNat * 4)).off + 2, none⟩ = some (.slice A647_2 ((rd_T151 l0 x5_1).f2).length c647_2) ∧ w'.cell? ⟨(ad647.add ((x5_1).toNat * 4)).block, (ad647.add ((x5_1).toNat * 4)).off + 3, none⟩ = some (.slice A647_3 ((rd_T151 l0 x5_1).f3).length c647_3) ∧ w'.cell? (ad648.add ((x5_1).toNat * 4)) = some (.string ((rd_T151 l1 x5_1).f0)) ∧ w'.cell? ⟨(ad648.add ((x5_1).toNat * 4)).block, (ad648.add ((x5_1).toNat * 4)).off + 1, none⟩ = some (.int .i64 ((rd_T151 l1 x5_1).f1)) ∧ w'.cell? ⟨(ad648.add ((x5_1).toNat * 4)).block, (ad648.add ((x5_1).toNat * 4)).off + 2, none⟩ = some (.slice A648_2 ((rd_T151 l1 x5_1).f2).length c648_2) ∧ w'.cell? ⟨(ad648.add ((x5_1).toNat * 4)).block, (ad648.add ((x5_1).toNat * 4)).off + 3, none⟩ = some (.slice A648_3 ((rd_T151 l1 x5_1).f3).length c648_3)) (ds := []) #[false, false, false, false, false, false, false, false, false, false] (by kernel_rfl) rfl rfl ⟨((HB.out.cell (World.block_lt_of_cell? w _ hw647_0)).trans hw647_0), ((HB.out.cell (World.block_lt_of_cell? w _ hw647_1)).trans hw647_1), ((HB.out.cell (World.block_lt_of_cell? w _ hw647_2)).trans hw647_2), ((HB.out.cell (World.block_lt_of_cell? w _ hw647_3)).trans hw647_3), ((HB.out.cell (World.block_lt_of_cell? w _ hw648_0)).trans hw648_0), ((HB.out.cell (World.block_lt_of_cell? w _ hw648_1)).trans hw648_1), ((HB.out.cell (World.block_lt_of_cell? w _ hw648_2)).trans hw648_2), ((HB.out.cell (World.block_lt_of_cell? w _ hw648_3)).trans hw648_3)⟩ (fun hHeld => ?_); refine with_tabW laws_eqRelationS.tab6 laws_eqRelationS.bits6 (fun HT_ HW_ => ?_)
        generalize wr.drew = w9 at HB HR647_2 HR647_3 HR648_2 HR648_3 hx647_0 hx647_1 hx647_2 hx647_3 hx648_0 hx648_1 hx648_2 hx648_3 hHeld ⊢
        refine pure_ (i := 0) (N := some 17) (v := ?_) (a' := ?_) #[true, false, false, false, false, false, false, false, false, false] rfl rfl (any_of HT_.out (by kernel_rfl)) (fun _ _ _ h => h) (Or.inl ⟨by rfl, ?_⟩) ?_ ?_
        rotate_left
        ·intro w'
         go_simp
         with_reducible rfl
        rotate_left
        ·simp only [Act.put, List.setIfInBounds_toArray, List.set_cons_zero, List.set_cons_succ, i64_w, i32_w]
         rfl
        refine pure_ (i := 1) (N := some 18) (v := ?_) (a' := ?_) #[true, true, false, false, false, false, false, false, false, false] rfl rfl (any_of HT_.out (by kernel_rfl)) (fun _ _ _ h => h) (Or.inl ⟨by rfl, ?_⟩) ?_ ?_
        rotate_left
        ·intro w'
         go_simp
         with_reducible rfl
        rotate_left
        ·simp only [Act.put, List.setIfInBounds_toArray, List.set_cons_zero, List.set_cons_succ, i64_w, i32_w]
         rfl
        refine pure_ (i := 2) (N := some 19) (v := ?_) (a' := ?_) #[true, true, true, false, false, false, false, false, false, false] rfl rfl (any_of HT_.out (by kernel_rfl)) (fun _ _ _ h => h) (Or.inl ⟨by rfl, ?_⟩) ?_ ?_
        rotate_left
        ·intro w'
         go_simp
         with_reducible rfl
        rotate_left
        ·simp only [Act.put, List.setIfInBounds_toArray, List.set_cons_zero, List.set_cons_succ, i64_w, i32_w]
         rfl
        refine pure_ (i := 4) (N := some 21) (v := ?_) (a' := ?_) #[true, true, true, false, true, false, false, false, false, false] rfl rfl (any_of HT_.out (by kernel_rfl)) (fun _ _ _ h => h) (Or.inl ⟨by rfl, ?_⟩) ?_ ?_
        rotate_left
        ·intro w'
         go_simp
         with_reducible rfl
        rotate_left
        ·simp only [Act.put, List.setIfInBounds_toArray, List.set_cons_zero, List.set_cons_succ, i64_w, i32_w]
         rfl
        refine pure_ (i := 5) (N := some 22) (v := ?_) (a' := ?_) #[true, true, true, false, true, true, false, false, false, false] rfl rfl (any_of HT_.out (by kernel_rfl)) (fun _ _ _ h => h) (Or.inl ⟨by rfl, ?_⟩) ?_ ?_
        rotate_left
        ·intro w'
         go_simp
         with_reducible rfl
        rotate_left
        ·simp only [Act.put, List.setIfInBounds_toArray, List.set_cons_zero, List.set_cons_succ, i64_w, i32_w]
         rfl
        refine pure_ (i := 6) (N := some 23) (v := ?_) (a' := ?_) #[true, true, true, false, true, true, true, false, false, false] rfl rfl (any_of HT_.out (by kernel_rfl)) (fun _ _ _ h => h) (Or.inl ⟨by rfl, ?_⟩) ?_ ?_
        rotate_left
        ·intro w'
         go_simp
         with_reducible rfl
        rotate_left
        ·simp only [Act.put, List.setIfInBounds_toArray, List.set_cons_zero, List.set_cons_succ, i64_w, i32_w]
         rfl
        refine take_ (i := 3) (N := some 20) (v := ?_) (a' := ?_) #[true, true, true, true, true, true, true, false, false, false] rfl rfl (take_ofW HT_.out HW_.out (by kernel_rfl)) (fun _ _ _ h => h) (Or.inl ⟨by rfl, ?_⟩) hHeld ?_ ?_
        rotate_left
        ·rintro w' ⟨s0, s1, s2, s3, s4, s5, s6, s7⟩
         go_simp
         with_reducible rfl
        rotate_left
        ·simp only [Act.put, List.setIfInBounds_toArray, List.set_cons_zero, List.set_cons_succ, i64_w, i32_w]
         rfl
        refine take_ (i := 7) (N := some 24) (v := ?_) (a' := ?_) #[true, true, true, true, true, true, true, true, false, false] rfl rfl (take_ofW HT_.out HW_.out (by kernel_rfl)) (fun _ _ _ h => h) (Or.inl ⟨by rfl, ?_⟩) hHeld ?_ ?_
        rotate_left
        ·rintro w' ⟨s0, s1, s2, s3, s4, s5, s6, s7⟩
         go_simp
         with_reducible rfl
        rotate_left
        ·simp only [Act.put, List.setIfInBounds_toArray, List.set_cons_zero, List.set_cons_succ, i64_w, i32_w]
         rfl
        refine one_ (i := 8) (N := some 25) #[true, true, true, true, true, true, true, true, true, false] rfl rfl (one_of HT_.out (by kernel_rfl)) (by decide) (fun K hK => ?_)
        refine goes_ Try.func174 (by kernel_rfl) rfl #[.agg #[.string ((rd_T151 l0 x5_1).f0), .int .i64 ((rd_T151 l0 x5_1).f1), .slice A647_2 ((rd_T151 l0 x5_1).f2).length c647_2, .slice A647_3 ((rd_T151 l0 x5_1).f3).length c647_3], .agg #[.string ((rd_T151 l1 x5_1).f0), .int .i64 ((rd_T151 l1 x5_1).f1), .slice A648_2 ((rd_T151 l1 x5_1).f2).length c648_2, .slice A648_3 ((rd_T151 l1 x5_1).f3).length c648_3]] (by rfl) rfl rfl (by (try simp only [List.map_toArray, List.map_cons, List.map_nil]); first | done | rfl | (simp only [List.length_drop, List.length_take]; rfl)) ?_
        with_reducible refine (laws_eqRelation.calls k1 ((rd_T151 l0 x5_1).f0) ((rd_T151 l0 x5_1).f1) _ _ ((rd_T151 l0 x5_1).f2) _ _ ((rd_T151 l0 x5_1).f3) ((rd_T151 l1 x5_1).f0) ((rd_T151 l1 x5_1).f1) _ _ ((rd_T151 l1 x5_1).f2) _ _ ((rd_T151 l1 x5_1).f3) true _ ?side1 ?side2 ?side3 ?side4 ?side5 ?side6 ?side7 ?side8 A7.out).mono ?_
        (case side1 => repeat (first | exact (Kd.C_below HR647_2.out HB.out) | (with_reducible refine Kd.C_alloc ?_ _) | (with_reducible refine Kd.C_drewN ?_ _) | (with_reducible refine Kd.C_drew ?_)))
        (case side2 => exact HC647_2.out)
        (case side3 => repeat (first | exact (Kd.C_below HR647_3.out HB.out) | (with_reducible refine Kd.C_alloc ?_ _) | (with_reducible refine Kd.C_drewN ?_ _) | (with_reducible refine Kd.C_drew ?_)))
        (case side4 => exact HC647_3.out)
        (case side5 => repeat (first | exact (Kd.C_below HR648_2.out HB.out) | (with_reducible refine Kd.C_alloc ?_ _) | (with_reducible refine Kd.C_drewN ?_ _) | (with_reducible refine Kd.C_drew ?_)))
        (case side6 => exact HC648_2.out)
        (case side7 => repeat (first | exact (Kd.C_below HR648_3.out HB.out) | (with_reducible refine Kd.C_alloc ?_ _) | (with_reducible refine Kd.C_drewN ?_ _) | (with_reducible refine Kd.C_drew ?_)))
        (case side8 => exact HC648_3.out)
        rintro e w10 ⟨rfl, hb⟩
        refine ⟨_, rfl, ?_⟩
        have n0_ := Aside0.mk (below_step (by repeat (first | (with_reducible first | exact HB.out | apply below_alloc | apply pw_below_drewN | apply below_drew1) | exact HB.out)) hb)
        clear HB
        have HB := n0_
        clear n0_
        (try clear hb)
        (try clear hb2)
        (try clear hk)
        (try clear hi)
        refine hK.out _ _ ⟨((HB.out.cell (World.block_lt_of_cell? w _ hw647_0)).trans hw647_0), ((HB.out.cell (World.block_lt_of_cell? w _ hw647_1)).trans hw647_1), ((HB.out.cell (World.block_lt_of_cell? w _ hw647_2)).trans hw647_2), ((HB.out.cell (World.block_lt_of_cell? w _ hw647_3)).trans hw647_3), ((HB.out.cell (World.block_lt_of_cell? w _ hw648_0)).trans hw648_0), ((HB.out.cell (World.block_lt_of_cell? w _ hw648_1)).trans hw648_1), ((HB.out.cell (World.block_lt_of_cell? w _ hw648_2)).trans hw648_2), ((HB.out.cell (World.block_lt_of_cell? w _ hw648_3)).trans hw648_3)⟩ (fun hHeld => ?_)
        clear hK K
        refine norm_ (a' := ?_) ?_ ?_
        rotate_left
        ·show Act.put _ (some 25) _ = _
         simp only [Act.put, List.setIfInBounds_toArray, List.set_cons_zero, List.set_cons_succ, i64_w, i32_w]
         rfl
        refine pure_ (i := 9) (N := some 26) (v := ?_) (a' := ?_) #[true, true, true, true, true, true, true, true, true, true] rfl rfl (any_of HT_.out (by kernel_rfl)) (fun _ _ _ h => h) (Or.inl ⟨by rfl, ?_⟩) ?_ ?_
        rotate_left
        ·intro w'
         go_simp
         with_reducible rfl
        rotate_left
        ·simp only [Act.put, List.setIfInBounds_toArray, List.set_cons_zero, List.set_cons_succ, i64_w, i32_w]
         rfl
        refine done_ (done_of HT_.out (by kernel_rfl)) ?_
        try go_wp2
        go_roundg k1
        case measure => have := HK1.out; omega
        case rel => exact ⟨(wrap64 (x5_1 + 1)), (by first | rfl | (simp; done) | (simp [*]; done)), H', ⟨by have := HK1.out; omega⟩, ⟨by repeat (first | (with_reducible first | exact HB.out | apply below_alloc | apply pw_below_drewN | apply below_drew1) | exact HB.out)⟩⟩
       ·replace c8 := Bool.eq_false_iff.mpr c8
        subst c8
        have H1 : (some false) = some r := by rw [if_neg (show ¬ (false = true) by decide)] at H; exact H
        clear H
        have H := H1
        clear H1
        obtain rfl := Option.some.inj H
        try go_wp2
        have n0_ := Aside0.mk (below_drew1 HB.out)
        clear HB
        have HB := n0_
        clear n0_
        have p647 : 0 ≤ (x5_1 : Int) := of_decide_eq_true (by first | (with_reducible assumption) | assumption)
        have q647 : x5_1 < (l0.length : Int) := of_decide_eq_true (by first | (with_reducible assumption) | assumption)
        obtain ⟨ad647, A647_2, c647_2, A647_3, c647_3, e647, hx647_0, hx647_1, hx647_2, hx647_3, hl647_2, hi647_2, hl647_3, hi647_3⟩ := at_T151 HR0.out x5_1 p647 q647
        have hw647_3 := hx647_3
        have hw647_2 := hx647_2
        have hw647_1 := hx647_1
        have hw647_0 := hx647_0
        cases e647
        replace hx647_0 := (HB.out.cell (World.block_lt_of_cell? w _ hx647_0)).trans hx647_0
        replace hx647_1 := (HB.out.cell (World.block_lt_of_cell? w _ hx647_1)).trans hx647_1
        replace hx647_2 := (HB.out.cell (World.block_lt_of_cell? w _ hx647_2)).trans hx647_2
        replace hx647_3 := (HB.out.cell (World.block_lt_of_cell? w _ hx647_3)).trans hx647_3
        have HR647_2 := Aside0.mk hi647_2
        have HC647_2 := Aside0.mk hl647_2
        clear hi647_2 hl647_2
        have HR647_3 := Aside0.mk hi647_3
        have HC647_3 := Aside0.mk hl647_3
        clear hi647_3 hl647_3
        replace p647 := eq_true p647
        replace q647 := eq_true q647
        have p648 : 0 ≤ (x5_1 : Int) := of_decide_eq_true (by first | (with_reducible assumption) | assumption)
        have q648 : x5_1 < (l1.length : Int) := of_decide_eq_true (by first | (with_reducible assumption) | assumption)
        obtain ⟨ad648, A648_2, c648_2, A648_3, c648_3, e648, hx648_0, hx648_1, hx648_2, hx648_3, hl648_2, hi648_2, hl648_3, hi648_3⟩ := at_T151 HR1.out x5_1 p648 q648
        have hw648_3 := hx648_3
        have hw648_2 := hx648_2
        have hw648_1 := hx648_1
        have hw648_0 := hx648_0
        cases e648
        replace hx648_0 := (HB.out.cell (World.block_lt_of_cell? w _ hx648_0)).trans hx648_0
        replace hx648_1 := (HB.out.cell (World.block_lt_of_cell? w _ hx648_1)).trans hx648_1
        replace hx648_2 := (HB.out.cell (World.block_lt_of_cell? w _ hx648_2)).trans hx648_2
        replace hx648_3 := (HB.out.cell (World.block_lt_of_cell? w _ hx648_3)).trans hx648_3
        have HR648_2 := Aside0.mk hi648_2
        have HC648_2 := Aside0.mk hl648_2
        clear hi648_2 hl648_2
        have HR648_3 := Aside0.mk hi648_3
        have HC648_3 := Aside0.mk hl648_3
        clear hi648_3 hl648_3
        replace p648 := eq_true p648
        replace q648 := eq_true q648
        refine start_ (n := 10) (S := fun w' => w'.cell? (ad647.add ((x5_1).toNat * 4)) = some (.string ((rd_T151 l0 x5_1).f0)) ∧ w'.cell? ⟨(ad647.add ((x5_1).toNat * 4)).block, (ad647.add ((x5_1).toNat * 4)).off + 1, none⟩ = some (.int .i64 ((rd_T151 l0 x5_1).f1)) ∧ w'.cell? ⟨(ad647.add ((x5_1).toNat * 4)).block, (ad647.add ((x5_1).toNat * 4)).off + 2, none⟩ = some (.slice A647_2 ((rd_T151 l0 x5_1).f2).length c647_2) ∧ w'.cell? ⟨(ad647.add ((x5_1).toNat * 4)).block, (ad647.add ((x5_1).toNat * 4)).off + 3, none⟩ = some (.slice A647_3 ((rd_T151 l0 x5_1).f3).length c647_3) ∧ w'.cell? (ad648.add ((x5_1).toNat * 4)) = some (.string ((rd_T151 l1 x5_1).f0)) ∧ w'.cell? ⟨(ad648.add ((x5_1).toNat * 4)).block, (ad648.add ((x5_1).toNat * 4)).off + 1, none⟩ = some (.int .i64 ((rd_T151 l1 x5_1).f1)) ∧ w'.cell? ⟨(ad648.add ((x5_1).toNat * 4)).block, (ad648.add ((x5_1).toNat * 4)).off + 2, none⟩ = some (.slice A648_2 ((rd_T151 l1 x5_1).f2).length c648_2) ∧ w'.cell? ⟨(ad648.add ((x5_1).toNat * 4)).block, (ad648.add ((x5_1).toNat * 4)).off + 3, none⟩ = some (.slice A648_3 ((rd_T151 l1 x5_1).f3).length c648_3)) (ds := []) #[false, false, false, false, false, false, false, false, false, false] (by kernel_rfl) rfl rfl ⟨((HB.out.cell (World.block_lt_of_cell? w _ hw647_0)).trans hw647_0), ((HB.out.cell (World.block_lt_of_cell? w _ hw647_1)).trans hw647_1), ((HB.out.cell (World.block_lt_of_cell? w _ hw647_2)).trans hw647_2), ((HB.out.cell (World.block_lt_of_cell? w _ hw647_3)).trans hw647_3), ((HB.out.cell (World.block_lt_of_cell? w _ hw648_0)).trans hw648_0), ((HB.out.cell (World.block_lt_of_cell? w _ hw648_1)).trans hw648_1), ((HB.out.cell (World.block_lt_of_cell? w _ hw648_2)).trans hw648_2), ((HB.out.cell (World.block_lt_of_cell? w _ hw648_3)).trans hw648_3)⟩ (fun hHeld => ?_); refine with_tabW laws_eqRelationS.tab6 laws_eqRelationS.bits6 (fun HT_ HW_ => ?_)
        generalize wr.drew = w11 at HB HR647_2 HR647_3 HR648_2 HR648_3 hx647_0 hx647_1 hx647_2 hx647_3 hx648_0 hx648_1 hx648_2 hx648_3 hHeld ⊢
        refine pure_ (i := 0) (N := some 17) (v := ?_) (a' := ?_) #[true, false, false, false, false, false, false, false, false, false] rfl rfl (any_of HT_.out (by kernel_rfl)) (fun _ _ _ h => h) (Or.inl ⟨by rfl, ?_⟩) ?_ ?_
        rotate_left
        ·intro w'
         go_simp
         with_reducible rfl
        rotate_left
        ·simp only [Act.put, List.setIfInBounds_toArray, List.set_cons_zero, List.set_cons_succ, i64_w, i32_w]
         rfl
        refine pure_ (i := 1) (N := some 18) (v := ?_) (a' := ?_) #[true, true, false, false, false, false, false, false, false, false] rfl rfl (any_of HT_.out (by kernel_rfl)) (fun _ _ _ h => h) (Or.inl ⟨by rfl, ?_⟩) ?_ ?_
        rotate_left
        ·intro w'
         go_simp
         with_reducible rfl
        rotate_left
        ·simp only [Act.put, List.setIfInBounds_toArray, List.set_cons_zero, List.set_cons_succ, i64_w, i32_w]
         rfl
        refine pure_ (i := 2) (N := some 19) (v := ?_) (a' := ?_) #[true, true, true, false, false, false, false, false, false, false] rfl rfl (any_of HT_.out (by kernel_rfl)) (fun _ _ _ h => h) (Or.inl ⟨by rfl, ?_⟩) ?_ ?_
        rotate_left
        ·intro w'
         go_simp
         with_reducible rfl
        rotate_left
        ·simp only [Act.put, List.setIfInBounds_toArray, List.set_cons_zero, List.set_cons_succ, i64_w, i32_w]
         rfl
        refine pure_ (i := 4) (N := some 21) (v := ?_) (a' := ?_) #[true, true, true, false, true, false, false, false, false, false] rfl rfl (any_of HT_.out (by kernel_rfl)) (fun _ _ _ h => h) (Or.inl ⟨by rfl, ?_⟩) ?_ ?_
        rotate_left
        ·intro w'
         go_simp
         with_reducible rfl
        rotate_left
        ·simp only [Act.put, List.setIfInBounds_toArray, List.set_cons_zero, List.set_cons_succ, i64_w, i32_w]
         rfl
        refine pure_ (i := 5) (N := some 22) (v := ?_) (a' := ?_) #[true, true, true, false, true, true, false, false, false, false] rfl rfl (any_of HT_.out (by kernel_rfl)) (fun _ _ _ h => h) (Or.inl ⟨by rfl, ?_⟩) ?_ ?_
        rotate_left
        ·intro w'
         go_simp
         with_reducible rfl
        rotate_left
        ·simp only [Act.put, List.setIfInBounds_toArray, List.set_cons_zero, List.set_cons_succ, i64_w, i32_w]
         rfl
        refine pure_ (i := 6) (N := some 23) (v := ?_) (a' := ?_) #[true, true, true, false, true, true, true, false, false, false] rfl rfl (any_of HT_.out (by kernel_rfl)) (fun _ _ _ h => h) (Or.inl ⟨by rfl, ?_⟩) ?_ ?_
        rotate_left
        ·intro w'
         go_simp
         with_reducible rfl
        rotate_left
        ·simp only [Act.put, List.setIfInBounds_toArray, List.set_cons_zero, List.set_cons_succ, i64_w, i32_w]
         rfl
        refine take_ (i := 3) (N := some 20) (v := ?_) (a' := ?_) #[true, true, true, true, true, true, true, false, false, false] rfl rfl (take_ofW HT_.out HW_.out (by kernel_rfl)) (fun _ _ _ h => h) (Or.inl ⟨by rfl, ?_⟩) hHeld ?_ ?_
        rotate_left
        ·rintro w' ⟨s0, s1, s2, s3, s4, s5, s6, s7⟩
         go_simp
         with_reducible rfl
        rotate_left
        ·simp only [Act.put, List.setIfInBounds_toArray, List.set_cons_zero, List.set_cons_succ, i64_w, i32_w]
         rfl
        refine take_ (i := 7) (N := some 24) (v := ?_) (a' := ?_) #[true, true, true, true, true, true, true, true, false, false] rfl rfl (take_ofW HT_.out HW_.out (by kernel_rfl)) (fun _ _ _ h => h) (Or.inl ⟨by rfl, ?_⟩) hHeld ?_ ?_
        rotate_left
        ·rintro w' ⟨s0, s1, s2, s3, s4, s5, s6, s7⟩
         go_simp
         with_reducible rfl
        rotate_left
        ·simp only [Act.put, List.setIfInBounds_toArray, List.set_cons_zero, List.set_cons_succ, i64_w, i32_w]
         rfl
        refine one_ (i := 8) (N := some 25) #[true, true, true, true, true, true, true, true, true, false] rfl rfl (one_of HT_.out (by kernel_rfl)) (by decide) (fun K hK => ?_)
        refine goes_ Try.func174 (by kernel_rfl) rfl #[.agg #[.string ((rd_T151 l0 x5_1).f0), .int .i64 ((rd_T151 l0 x5_1).f1), .slice A647_2 ((rd_T151 l0 x5_1).f2).length c647_2, .slice A647_3 ((rd_T151 l0 x5_1).f3).length c647_3], .agg #[.string ((rd_T151 l1 x5_1).f0), .int .i64 ((rd_T151 l1 x5_1).f1), .slice A648_2 ((rd_T151 l1 x5_1).f2).length c648_2, .slice A648_3 ((rd_T151 l1 x5_1).f3).length c648_3]] (by rfl) rfl rfl (by (try simp only [List.map_toArray, List.map_cons, List.map_nil]); first | done | rfl | (simp only [List.length_drop, List.length_take]; rfl)) ?_
        with_reducible refine (laws_eqRelation.calls k1 ((rd_T151 l0 x5_1).f0) ((rd_T151 l0 x5_1).f1) _ _ ((rd_T151 l0 x5_1).f2) _ _ ((rd_T151 l0 x5_1).f3) ((rd_T151 l1 x5_1).f0) ((rd_T151 l1 x5_1).f1) _ _ ((rd_T151 l1 x5_1).f2) _ _ ((rd_T151 l1 x5_1).f3) false _ ?side1 ?side2 ?side3 ?side4 ?side5 ?side6 ?side7 ?side8 A7.out).mono ?_
        (case side1 => repeat (first | exact (Kd.C_below HR647_2.out HB.out) | (with_reducible refine Kd.C_alloc ?_ _) | (with_reducible refine Kd.C_drewN ?_ _) | (with_reducible refine Kd.C_drew ?_)))
        (case side2 => exact HC647_2.out)
        (case side3 => repeat (first | exact (Kd.C_below HR647_3.out HB.out) | (with_reducible refine Kd.C_alloc ?_ _) | (with_reducible refine Kd.C_drewN ?_ _) | (with_reducible refine Kd.C_drew ?_)))
        (case side4 => exact HC647_3.out)
        (case side5 => repeat (first | exact (Kd.C_below HR648_2.out HB.out) | (with_reducible refine Kd.C_alloc ?_ _) | (with_reducible refine Kd.C_drewN ?_ _) | (with_reducible refine Kd.C_drew ?_)))
        (case side6 => exact HC648_2.out)
        (case side7 => repeat (first | exact (Kd.C_below HR648_3.out HB.out) | (with_reducible refine Kd.C_alloc ?_ _) | (with_reducible refine Kd.C_drewN ?_ _) | (with_reducible refine Kd.C_drew ?_)))
        (case side8 => exact HC648_3.out)
        rintro e w12 ⟨rfl, hb⟩
        refine ⟨_, rfl, ?_⟩
        have n0_ := Aside0.mk (below_step (by repeat (first | (with_reducible first | exact HB.out | apply below_alloc | apply pw_below_drewN | apply below_drew1) | exact HB.out)) hb)
        clear HB
        have HB := n0_
        clear n0_
        (try clear hb)
        (try clear hb2)
        (try clear hk)
        (try clear hi)
        refine hK.out _ _ ⟨((HB.out.cell (World.block_lt_of_cell? w _ hw647_0)).trans hw647_0), ((HB.out.cell (World.block_lt_of_cell? w _ hw647_1)).trans hw647_1), ((HB.out.cell (World.block_lt_of_cell? w _ hw647_2)).trans hw647_2), ((HB.out.cell (World.block_lt_of_cell? w _ hw647_3)).trans hw647_3), ((HB.out.cell (World.block_lt_of_cell? w _ hw648_0)).trans hw648_0), ((HB.out.cell (World.block_lt_of_cell? w _ hw648_1)).trans hw648_1), ((HB.out.cell (World.block_lt_of_cell? w _ hw648_2)).trans hw648_2), ((HB.out.cell (World.block_lt_of_cell? w _ hw648_3)).trans hw648_3)⟩ (fun hHeld => ?_)
        clear hK K
        refine norm_ (a' := ?_) ?_ ?_
        rotate_left
        ·show Act.put _ (some 25) _ = _
         simp only [Act.put, List.setIfInBounds_toArray, List.set_cons_zero, List.set_cons_succ, i64_w, i32_w]
         rfl
        refine pure_ (i := 9) (N := some 26) (v := ?_) (a' := ?_) #[true, true, true, true, true, true, true, true, true, true] rfl rfl (any_of HT_.out (by kernel_rfl)) (fun _ _ _ h => h) (Or.inl ⟨by rfl, ?_⟩) ?_ ?_
        rotate_left
        ·intro w'
         go_simp
         with_reducible rfl
        rotate_left
        ·simp only [Act.put, List.setIfInBounds_toArray, List.set_cons_zero, List.set_cons_succ, i64_w, i32_w]
         rfl
        refine done_ (done_of HT_.out (by kernel_rfl)) ?_
        try go_wp2
        go_ret
        exact ⟨by first | rfl | (simp [errW_none, errW_some] <;> rfl) | (simp [*, errW_none, errW_some] <;> rfl), by repeat (first | (with_reducible first | exact HB.out | apply below_alloc | apply pw_below_drewN | apply below_drew1) | exact HB.out)⟩
      ·rw [if_neg c6] at H
       exact absurd H (by simp)
     ·rw [if_neg c5] at H
      exact absurd H (by simp)
    ·rw [if_neg c4] at H
     have c4b0 : decide (x5_1 < (l0.length : Int)) = false := decide_eq_false c4
     clear c4
     obtain rfl := Option.some.inj H
     go_wp2
     go_ret
     exact ⟨by first | rfl | (simp [errW_none, errW_some] <;> rfl) | (simp [*, errW_none, errW_some] <;> rfl), by repeat (first | (with_reducible first | exact HB.out | apply below_alloc | apply pw_below_drewN | apply below_drew1) | exact HB.out)⟩
 ·rw [if_neg c3] at H
  have c3b0 : ((l0.length : Int) == (l1.length : Int)) = false := beq_eq_false_iff_ne.mpr c3
  have c3b1 : ((l0.length : Int) != (l1.length : Int)) = true := bne_iff_ne.mpr c3
  have c3b2 : (l0.length == l1.length) = false := by first | simpa using c3 | (simp at c3 ⊢; omega)
  obtain rfl := Option.some.inj H
  go_enter Try.func112, Try.ntmps112
  go_wp2
  go_ret
  exact ⟨by first | rfl | (simp [errW_none, errW_some] <;> rfl) | (simp [*, errW_none, errW_some] <;> rfl), by repeat (first | (with_reducible first | exact HB.out | apply below_alloc | apply pw_below_drewN | apply below_drew1) | exact HB.out)⟩
end Go.Proofs.Ytkolhpmhbgbphaa.P
namespace Go.Proofs.Ytkolhpmhbgbphaa.P
open Go.RowKit Go.Proofs.YtkolhpmhbgbphaaW.PrintWords Go.Proofs.YtkolhpmhbgbphaaW.PrintLast Go.Proofs.YtkolhpmhbgbphaaW.PrintMore
attribute [local go_sem] max2_int min2_int max_two min_two max_three min_three max_four min_four
set_option linter.unusedVariables false
set_option linter.unusedSimpArgs false
def laws_eqData.f (k : Nat) (l0_0 : List (S151)) (l1_0 : List (S151)) : Option (Bool) := (laws_eqRelationS.f k l0_0 l1_0).bind fun t652 => (if t652 = true then (some true) else (some false))
theorem laws_eqData.mono : ∀ a0 a1 k, LeO (laws_eqData.f k a0 a1) (laws_eqData.f (k + 1) a0 a1) := by
 intro a0 a1 k
 unfold laws_eqData.f
 repeat' first
   | (with_reducible exact laws_eqRelationS.mono _ _ _)
   | (with_reducible exact LeO.refl _)
   | (with_reducible exact LeO.none _)
   | (with_reducible refine LeO.ite ?_ ?_)
   | (with_reducible refine LeO.bind ?_ (fun _ => ?_))
   | exact laws_eqRelationS.mono _ _ _
   | exact LeO.none _
   | refine LeO.ite ?_ ?_
   | refine LeO.bind ?_ (fun _ => ?_)
set_option maxHeartbeats 8000000 in
set_option maxRecDepth 100000 in
theorem laws_eqData.calls (k : Nat) (A0_0 : Option Addr) (c0_0 : Nat) (l0_0 : List (S151)) (A1_0 : Option Addr) (c1_0 : Nat) (l1_0 : List (S151)) (r : Bool) (w : World) (hr0_0 : Kd.C k151 w A0_0 l0_0.length l0_0) (hc0_0 : l0_0.length ≤ c0_0) (hr1_0 : Kd.C k151 w A1_0 l1_0.length l1_0) (hc1_0 : l1_0.length ≤ c1_0) (h : laws_eqData.f k l0_0 l1_0 = some r) :
  Calls Try.prog 44 #[.agg #[.slice A0_0 l0_0.length c0_0], .agg #[.slice A1_0 l1_0.length c1_0]] w fun e w' => e = .returned (.bool r) ∧ Below w.heap.size w w' := by
 have hu71 := Try.underlying71
 have HR0_0 := Aside0.mk hr0_0
 have HC0_0 := Aside0.mk hc0_0
 clear hr0_0 hc0_0
 have HR1_0 := Aside0.mk hr1_0
 have HC1_0 := Aside0.mk hc1_0
 clear hr1_0 hc1_0
 have HB := Aside0.mk (Below.refl w.heap.size w)
 have H : ((laws_eqRelationS.f k l0_0 l1_0).bind fun t652 => (if t652 = true then (some true) else (some false))) = some r := h
 clear h
 replace H := Option.bind_eq_some_iff.mp H
 obtain ⟨t652, A30, H⟩ := H
 replace H : (if t652 = true then (some true) else (some false)) = some r := H
 have A3 := Aside0.mk A30
 clear A30
 by_cases c4 : t652 = true
 ·subst c4
  have H1 : (some true) = some r := by rw [if_pos rfl] at H; exact H
  clear H
  have H := H1
  clear H1
  obtain rfl := Option.some.inj H
  go_enter Try.func44, Try.ntmps44
  go_wp2_with (first | ((with_reducible refine gate_dst (N := 2) rfl ?_); refine box_event ?hg (N := 2) ?hd (cs := #[.slice A0_0 l0_0.length c0_0]) (t := 71) ?hr ?_; (case hd => rfl); (case hg => rfl); (case hr => first | (go_simp; done) | (go_simp; rfl)); intro gb650 hg w5 hbox hb; have n0_ := Aside0.mk (below_step (by repeat (first | (with_reducible first | exact HB.out | apply below_alloc | apply pw_below_drewN | apply below_drew1) | exact HB.out)) hb); have n1_ := Aside0.mk (hbox); have n2_ := Aside0.mk ((by rw [hg]; exact (below_size (by repeat (first | (with_reducible first | exact HB.out | apply below_alloc | apply pw_below_drewN | apply below_drew1) | exact HB.out))) : w.heap.size ≤ gb650)); have n3_ := Aside0.mk ((by rw [hg]; exact (below_size (by repeat (first | (with_reducible first | exact HB.out | apply below_alloc | apply pw_below_drewN | apply below_drew1) | exact HB.out))) : w.heap.size ≤ gb650)); clear HB; have HB := n0_; have BK650 := n1_; have GW650 := n2_; have GE650 := n3_; clear n0_ n1_ n2_ n3_; clear hb hbox hg) | ((with_reducible refine gate_dst (N := 3) rfl ?_); refine box_event ?hg (N := 3) ?hd (cs := #[.slice A1_0 l1_0.length c1_0]) (t := 71) ?hr ?_; (case hd => rfl); (case hg => rfl); (case hr => first | (go_simp; done) | (go_simp; rfl)); intro gb651 hg w6 hbox hb; have n0_ := Aside0.mk (blk_below (g := gb650) (o := .cells #[.slice A0_0 l0_0.length c0_0] 71 (0, 0)) (by (with_reducible repeat (first | refine blk_drewN ?_ _ | refine blk_drew ?_ | refine blk_alloc ?_ _)); exact BK650.out) hb); have n1_ := Aside0.mk (below_step (by repeat (first | (with_reducible first | exact HB.out | apply below_alloc | apply pw_below_drewN | apply below_drew1 | refine below_set ?_ GE650.out) | exact HB.out)) hb); have n2_ := Aside0.mk (hbox); have n3_ := Aside0.mk ((by rw [hg]; exact (below_size (by repeat (first | (with_reducible first | exact HB.out | apply below_alloc | apply pw_below_drewN | apply below_drew1 | refine below_set ?_ GE650.out) | exact HB.out))) : w.heap.size ≤ gb651)); have n4_ := Aside0.mk ((by rw [hg]; exact (below_size (by repeat (first | (with_reducible first | exact HB.out | apply below_alloc | apply pw_below_drewN | apply below_drew1 | refine below_set ?_ GE650.out) | exact HB.out))) : w.heap.size ≤ gb651)); have n5_ := Aside0.mk ((by rw [hg]; exact Nat.ne_of_lt (blk_lt (g := gb650) (o := .cells #[.slice A0_0 l0_0.length c0_0] 71 (0, 0)) (by (with_reducible repeat (first | refine blk_drewN ?_ _ | refine blk_drew ?_ | refine blk_alloc ?_ _)); exact BK650.out)) : gb650 ≠ gb651)); have n6_ := Aside0.mk ((by rw [hg]; exact Nat.ne_of_gt (blk_lt (g := gb650) (o := .cells #[.slice A0_0 l0_0.length c0_0] 71 (0, 0)) (by (with_reducible repeat (first | refine blk_drewN ?_ _ | refine blk_drew ?_ | refine blk_alloc ?_ _)); exact BK650.out)) : gb651 ≠ gb650)); clear BK650; clear HB; have BK650 := n0_; have HB := n1_; have BK651 := n2_; have GW651 := n3_; have GE651 := n4_; have NB650_651 := n5_; have NB651_650 := n6_; clear n0_ n1_ n2_ n3_ n4_ n5_ n6_; clear hb hbox hg; have hnb7 := NB650_651.out; have hnc7 := NB651_650.out; have hcz8_0 : w6.cell? ⟨gb650, 0, none⟩ = some (.slice A0_0 l0_0.length c0_0) := (blk_cell BK650.out 0).trans rfl; have hfz8_0 := blk_frozen BK650.out 0; have hcz9_0 : w6.cell? ⟨gb651, 0, none⟩ = some (.slice A1_0 l1_0.length c1_0) := (blk_cell BK651.out 0).trans rfl; have hfz9_0 := blk_frozen BK651.out 0) | ((with_reducible refine gate_callee (f := 112) rfl ?_); refine goesL_ (some 9) rfl rfl Try.func112 (by kernel_rfl) rfl #[.slice A0_0 l0_0.length c0_0, .slice A1_0 l1_0.length c1_0] rfl (by (try simp only [List.map_toArray, List.map_cons, List.map_nil]); first | done | rfl | (simp only [List.length_drop, List.length_take]; rfl)) ?_; (with_reducible refine (laws_eqRelationS.calls k _ _ l0_0 _ _ l1_0 true _ ?side1 ?side2 ?side3 ?side4 A3.out).mono ?_); (case side1 => repeat (first | exact (Kd.C_below HR0_0.out HB.out) | (with_reducible refine Kd.C_alloc ?_ _) | (with_reducible refine Kd.C_drewN ?_ _) | (with_reducible refine Kd.C_drew ?_))); (case side2 => exact HC0_0.out); (case side3 => repeat (first | exact (Kd.C_below HR1_0.out HB.out) | (with_reducible refine Kd.C_alloc ?_ _) | (with_reducible refine Kd.C_drewN ?_ _) | (with_reducible refine Kd.C_drew ?_))); (case side4 => exact HC1_0.out); rintro e w10 ⟨rfl, hb⟩; refine ⟨_, rfl, ?_⟩; have n0_ := Aside0.mk (blk_below (g := gb650) (o := .cells #[.slice A0_0 l0_0.length c0_0] 71 (0, 0)) (by (with_reducible repeat (first | refine blk_drewN ?_ _ | refine blk_drew ?_ | refine blk_alloc ?_ _)); exact BK650.out) hb); have n1_ := Aside0.mk (blk_below (g := gb651) (o := .cells #[.slice A1_0 l1_0.length c1_0] 71 (0, 0)) (by (with_reducible repeat (first | refine blk_drewN ?_ _ | refine blk_drew ?_ | refine blk_alloc ?_ _)); exact BK651.out) hb); have n2_ := Aside0.mk (below_step (by repeat (first | (with_reducible first | exact HB.out | apply below_alloc | apply pw_below_drewN | apply below_drew1 | refine below_set ?_ GE650.out | refine below_set ?_ GE651.out) | exact HB.out)) hb); clear BK650; clear BK651; clear HB; have BK650 := n0_; have BK651 := n1_; have HB := n2_; clear n0_ n1_ n2_; (try clear hb); (try clear hb2); (try clear hk); (try clear hi)))
  go_ret
  exact ⟨by first | rfl | (simp [errW_none, errW_some] <;> rfl) | (simp [*, errW_none, errW_some] <;> rfl), by repeat (first | (with_reducible first | exact HB.out | apply below_alloc | apply pw_below_drewN | apply below_drew1 | refine below_set ?_ GE650.out | refine below_set ?_ GE651.out) | exact HB.out)⟩
 ·replace c4 := Bool.eq_false_iff.mpr c4
  subst c4
  have H1 : (some false) = some r := by rw [if_neg (show ¬ (false = true) by decide)] at H; exact H
  clear H
  have H := H1
  clear H1
  obtain rfl := Option.some.inj H
  go_enter Try.func44, Try.ntmps44
  go_wp2_with (first | ((with_reducible refine gate_dst (N := 2) rfl ?_); refine box_event ?hg (N := 2) ?hd (cs := #[.slice A0_0 l0_0.length c0_0]) (t := 71) ?hr ?_; (case hd => rfl); (case hg => rfl); (case hr => first | (go_simp; done) | (go_simp; rfl)); intro gb650 hg w11 hbox hb; have n0_ := Aside0.mk (below_step (by repeat (first | (with_reducible first | exact HB.out | apply below_alloc | apply pw_below_drewN | apply below_drew1) | exact HB.out)) hb); have n1_ := Aside0.mk (hbox); have n2_ := Aside0.mk ((by rw [hg]; exact (below_size (by repeat (first | (with_reducible first | exact HB.out | apply below_alloc | apply pw_below_drewN | apply below_drew1) | exact HB.out))) : w.heap.size ≤ gb650)); have n3_ := Aside0.mk ((by rw [hg]; exact (below_size (by repeat (first | (with_reducible first | exact HB.out | apply below_alloc | apply pw_below_drewN | apply below_drew1) | exact HB.out))) : w.heap.size ≤ gb650)); clear HB; have HB := n0_; have BK650 := n1_; have GW650 := n2_; have GE650 := n3_; clear n0_ n1_ n2_ n3_; clear hb hbox hg) | ((with_reducible refine gate_dst (N := 3) rfl ?_); refine box_event ?hg (N := 3) ?hd (cs := #[.slice A1_0 l1_0.length c1_0]) (t := 71) ?hr ?_; (case hd => rfl); (case hg => rfl); (case hr => first | (go_simp; done) | (go_simp; rfl)); intro gb651 hg w12 hbox hb; have n0_ := Aside0.mk (blk_below (g := gb650) (o := .cells #[.slice A0_0 l0_0.length c0_0] 71 (0, 0)) (by (with_reducible repeat (first | refine blk_drewN ?_ _ | refine blk_drew ?_ | refine blk_alloc ?_ _)); exact BK650.out) hb); have n1_ := Aside0.mk (below_step (by repeat (first | (with_reducible first | exact HB.out | apply below_alloc | apply pw_below_drewN | apply below_drew1 | refine below_set ?_ GE650.out) | exact HB.out)) hb); have n2_ := Aside0.mk (hbox); have n3_ := Aside0.mk ((by rw [hg]; exact (below_size (by repeat (first | (with_reducible first | exact HB.out | apply below_alloc | apply pw_below_drewN | apply below_drew1 | refine below_set ?_ GE650.out) | exact HB.out))) : w.heap.size ≤ gb651)); have n4_ := Aside0.mk ((by rw [hg]; exact (below_size (by repeat (first | (with_reducible first | exact HB.out | apply below_alloc | apply pw_below_drewN | apply below_drew1 | refine below_set ?_ GE650.out) | exact HB.out))) : w.heap.size ≤ gb651)); have n5_ := Aside0.mk ((by rw [hg]; exact Nat.ne_of_lt (blk_lt (g := gb650) (o := .cells #[.slice A0_0 l0_0.length c0_0] 71 (0, 0)) (by (with_reducible repeat (first | refine blk_drewN ?_ _ | refine blk_drew ?_ | refine blk_alloc ?_ _)); exact BK650.out)) : gb650 ≠ gb651)); have n6_ := Aside0.mk ((by rw [hg]; exact Nat.ne_of_gt (blk_lt (g := gb650) (o := .cells #[.slice A0_0 l0_0.length c0_0] 71 (0, 0)) (by (with_reducible repeat (first | refine blk_drewN ?_ _ | refine blk_drew ?_ | refine blk_alloc ?_ _)); exact BK650.out)) : gb651 ≠ gb650)); clear BK650; clear HB; have BK650 := n0_; have HB := n1_; have BK651 := n2_; have GW651 := n3_; have GE651 := n4_; have NB650_651 := n5_; have NB651_650 := n6_; clear n0_ n1_ n2_ n3_ n4_ n5_ n6_; clear hb hbox hg; have hnb13 := NB650_651.out; have hnc13 := NB651_650.out; have hcz14_0 : w12.cell? ⟨gb650, 0, none⟩ = some (.slice A0_0 l0_0.length c0_0) := (blk_cell BK650.out 0).trans rfl; have hfz14_0 := blk_frozen BK650.out 0; have hcz15_0 : w12.cell? ⟨gb651, 0, none⟩ = some (.slice A1_0 l1_0.length c1_0) := (blk_cell BK651.out 0).trans rfl; have hfz15_0 := blk_frozen BK651.out 0) | ((with_reducible refine gate_callee (f := 112) rfl ?_); refine goesL_ (some 9) rfl rfl Try.func112 (by kernel_rfl) rfl #[.slice A0_0 l0_0.length c0_0, .slice A1_0 l1_0.length c1_0] rfl (by (try simp only [List.map_toArray, List.map_cons, List.map_nil]); first | done | rfl | (simp only [List.length_drop, List.length_take]; rfl)) ?_; (with_reducible refine (laws_eqRelationS.calls k _ _ l0_0 _ _ l1_0 false _ ?side1 ?side2 ?side3 ?side4 A3.out).mono ?_); (case side1 => repeat (first | exact (Kd.C_below HR0_0.out HB.out) | (with_reducible refine Kd.C_alloc ?_ _) | (with_reducible refine Kd.C_drewN ?_ _) | (with_reducible refine Kd.C_drew ?_))); (case side2 => exact HC0_0.out); (case side3 => repeat (first | exact (Kd.C_below HR1_0.out HB.out) | (with_reducible refine Kd.C_alloc ?_ _) | (with_reducible refine Kd.C_drewN ?_ _) | (with_reducible refine Kd.C_drew ?_))); (case side4 => exact HC1_0.out); rintro e w16 ⟨rfl, hb⟩; refine ⟨_, rfl, ?_⟩; have n0_ := Aside0.mk (blk_below (g := gb650) (o := .cells #[.slice A0_0 l0_0.length c0_0] 71 (0, 0)) (by (with_reducible repeat (first | refine blk_drewN ?_ _ | refine blk_drew ?_ | refine blk_alloc ?_ _)); exact BK650.out) hb); have n1_ := Aside0.mk (blk_below (g := gb651) (o := .cells #[.slice A1_0 l1_0.length c1_0] 71 (0, 0)) (by (with_reducible repeat (first | refine blk_drewN ?_ _ | refine blk_drew ?_ | refine blk_alloc ?_ _)); exact BK651.out) hb); have n2_ := Aside0.mk (below_step (by repeat (first | (with_reducible first | exact HB.out | apply below_alloc | apply pw_below_drewN | apply below_drew1 | refine below_set ?_ GE650.out | refine below_set ?_ GE651.out) | exact HB.out)) hb); clear BK650; clear BK651; clear HB; have BK650 := n0_; have BK651 := n1_; have HB := n2_; clear n0_ n1_ n2_; (try clear hb); (try clear hb2); (try clear hk); (try clear hi)))
  go_ret
  exact ⟨by first | rfl | (simp [errW_none, errW_some] <;> rfl) | (simp [*, errW_none, errW_some] <;> rfl), by repeat (first | (with_reducible first | exact HB.out | apply below_alloc | apply pw_below_drewN | apply below_drew1 | refine below_set ?_ GE650.out | refine below_set ?_ GE651.out) | exact HB.out)⟩
end Go.Proofs.Ytkolhpmhbgbphaa.P
namespace Go.Proofs.Ytkolhpmhbgbphaa.PT
open Go.RowKit Go.Proofs.Ytkolhpmhbgbphaa.P Go.Proofs.YtkolhpmhbgbphaaW.PrintWords Go.Proofs.YtkolhpmhbgbphaaW.PrintLast Go.Proofs.Ytkolhpmhbgbphaa.MapKit Go.Proofs.Ytkolhpmhbgbphaa.EvKit
set_option linter.unusedVariables false
set_option linter.unusedSimpArgs false
theorem cell_on {W W' : World} {p : Addr} {v : Value} (h : W.cell? p = some v) (hb : Below W.heap.size W W') : W'.cell? p = some v := (hb.cell (World.block_lt_of_cell? W _ h)).trans h
def B4 (W : World) (n : Nat) (b c d e : Value) : Prop := W.cell? ⟨n, 0, none⟩ = some b ∧ W.cell? ⟨n, 1, none⟩ = some c ∧ W.cell? ⟨n, 2, none⟩ = some d ∧ W.cell? ⟨n, 3, none⟩ = some e
theorem B4.below {W W' : World} {n : Nat} {b c d e : Value} (h : B4 W n b c d e) (hb : Below W.heap.size W W') : B4 W' n b c d e := ⟨cell_on h.1 hb, cell_on h.2.1 hb, cell_on h.2.2.1 hb, cell_on h.2.2.2 hb⟩
def ToD (W : World) (rels : List S151) (e : Ending) (W' : World) : Prop := ∃ A c, e = .returned (.agg #[.slice A rels.length c]) ∧ rels.length ≤ c ∧ Kd.C k151 W' A rels.length rels ∧ Below W.heap.size W W'
def ToQ (W : World) (nm : ByteArray) (hd : List ByteArray) (rg : Int) (ats : List At) (e : Ending) (W' : World) : Prop := ∃ A1 c1 A3 c3, e = .returned (.agg #[.string nm, .slice A1 hd.length c1, .int .i64 rg, .slice A3 ats.length c3]) ∧
  hd.length ≤ c1 ∧ Kd.C Kd.string W' A1 hd.length hd ∧ ats.length ≤ c3 ∧ Kd.C k148 W' A3 ats.length ats ∧ Below W.heap.size W W'
set_option maxHeartbeats 8000000 in
set_option maxRecDepth 100000 in
theorem lawCheck_walk (A0 : Option Addr) (c0 : Nat) (n0 : Nat) (a1 : ByteArray) (A1 : Option Addr) (c1 : Nat) (n1 : Nat) (a2 : Int) (A3 : Option Addr) (c3 : Nat) (n3 : Nat) (w : World)
    (rels : List S151) (hd : List ByteArray) (ats : List At) (zD zQ : Int) (cg : Int × Int)
    (hzD : ∀ W, Below w.heap.size w W → Calls Try.prog 40 #[.agg #[.slice A0 n0 c0], .int .i64 1048576] W fun e W' => e = .returned (.int .i64 zD) ∧ Below W.heap.size W W')
    (hzQ : 0 ≤ zD → ∀ W, Below w.heap.size w W → Calls Try.prog 21 #[.agg #[.string a1, .slice A1 n1 c1, .int .i64 a2, .slice A3 n3 c3], .int .i64 zD] W fun e W' => e = .returned (.int .i64 zQ) ∧ Below W.heap.size W W')
    (htD : 0 ≤ zD → 0 ≤ zQ → ∀ W, Below w.heap.size w W → Calls Try.prog 42 #[.agg #[.slice A0 n0 c0]] W (ToD W rels))
    (htQ : 0 ≤ zD → 0 ≤ zQ → ∀ W, Below w.heap.size w W → Calls Try.prog 23 #[.agg #[.string a1, .slice A1 n1 c1, .int .i64 a2, .slice A3 n3 c3]] W (ToQ W a1 hd a2 ats))
    (hsC : 0 ≤ zD → 0 ≤ zQ → ∀ W A0 c0 A1 c1 A3 c3, Kd.C k151 W A0 rels.length rels → rels.length ≤ c0 → Kd.C Kd.string W A1 hd.length hd → hd.length ≤ c1 → Kd.C k148 W A3 ats.length ats → ats.length ≤ c3 → Calls Try.prog 41 #[.agg #[.slice A0 rels.length c0], .agg #[.string a1, .slice A1 hd.length c1, .int .i64 a2, .slice A3 ats.length c3]] W fun e W' => e = .returned (pairV cg) ∧ Below W.heap.size W W')
    (hiC : 0 ≤ zD → 0 ≤ zQ → ∀ W A0 c0 A1 c1 A3 c3, Kd.C k151 W A0 rels.length rels → rels.length ≤ c0 → Kd.C Kd.string W A1 hd.length hd → hd.length ≤ c1 → Kd.C k148 W A3 ats.length ats → ats.length ≤ c3 → Calls Try.prog 43 #[.agg #[.slice A0 rels.length c0], .agg #[.string a1, .slice A1 hd.length c1, .int .i64 a2, .slice A3 ats.length c3]] W fun e W' => e = .returned (pairV cg) ∧ Below W.heap.size W W')
    (heD : 0 ≤ zD → 0 ≤ zQ → ∀ W A c A' c', Kd.C k151 W A rels.length rels → rels.length ≤ c → Kd.C k151 W A' rels.length rels → rels.length ≤ c' → Calls Try.prog 44 #[.agg #[.slice A rels.length c], .agg #[.slice A' rels.length c']] W fun e W' => e = .returned (.bool true) ∧ Below W.heap.size W W')
    (heQ : 0 ≤ zD → 0 ≤ zQ → ∀ W A1 c1 A3 c3 B1 d1 B3 d3, Kd.C Kd.string W A1 hd.length hd → hd.length ≤ c1 → Kd.C k148 W A3 ats.length ats → ats.length ≤ c3 → Kd.C Kd.string W B1 hd.length hd → hd.length ≤ d1 → Kd.C k148 W B3 ats.length ats → ats.length ≤ d3 →
      Calls Try.prog 26 #[.agg #[.string a1, .slice A1 hd.length c1, .int .i64 a2, .slice A3 ats.length c3], .agg #[.string a1, .slice B1 hd.length d1, .int .i64 a2, .slice B3 ats.length d3]] W fun e W' => e = .returned (.bool true) ∧ Below W.heap.size W W') :
    Calls Try.prog 7 #[.agg #[.slice A0 n0 c0], .agg #[.string a1, .slice A1 n1 c1, .int .i64 a2, .slice A3 n3 c3]] w fun e w' => e = .returned (.bool true) ∧ Below w.heap.size w w' := by
  have hu0 := Try.underlying65
  have hu1 := Try.underlying34
  have hu2 := Try.underlying71
  have hu3 := Try.underlying39
  have HB := Aside0.mk (Below.refl w.heap.size w)
  have HzD := Aside0.mk hzD
  clear hzD
  by_cases z1 : zD < 0
  · have e1 : decide (zD < 0) = true := decide_eq_true z1
    clear hzQ htD htQ hsC hiC heD heQ z1
    go_enter Try.func7, Try.ntmps7
    go_wp2_with (first | (go_at_call 40; (with_reducible refine (HzD.out _ (by repeat (first | exact HB.out | apply below_alloc))).mono ?_); rintro e w1 ⟨rfl, hb1⟩; have HB1 : Aside0 (Below w.heap.size w w1) := ⟨below_step (by repeat (first | exact HB.out | apply below_alloc)) hb1⟩; have HX1 : Aside0 (Bx w1 w.heap.size (.slice A0 n0 c0) (.string a1) (.slice A1 n1 c1) (.int .i64 a2) (.slice A3 n3 c3)) := ⟨Bx.below ⟨by go_simp, by go_simp, by go_simp, by go_simp, by go_simp⟩ hb1⟩; clear hb1; obtain ⟨p0, q0, q1, q2, q3⟩ := HX1.out))
    go_ret
    exact ⟨rfl, HB1.out⟩
  · have e1 : decide (zD < 0) = false := decide_eq_false z1
    have HzQ := Aside0.mk (hzQ (by omega))
    clear hzQ
    by_cases z2 : zQ < 0
    · have e2 : decide (zQ < 0) = true := decide_eq_true z2
      clear htD htQ hsC hiC heD heQ z1 z2
      go_enter Try.func7, Try.ntmps7
      go_wp2_with (first | (go_at_call 40; (with_reducible refine (HzD.out _ (by repeat (first | exact HB.out | apply below_alloc))).mono ?_); rintro e w1 ⟨rfl, hb1⟩; have HB1 : Aside0 (Below w.heap.size w w1) := ⟨below_step (by repeat (first | exact HB.out | apply below_alloc)) hb1⟩; have HX1 : Aside0 (Bx w1 w.heap.size (.slice A0 n0 c0) (.string a1) (.slice A1 n1 c1) (.int .i64 a2) (.slice A3 n3 c3)) := ⟨Bx.below ⟨by go_simp, by go_simp, by go_simp, by go_simp, by go_simp⟩ hb1⟩; clear hb1; obtain ⟨p0, q0, q1, q2, q3⟩ := HX1.out) | (go_at_call 21; (with_reducible refine (HzQ.out _ HB1.out).mono ?_); rintro e w2 ⟨rfl, hb2⟩; have HB2 : Aside0 (Below w.heap.size w w2) := ⟨below_step HB1.out hb2⟩; have HX2 : Aside0 (Bx w2 w.heap.size (.slice A0 n0 c0) (.string a1) (.slice A1 n1 c1) (.int .i64 a2) (.slice A3 n3 c3)) := ⟨HX1.out.below hb2⟩; clear hb2 p0 q0 q1 q2 q3; obtain ⟨p0, q0, q1, q2, q3⟩ := HX2.out))
      go_ret
      exact ⟨rfl, HB2.out⟩
    · have e2 : decide (zQ < 0) = false := decide_eq_false z2
      have HtD := Aside0.mk (htD (by omega) (by omega))
      have HtQ := Aside0.mk (htQ (by omega) (by omega))
      have HsC := Aside0.mk (hsC (by omega) (by omega))
      have HiC := Aside0.mk (hiC (by omega) (by omega))
      have HeD := Aside0.mk (heD (by omega) (by omega))
      have HeQ := Aside0.mk (heQ (by omega) (by omega))
      clear htD htQ hsC hiC heD heQ z1 z2
      obtain ⟨g1, g2⟩ := cg
      have b1 : (g1 != g1) = false := by simp
      have b2 : (g2 != g2) = false := by simp
      go_enter Try.func7, Try.ntmps7
      go_wp2_with (first | (go_at_call 40; (with_reducible refine (HzD.out _ (by repeat (first | exact HB.out | apply below_alloc))).mono ?_); rintro e w1 ⟨rfl, hb1⟩; have HB1 : Aside0 (Below w.heap.size w w1) := ⟨below_step (by repeat (first | exact HB.out | apply below_alloc)) hb1⟩; have HX1 : Aside0 (Bx w1 w.heap.size (.slice A0 n0 c0) (.string a1) (.slice A1 n1 c1) (.int .i64 a2) (.slice A3 n3 c3)) := ⟨Bx.below ⟨by go_simp, by go_simp, by go_simp, by go_simp, by go_simp⟩ hb1⟩; clear hb1; obtain ⟨p0, q0, q1, q2, q3⟩ := HX1.out) | (go_at_call 21; (with_reducible refine (HzQ.out _ HB1.out).mono ?_); rintro e w2 ⟨rfl, hb2⟩; have HB2 : Aside0 (Below w.heap.size w w2) := ⟨below_step HB1.out hb2⟩; have HX2 : Aside0 (Bx w2 w.heap.size (.slice A0 n0 c0) (.string a1) (.slice A1 n1 c1) (.int .i64 a2) (.slice A3 n3 c3)) := ⟨HX1.out.below hb2⟩; clear hb2 p0 q0 q1 q2 q3; obtain ⟨p0, q0, q1, q2, q3⟩ := HX2.out))
      clear p0 q0 q1 q2 q3
      go_region_held3 (fun w' => w'.cell? ⟨w.heap.size, 0, none⟩ = some (.slice A0 n0 c0) ∧ w'.cell? ⟨w.heap.size + 1, 0, none⟩ = some (.string a1) ∧ w'.cell? ⟨w.heap.size + 1, 1, none⟩ = some (.slice A1 n1 c1) ∧ w'.cell? ⟨w.heap.size + 1, 2, none⟩ = some (.int .i64 a2) ∧ w'.cell? ⟨w.heap.size + 1, 3, none⟩ = some (.slice A3 n3 c3)) (first | exact HX2.out.below (below_drew1 (Below.refl _ _)) | exact HX3.out | exact HX4.out | exact HX5.out)
        (first
          | (go_at_call 42; (with_reducible refine (HtD.out _ (below_drew1 HB2.out)).mono ?_); rintro e w3 ⟨B0, d0, rfl, hl3, hr3, hb3⟩; have HB3 : Aside0 (Below w.heap.size w w3) := ⟨below_step (below_drew1 HB2.out) hb3⟩; have HX3 : Aside0 (Bx w3 w.heap.size (.slice A0 n0 c0) (.string a1) (.slice A1 n1 c1) (.int .i64 a2) (.slice A3 n3 c3)) := ⟨(HX2.out.below (below_drew1 (Below.refl _ _))).below hb3⟩; have HR3 := Aside0.mk hr3; have HL3 := Aside0.mk hl3; clear hr3 hl3 hb3)
          | (go_at_call 23; (with_reducible refine (HtQ.out _ HB3.out).mono ?_); rintro e w4 ⟨B1, d1, B3, d3, rfl, hl4, hr4, hl5, hr5, hb4⟩; have HB4 : Aside0 (Below w.heap.size w w4) := ⟨below_step HB3.out hb4⟩; have HX4 : Aside0 (Bx w4 w.heap.size (.slice A0 n0 c0) (.string a1) (.slice A1 n1 c1) (.int .i64 a2) (.slice A3 n3 c3)) := ⟨HX3.out.below hb4⟩; have HR34 := Aside0.mk (Kd.C_below HR3.out hb4); have HR4 := Aside0.mk hr4; have HL4 := Aside0.mk hl4; have HR5 := Aside0.mk hr5; have HL5 := Aside0.mk hl5; clear hr4 hl4 hr5 hl5 hb4)
          | (go_at_call 41; (with_reducible refine (HsC.out _ B0 d0 B1 d1 B3 d3 HR34.out HL3.out HR4.out HL4.out HR5.out HL5.out).mono ?_); rintro e w5 ⟨rfl, hb5⟩; have HB5 : Aside0 (Below w.heap.size w w5) := ⟨below_step HB4.out hb5⟩; have HX5 : Aside0 (Bx w5 w.heap.size (.slice A0 n0 c0) (.string a1) (.slice A1 n1 c1) (.int .i64 a2) (.slice A3 n3 c3)) := ⟨HX4.out.below hb5⟩; clear hb5; unfold pairV))
      obtain ⟨p0, q0, q1, q2, q3⟩ := HX5.out
      go_wp2_with (first | (go_at_call 42; (with_reducible refine (HtD.out _ HB5.out).mono ?_); rintro e w6 ⟨C0, f0, rfl, hl6, hr6, hb6⟩; have HB6 : Aside0 (Below w.heap.size w w6) := ⟨below_step HB5.out hb6⟩; have HX6 : Aside0 (Bx w6 w.heap.size (.slice A0 n0 c0) (.string a1) (.slice A1 n1 c1) (.int .i64 a2) (.slice A3 n3 c3)) := ⟨HX5.out.below hb6⟩; have HR6 := Aside0.mk hr6; have HL6 := Aside0.mk hl6; clear hr6 hl6 hb6 p0 q0 q1 q2 q3; obtain ⟨p0, q0, q1, q2, q3⟩ := HX6.out; have hz6 : w.heap.size + 1 < w6.heap.size := World.block_lt_of_cell? w6 _ q0; have hz60 : w.heap.size < w6.heap.size := World.block_lt_of_cell? w6 _ p0) | (go_at_call 23; (with_reducible refine (HtQ.out _ (below_alloc HB6.out _)).mono ?_); rintro e w7 ⟨C1, f1, C3, f3, rfl, hl7, hr7, hl8, hr8, hb7⟩; have HB7 : Aside0 (Below w.heap.size w w7) := ⟨below_step (below_alloc HB6.out _) hb7⟩; have HX7 : Aside0 (Bx w7 w.heap.size (.slice A0 n0 c0) (.string a1) (.slice A1 n1 c1) (.int .i64 a2) (.slice A3 n3 c3)) := ⟨(HX6.out.below (below_alloc (Below.refl _ _) _)).below hb7⟩; have HR67 := Aside0.mk (Kd.C_below (Kd.C_below HR6.out (below_alloc (Below.refl _ _) _)) hb7); have c8 : w7.cell? ⟨w6.heap.size, 0, none⟩ = some (.slice C0 rels.length f0) := (hb7.cell (p := ⟨w6.heap.size, 0, none⟩) (by simp)).trans (by go_simp); have hz7 : w6.heap.size < w7.heap.size := World.block_lt_of_cell? w7 _ c8; have HR7 := Aside0.mk hr7; have HL7 := Aside0.mk hl7; have HR8 := Aside0.mk hr8; have HL8 := Aside0.mk hl8; clear hr7 hl7 hr8 hl8 hb7 p0 q0 q1 q2 q3) | (go_at_call 43; (with_reducible refine (HiC.out _ C0 f0 C1 f1 C3 f3 (Kd.C_below HR67.out (below_alloc (Below.refl _ _) _)) HL6.out (Kd.C_below HR7.out (below_alloc (Below.refl _ _) _)) HL7.out (Kd.C_below HR8.out (below_alloc (Below.refl _ _) _)) HL8.out).mono ?_); rintro e w8 ⟨rfl, hb8⟩; have HB8 : Aside0 (Below w.heap.size w w8) := ⟨below_step (below_alloc HB7.out _) hb8⟩; have HX8 : Aside0 (Bx w8 w.heap.size (.slice A0 n0 c0) (.string a1) (.slice A1 n1 c1) (.int .i64 a2) (.slice A3 n3 c3)) := ⟨(HX7.out.below (below_alloc (Below.refl _ _) _)).below hb8⟩; have HC8 : Aside0 (w8.cell? ⟨w6.heap.size, 0, none⟩ = some (.slice C0 rels.length f0)) := ⟨cell_on (cell_on c8 (below_alloc (Below.refl _ _) _)) hb8⟩; have HY8 : Aside0 (B4 w8 w7.heap.size (.string a1) (.slice C1 hd.length f1) (.int .i64 a2) (.slice C3 ats.length f3)) := ⟨B4.below ⟨by go_simp, by go_simp, by go_simp, by go_simp⟩ hb8⟩; have HRR : Aside0 (Kd.C k151 w8 C0 rels.length rels) := ⟨Kd.C_below (Kd.C_below HR67.out (below_alloc (Below.refl _ _) _)) hb8⟩; have HRH : Aside0 (Kd.C Kd.string w8 C1 hd.length hd) := ⟨Kd.C_below (Kd.C_below HR7.out (below_alloc (Below.refl _ _) _)) hb8⟩; have HRA : Aside0 (Kd.C k148 w8 C3 ats.length ats) := ⟨Kd.C_below (Kd.C_below HR8.out (below_alloc (Below.refl _ _) _)) hb8⟩; clear hb8 c8; unfold pairV))
      go_region_held3 (fun w' => w'.cell? ⟨w6.heap.size, 0, none⟩ = some (.slice C0 rels.length f0) ∧ w'.cell? ⟨w.heap.size, 0, none⟩ = some (.slice A0 n0 c0)) (first | exact ⟨cell_on HC8.out (below_drew1 (Below.refl _ _)), (HX8.out.below (below_drew1 (Below.refl _ _))).1⟩ | exact ⟨cell_on HC8.out HT9.out, (HX8.out.below HT9.out).1⟩ | exact ⟨cell_on HC8.out HT10.out, (HX8.out.below HT10.out).1⟩) (first | (go_at_call 42; (with_reducible refine (HtD.out _ (below_drew1 HB8.out)).mono ?_); rintro e w9 ⟨D0, h0, rfl, hl9, hr9, hb9⟩; have HB9 : Aside0 (Below w.heap.size w w9) := ⟨below_step (below_drew1 HB8.out) hb9⟩; have HT9 : Aside0 (Below w8.heap.size w8 w9) := ⟨below_step (below_drew1 (Below.refl _ _)) hb9⟩; have HR9 := Aside0.mk hr9; have HL9 := Aside0.mk hl9; clear hr9 hl9 hb9) | (go_at_call 44; (with_reducible refine (HeD.out _ C0 f0 D0 h0 (Kd.C_below HRR.out HT9.out) HL6.out HR9.out HL9.out).mono ?_); rintro e w10 ⟨rfl, hb10⟩; have HB10 : Aside0 (Below w.heap.size w w10) := ⟨below_step HB9.out hb10⟩; have HT10 : Aside0 (Below w8.heap.size w8 w10) := ⟨below_step HT9.out hb10⟩; clear hb10))
      go_wp2
      go_region_held3 (fun w' => w'.cell? ⟨w7.heap.size, 0, none⟩ = some (.string a1) ∧ w'.cell? ⟨w7.heap.size, 1, none⟩ = some (.slice C1 hd.length f1) ∧ w'.cell? ⟨w7.heap.size, 2, none⟩ = some (.int .i64 a2) ∧ w'.cell? ⟨w7.heap.size, 3, none⟩ = some (.slice C3 ats.length f3) ∧ w'.cell? ⟨w.heap.size + 1, 0, none⟩ = some (.string a1) ∧ w'.cell? ⟨w.heap.size + 1, 1, none⟩ = some (.slice A1 n1 c1) ∧ w'.cell? ⟨w.heap.size + 1, 2, none⟩ = some (.int .i64 a2) ∧ w'.cell? ⟨w.heap.size + 1, 3, none⟩ = some (.slice A3 n3 c3)) (first | exact ⟨(HY8.out.below (below_drew1 HT10.out)).1, (HY8.out.below (below_drew1 HT10.out)).2.1, (HY8.out.below (below_drew1 HT10.out)).2.2.1, (HY8.out.below (below_drew1 HT10.out)).2.2.2, (HX8.out.below (below_drew1 HT10.out)).2⟩ | exact ⟨(HY8.out.below HT11.out).1, (HY8.out.below HT11.out).2.1, (HY8.out.below HT11.out).2.2.1, (HY8.out.below HT11.out).2.2.2, (HX8.out.below HT11.out).2⟩ | exact ⟨(HY8.out.below HT12.out).1, (HY8.out.below HT12.out).2.1, (HY8.out.below HT12.out).2.2.1, (HY8.out.below HT12.out).2.2.2, (HX8.out.below HT12.out).2⟩) (first | (go_at_call 23; (with_reducible refine (HtQ.out _ (below_drew1 HB10.out)).mono ?_); rintro e w11 ⟨E1, i1, E3, i3, rfl, hl11, hr11, hl12, hr12, hb11⟩; have HB11 : Aside0 (Below w.heap.size w w11) := ⟨below_step (below_drew1 HB10.out) hb11⟩; have HT11 : Aside0 (Below w8.heap.size w8 w11) := ⟨below_step (below_drew1 HT10.out) hb11⟩; have HR11 := Aside0.mk hr11; have HL11 := Aside0.mk hl11; have HR12 := Aside0.mk hr12; have HL12 := Aside0.mk hl12; clear hr11 hl11 hr12 hl12 hb11) | (go_at_call 26; (with_reducible refine (HeQ.out _ C1 f1 C3 f3 E1 i1 E3 i3 (Kd.C_below HRH.out HT11.out) HL7.out (Kd.C_below HRA.out HT11.out) HL8.out HR11.out HL11.out HR12.out HL12.out).mono ?_); rintro e w12 ⟨rfl, hb12⟩; have HB12 : Aside0 (Below w.heap.size w w12) := ⟨below_step HB11.out hb12⟩; have HT12 : Aside0 (Below w8.heap.size w8 w12) := ⟨below_step HT11.out hb12⟩; clear hb12))
      go_wp2
      go_ret
      exact ⟨rfl, HB12.out⟩
end Go.Proofs.Ytkolhpmhbgbphaa.PT
namespace Go.Proofs.Ytkolhpmhbgbphaa.PT
set_option linter.unusedSimpArgs false
open Go.RowKit Go.Proofs.Ytkolhpmhbgbphaa.P Go.Proofs.YtkolhpmhbgbphaaW.PrintWords Go.Proofs.YtkolhpmhbgbphaaW.PrintLast Go.Proofs.Ytkolhpmhbgbphaa.EvKit
def cmpL : List Int → List Int → Int
  | [], [] => 0
  | [], _ :: _ => -1
  | _ :: _, [] => 1
  | a :: s, b :: t => if a < b then -1 else if b < a then 1 else cmpL s t
theorem cmpInt_v (a b : Int) : cmp_Compare_int.f a b = some (if a < b then -1 else if b < a then 1 else 0) := by
  unfold cmp_Compare_int.f cmp_isNaN_int.f
  simp only [bne_self_eq_false, Option.bind_some, Bool.false_eq_true, if_false]
  by_cases h1 : a < b
  · rw [if_pos h1, if_pos h1]
  · rw [if_neg h1, if_neg h1]
    by_cases h2 : b < a
    · rw [if_pos h2, if_pos h2]
    · rw [if_neg h2, if_neg h2]
theorem slicesCompare_l0 (a b : List Int) (ha : a.length ≤ 9223372036854775806) : ∀ i, i ≤ a.length → i ≤ b.length → Ev (fun k => slices_Compare_int_int.l0 k a b a (a.length : Int) (i : Int)) (cmpL (a.drop i) (b.drop i)) := by
  have key : ∀ d i, i + d = a.length → i ≤ b.length → Ev (fun k => slices_Compare_int_int.l0 k a b a (a.length : Int) (i : Int)) (cmpL (a.drop i) (b.drop i)) := by
    intro d
    induction d with
    | zero =>
      intro i hi hb
      refine Ev.succ ?_
      simp only [slices_Compare_int_int.l0, if_neg (show ¬ ((i : Int) < (a.length : Int)) by omega)]
      rw [List.drop_of_length_le (l := a) (by omega)]
      by_cases h : a.length < b.length
      · simp only [if_pos (show (a.length : Int) < (b.length : Int) by omega)]
        rw [drop_at (show i < b.length by omega)]; exact Ev.now _
      · simp only [if_neg (show ¬ (a.length : Int) < (b.length : Int) by omega)]
        rw [List.drop_of_length_le (l := b) (by omega)]; exact Ev.now _
    | succ d ih =>
      intro i hi hb
      have hlt : i < a.length := by omega
      refine Ev.succ ?_
      simp only [slices_Compare_int_int.l0, if_pos (show ((i : Int) < (a.length : Int)) by omega), if_pos (show (0 : Int) ≤ (i : Int) by omega), rd_at hlt, w64n (show i ≤ 9223372036854775806 by omega)]
      rw [drop_at hlt]
      by_cases h : i < b.length
      · simp only [if_neg (show ¬ ((i : Int) ≥ (b.length : Int)) by omega), if_pos (show ((i : Int) < (b.length : Int)) by omega), rd_at h, cmpInt_v, Option.bind_some]
        rw [drop_at h]
        simp only [cmpL]
        by_cases h1 : a[i] < b[i]
        · simp only [if_pos h1, show ¬ ((-1 : Int) = 0) by omega, if_false]; exact Ev.now _
        · by_cases h2 : b[i] < a[i]
          · simp only [if_neg h1, if_pos h2, show ¬ ((1 : Int) = 0) by omega, if_false]; exact Ev.now _
          · simp only [if_neg h1, if_neg h2, if_true]; exact ih (i + 1) (by omega) (by omega)
      · simp only [if_pos (show ((i : Int) ≥ (b.length : Int)) by omega)]
        rw [List.drop_of_length_le (l := b) (by omega)]; exact Ev.now _
  intro i hi hb
  exact key (a.length - i) i (by omega) hb
theorem slicesCompare_ev (a b : List Int) (ha : a.length ≤ 9223372036854775806) : Ev (fun k => slices_Compare_int_int.f k a b) (cmpL a b) := by
  unfold slices_Compare_int_int.f
  have := slicesCompare_l0 a b ha 0 (by omega) (by omega)
  simpa using this
theorem l2Compare_l0 (a b : List Int) (ha : a.length ≤ 9223372036854775806) : ∀ d i, i + d = a.length → i ≤ b.length → Ev (fun k => spec_l2Compare.l0 k a b (i : Int)) (cmpL (a.drop i) (b.drop i)) := by
  intro d
  induction d with
  | zero =>
    intro i hi hb
    refine Ev.succ (Ev.congr (f := fun k => spec_l2Compare.j1 k a b (i : Int) false) (fun k => by simp only [spec_l2Compare.l0, if_neg (show ¬ ((i : Int) < (a.length : Int)) by omega)]) (Ev.succ ?_))
    simp only [spec_l2Compare.j1, Bool.false_eq_true, if_false]
    rw [List.drop_of_length_le (l := a) (by omega)]
    by_cases h : a.length < b.length
    · simp only [if_neg (show ¬ (a.length : Int) = (b.length : Int) by omega), if_pos (show (a.length : Int) < (b.length : Int) by omega)]
      rw [drop_at (show i < b.length by omega)]; exact Ev.now _
    · simp only [if_pos (show (a.length : Int) = (b.length : Int) by omega)]
      rw [List.drop_of_length_le (l := b) (by omega)]; exact Ev.now _
  | succ d ih =>
    intro i hi hb
    have hlt : i < a.length := by omega
    refine Ev.succ (Ev.congr (f := fun k => spec_l2Compare.j1 k a b (i : Int) (decide ((i : Int) < (b.length : Int)))) (fun k => by simp only [spec_l2Compare.l0, if_pos (show ((i : Int) < (a.length : Int)) by omega)]) (Ev.succ ?_))
    rw [drop_at hlt]
    by_cases h : i < b.length
    · simp only [spec_l2Compare.j1, show ((i : Int) < (b.length : Int)) by omega, decide_true, if_true, show (0 : Int) ≤ (i : Int) by omega, show ((i : Int) < (a.length : Int)) by omega, rd_at hlt, rd_at h, w64n (show i ≤ 9223372036854775806 by omega)]
      rw [drop_at h]
      simp only [cmpL]
      by_cases h1 : a[i] < b[i]
      · simp only [if_pos h1]; exact Ev.now _
      · by_cases h2 : b[i] < a[i]
        · simp only [if_neg h1, if_pos (show a[i] > b[i] by omega), if_pos h2]; exact Ev.now _
        · simp only [if_neg h1, if_neg (show ¬ a[i] > b[i] by omega), if_neg h2]; exact ih (i + 1) (by omega) (by omega)
    · simp only [spec_l2Compare.j1, show ¬ ((i : Int) < (b.length : Int)) by omega, decide_false, Bool.false_eq_true, if_false]
      rw [List.drop_of_length_le (l := b) (by omega)]
      simp only [if_neg (show ¬ (a.length : Int) = (b.length : Int) by omega), if_neg (show ¬ (a.length : Int) < (b.length : Int) by omega)]; exact Ev.now _
theorem l2Compare_ev (a b : List Int) (ha : a.length ≤ 9223372036854775806) : Ev (fun k => spec_l2Compare.f k a b) (cmpL a b) := by
  unfold spec_l2Compare.f
  have := l2Compare_l0 a b ha a.length 0 (by omega) (by omega)
  simpa using this
noncomputable def rowsR (l : List (List Int)) (w : Int) (i : Nat) : Bool := @decide (∀ j, i ≤ j → ∀ h : j < l.length, (l[j].length : Int) = w ∧ (0 < j → cmpL (l.getD (j - 1) []) l[j] < 0)) (Classical.propDecidable _)
theorem rowsR_end (l : List (List Int)) (w : Int) {i : Nat} (h : l.length ≤ i) : rowsR l w i = true := by unfold rowsR; exact @decide_eq_true _ (Classical.propDecidable _) (fun j hj hl => by omega)
theorem rowsR_no1 (l : List (List Int)) (w : Int) {i : Nat} (h : i < l.length) (h1 : ¬ (l[i].length : Int) = w) : rowsR l w i = false := by unfold rowsR; exact @decide_eq_false _ (Classical.propDecidable _) (fun H => h1 (H i (Nat.le_refl _) h).1)
theorem rowsR_no2 (l : List (List Int)) (w : Int) {i : Nat} (h : i < l.length) (h0 : 0 < i) (h1 : ¬ cmpL (l.getD (i - 1) []) l[i] < 0) : rowsR l w i = false := by unfold rowsR; exact @decide_eq_false _ (Classical.propDecidable _) (fun H => h1 ((H i (Nat.le_refl _) h).2 h0))
theorem rowsR_on (l : List (List Int)) (w : Int) {i : Nat} (h : i < l.length) (h1 : (l[i].length : Int) = w) (h2 : 0 < i → cmpL (l.getD (i - 1) []) l[i] < 0) : rowsR l w i = rowsR l w (i + 1) := by
  unfold rowsR
  rw [decide_eq_decide]
  constructor
  · intro H j hj hl; exact H j (by omega) hl
  · intro H j hj hl
    by_cases e : j = i
    · subst e; exact ⟨h1, h2⟩
    · exact H j (by omega) hl
theorem rowsOK_ev (l : List (List Int)) (w : Int) (hl : l.length ≤ 9223372036854775806) (hll : ∀ x, x ∈ l → x.length ≤ 9223372036854775806) : Ev (fun k => impl_rowsOK.f k l w) (rowsR l w 0) := by
  unfold impl_rowsOK.f
  refine Ev.loop (g := fun k i => impl_rowsOK.l0 k l w l (l.length : Int) (i : Int)) (n := l.length) (R := rowsR l w) ?_ ?_ 0 (Nat.zero_le _)
  · refine Ev.succ ?_
    simp only [impl_rowsOK.l0, if_neg (show ¬ ((l.length : Int) < (l.length : Int)) by omega), rowsR_end l w (Nat.le_refl _)]
    exact Ev.now _
  · intro i hi ih
    refine Ev.succ ?_
    have hr : rd_L1 l (i : Int) = l[i] := getD_at _ hi
    simp only [impl_rowsOK.l0, if_pos (show ((i : Int) < (l.length : Int)) by omega), if_pos (show (0 : Int) ≤ (i : Int) by omega), hr, w64n (show i ≤ 9223372036854775806 by omega)]
    by_cases h1 : (l[i].length : Int) = w
    · simp only [if_pos h1]
      by_cases h0 : i = 0
      · subst h0
        simp only [show ¬ (((0 : Nat) : Int) > 0) by omega, if_false]
        rw [rowsR_on l w hi h1 (fun h => by omega)]; exact ih
      · have hw : wrap64 ((i : Int) - 1) = ((i - 1 : Nat) : Int) := by unfold wrap64; omega
        have hp : rd_L1 l ((i - 1 : Nat) : Int) = l.getD (i - 1) [] := by unfold rd_L1; rw [Int.toNat_natCast]
        have hpl : (l.getD (i - 1) []).length ≤ 9223372036854775806 := by
          have e : l.getD (i - 1) [] = l[i - 1] := by simp [List.getD_eq_getElem?_getD, show i - 1 < l.length by omega]
          rw [e]; exact hll _ (List.getElem_mem _)
        simp only [show ((i : Int) > 0) by omega, if_true, hw, show (0 : Int) ≤ ((i - 1 : Nat) : Int) by omega, show (((i - 1 : Nat) : Int) < (l.length : Int)) by omega, hp]
        refine Ev.bind (slicesCompare_ev _ _ hpl) ?_
        by_cases h2 : cmpL (l.getD (i - 1) []) l[i] < 0
        · simp only [if_neg (show ¬ (cmpL (l.getD (i - 1) []) l[i] ≥ 0) by omega)]
          rw [rowsR_on l w hi h1 (fun _ => h2)]; exact ih
        · simp only [if_pos (show (cmpL (l.getD (i - 1) []) l[i] ≥ 0) by omega)]
          rw [rowsR_no2 l w hi (by omega) h2]; exact Ev.now _
    · simp only [if_neg h1]
      rw [rowsR_no1 l w hi h1]; exact Ev.now _
theorem l2SortedRows_ev (l : List (List Int)) (w : Int) (hl : l.length ≤ 9223372036854775806) (hll : ∀ x, x ∈ l → x.length ≤ 9223372036854775806) : Ev (fun k => spec_l2SortedRows.f k l w) (rowsR l w 0) := by
  unfold spec_l2SortedRows.f
  refine Ev.loop (g := fun k i => spec_l2SortedRows.l0 k l w l (l.length : Int) (i : Int)) (n := l.length) (R := rowsR l w) ?_ ?_ 0 (Nat.zero_le _)
  · refine Ev.succ ?_
    simp only [spec_l2SortedRows.l0, if_neg (show ¬ ((l.length : Int) < (l.length : Int)) by omega), rowsR_end l w (Nat.le_refl _)]
    exact Ev.now _
  · intro i hi ih
    refine Ev.succ ?_
    have hr : rd_L1 l (i : Int) = l[i] := getD_at _ hi
    simp only [spec_l2SortedRows.l0, if_pos (show ((i : Int) < (l.length : Int)) by omega), if_pos (show (0 : Int) ≤ (i : Int) by omega), hr, w64n (show i ≤ 9223372036854775806 by omega)]
    by_cases h1 : (l[i].length : Int) = w
    · simp only [if_pos h1]
      by_cases h0 : i = 0
      · subst h0
        simp only [show ¬ (((0 : Nat) : Int) > 0) by omega, if_false]
        rw [rowsR_on l w hi h1 (fun h => by omega)]; exact ih
      · have hw : wrap64 ((i : Int) - 1) = ((i - 1 : Nat) : Int) := by unfold wrap64; omega
        have hp : rd_L1 l ((i - 1 : Nat) : Int) = l.getD (i - 1) [] := by unfold rd_L1; rw [Int.toNat_natCast]
        have hpl : (l.getD (i - 1) []).length ≤ 9223372036854775806 := by
          have e : l.getD (i - 1) [] = l[i - 1] := by simp [List.getD_eq_getElem?_getD, show i - 1 < l.length by omega]
          rw [e]; exact hll _ (List.getElem_mem _)
        simp only [show ((i : Int) > 0) by omega, if_true, hw, show (0 : Int) ≤ ((i - 1 : Nat) : Int) by omega, show (((i - 1 : Nat) : Int) < (l.length : Int)) by omega, hp]
        refine Ev.bind (l2Compare_ev _ _ hpl) ?_
        by_cases h2 : cmpL (l.getD (i - 1) []) l[i] < 0
        · simp only [if_neg (show ¬ (cmpL (l.getD (i - 1) []) l[i] ≥ 0) by omega)]
          rw [rowsR_on l w hi h1 (fun _ => h2)]; exact ih
        · simp only [if_pos (show (cmpL (l.getD (i - 1) []) l[i] ≥ 0) by omega)]
          rw [rowsR_no2 l w hi (by omega) h2]; exact Ev.now _
    · simp only [if_neg h1]
      rw [rowsR_no1 l w hi h1]; exact Ev.now _
end Go.Proofs.Ytkolhpmhbgbphaa.PT
namespace Go.Proofs.Ytkolhpmhbgbphaa.PT
set_option linter.unusedSimpArgs false
set_option linter.unusedVariables false
open Go.RowKit Go.Proofs.Ytkolhpmhbgbphaa.P Go.Proofs.YtkolhpmhbgbphaaW.PrintWords Go.Proofs.YtkolhpmhbgbphaaW.PrintLast Go.Proofs.Ytkolhpmhbgbphaa.EvKit
abbrev Rel := S151
def isRel (s : ByteArray) : Bool := decide (s.toList = ([114, 101, 108] : List UInt8))
def relV (rows : List (List Int)) (ws : List Int) : Bool := rows.all (fun x => x.all inV) && ws.all inW
noncomputable def relOk (x : Rel) : Bool :=
  nameb x.f0 && !isRel x.f0 && decide (1 ≤ x.f1 ∧ x.f1 ≤ 3) && decide (x.f2.length ≤ 2000) && decide (x.f3.length = x.f2.length) && rowsR x.f2 x.f1 0 && relV x.f2 x.f3
theorem relok_l1 (rows : List (List Int)) (ws : List Int) (f0 : ByteArray) (f1 : Int) (i : Nat) (hi : i < rows.length) (hw : i < ws.length) (hl : rows[i].length ≤ 9223372036854775806) (R : Bool)
    (h : rows[i].all inV = true → inW ws[i] = true → Ev (fun k => impl_Relation_ok.l0 k rows (rows.length : Int) (((i + 1 : Nat)) : Int) f0 f1 rows ws) R) (hrl : rows.length ≤ 9223372036854775806) :
    Ev (fun k => impl_Relation_ok.l1 k (i : Int) rows (rows.length : Int) (i : Int) rows[i] (rows[i].length : Int) 0 f0 f1 rows ws) (rows[i].all inV && (inW ws[i] && R)) := by
  refine Ev.all rows[i] inV (g := fun k j => impl_Relation_ok.l1 k (i : Int) rows (rows.length : Int) (i : Int) rows[i] (rows[i].length : Int) (j : Int) f0 f1 rows ws) (fun ha => ?_) ?_ ?_
  · refine Ev.succ ?_
    simp only [impl_Relation_ok.l1, rd_at hw, w64n (show i ≤ 9223372036854775806 by omega)]
    refine Ev.neg (by omega) (Ev.pos (by omega) (Ev.pos (by omega) (Ev.val (within_W _) ?_)))
    cases hW : inW ws[i] with
    | true => rw [Bool.true_and]; exact Ev.pos rfl (h ha hW)
    | false => rw [Bool.false_and]; exact Ev.neg (by simp) (Ev.now _)
  · intro j hj hp R' ih
    refine Ev.succ ?_
    simp only [impl_Relation_ok.l1, rd_at hj, w64n (show j ≤ 9223372036854775806 by omega)]
    exact Ev.pos (by omega) (Ev.pos (by omega) (Ev.pos (by omega) (Ev.val (within_V _) (Ev.pos hp ih))))
  · intro j hj hp
    refine Ev.succ ?_
    simp only [impl_Relation_ok.l1, rd_at hj]
    exact Ev.pos (by omega) (Ev.pos (by omega) (Ev.pos (by omega) (Ev.val (within_V _) (Ev.neg (by simp [hp]) (Ev.now _)))))
theorem relok_l0 (rows : List (List Int)) (ws : List Int) (f0 : ByteArray) (f1 : Int) (hrl : rows.length ≤ 9223372036854775806) (hl : ∀ x, x ∈ rows → x.length ≤ 9223372036854775806) (hw : ws.length = rows.length) :
    Ev (fun k => impl_Relation_ok.l0 k rows (rows.length : Int) 0 f0 f1 rows ws) (relV rows ws) := by
  unfold relV
  rw [← zip_all _ _ rows ws hw.symm]
  have hz : (rows.zip ws).length = rows.length := by simp [hw]
  refine Ev.to (Ev.all (rows.zip ws) _ (g := fun k j => impl_Relation_ok.l0 k rows (rows.length : Int) (j : Int) f0 f1 rows ws) (R := true) (fun ha => ?_) ?_ ?_) (by rw [Bool.and_true])
  · refine Ev.succ ?_
    simp only [impl_Relation_ok.l0, hz]
    exact Ev.neg (by omega) (Ev.now _)
  · intro i hi hp R' ih
    have hir : i < rows.length := by omega
    have hiw : i < ws.length := by omega
    have hr : rd_L1 rows (i : Int) = rows[i] := getD_at _ hir
    simp only [List.getElem_zip, Bool.and_eq_true] at hp
    refine Ev.succ ?_
    simp only [impl_Relation_ok.l0, hr]
    refine Ev.pos (by omega) (Ev.pos (by omega) (Ev.pos (by omega) ?_))
    exact Ev.to (relok_l1 rows ws f0 f1 i hir hiw (hl _ (List.getElem_mem _)) R' (fun _ _ => ih) hrl) (by rw [hp.1, hp.2]; rfl)
  · intro i hi hp
    have hir : i < rows.length := by omega
    have hiw : i < ws.length := by omega
    have hr : rd_L1 rows (i : Int) = rows[i] := getD_at _ hir
    have hp : (rows[i].all inV && inW ws[i]) = false := by simpa only [List.getElem_zip] using hp
    refine Ev.succ ?_
    simp only [impl_Relation_ok.l0, hr]
    refine Ev.pos (by omega) (Ev.pos (by omega) (Ev.pos (by omega) ?_))
    refine Ev.to (relok_l1 rows ws f0 f1 i hir hiw (hl _ (List.getElem_mem _)) true (fun h1 h2 => ?_) hrl) ?_
    · rw [h1, h2] at hp; simp at hp
    · rw [Bool.and_true]; exact hp
theorem relok_ev (f0 : ByteArray) (f1 : Int) (rows : List (List Int)) (ws : List Int) (hrl : rows.length ≤ 9223372036854775806) (hl : ∀ x, x ∈ rows → x.length ≤ 9223372036854775806) :
    Ev (fun k => impl_Relation_ok.f k f0 f1 rows ws) (relOk ⟨f0, f1, rows, ws⟩) := by
  unfold impl_Relation_ok.f relOk
  have hj : Ev (fun k => impl_Relation_ok.j0 k true f0 f1 rows ws) false := Ev.succ (by simp only [impl_Relation_ok.j0, if_true]; exact Ev.now _)
  refine Ev.bind (isName_ev f0) ?_
  cases h1 : nameb f0 with
  | false => exact Ev.to (Ev.neg (by simp) hj) (by simp)
  | true =>
    refine Ev.pos rfl ?_
    cases h2 : isRel f0 with
    | true => exact Ev.to (Ev.pos (of_decide_eq_true h2) hj) (by simp)
    | false =>
      refine Ev.neg (of_decide_eq_false h2) (Ev.val (within_v _ _ _) ?_)
      by_cases h3 : 1 ≤ f1 ∧ f1 ≤ 3
      · refine Ev.pos (by simp [h3]) ?_
        by_cases h4 : rows.length ≤ 2000
        · refine Ev.neg (by omega) ?_
          by_cases h5 : ws.length = rows.length
          · refine Ev.pos (by omega) (Ev.bind (rowsOK_ev rows f1 hrl hl) ?_)
            simp only [h3, h4, h5, and_self, decide_true, Bool.not_false, Bool.true_and]
            cases h6 : rowsR rows f1 0 with
            | false => simpa using hj
            | true =>
              refine Ev.succ ?_
              simp only [impl_Relation_ok.j0, Bool.not_true, Bool.false_eq_true, if_false, Bool.true_and]
              exact relok_l0 rows ws f0 f1 hrl hl h5
          · refine Ev.to (Ev.neg (by omega) hj) ?_
            simp [h5]
        · refine Ev.to (Ev.pos (by omega) hj) ?_
          simp [h4]
      · refine Ev.to (Ev.neg (by simpa using h3) hj) ?_
        rw [decide_eq_false h3]; simp
noncomputable def dataR : List ByteArray → List Rel → Bool
  | _, [] => true
  | ns, r :: rest => !decide (r.f0 ∈ ns) && relOk r && dataR (ns ++ [r.f0]) rest
noncomputable def dataOKb (l : List Rel) : Bool := decide (l.length ≤ 50) && dataR [] l
def Fits (l : List Rel) : Prop := ∀ r, r ∈ l → r.f2.length ≤ 9223372036854775806 ∧ r.f3.length ≤ 9223372036854775806 ∧ ∀ x, x ∈ r.f2 → x.length ≤ 9223372036854775806
theorem dataLoop_ev : ∀ (l : List Rel), Fits l → ∀ ns, Ev (fun k => dataLoop (impl_Relation_ok.f k) ns l) (dataR ns l)
  | [], _, ns => Ev.now _
  | r :: rest, hf, ns => by
    simp only [dataLoop, dataR]
    by_cases h : r.f0 ∈ ns
    · refine Ev.to (Ev.pos h (Ev.now _)) ?_
      simp [h]
    · refine Ev.neg h ?_
      simp only [h, decide_false, Bool.not_false, Bool.true_and]
      have hr := hf r (by simp)
      refine Ev.bind (relok_ev r.f0 r.f1 r.f2 r.f3 hr.1 hr.2.2) ?_
      cases h2 : relOk ⟨r.f0, r.f1, r.f2, r.f3⟩ with
      | true =>
        rw [Bool.true_and]
        exact Ev.pos rfl (dataLoop_ev rest (fun x hx => hf x (by simp [hx])) _)
      | false =>
        rw [Bool.false_and]
        exact Ev.neg (by simp) (Ev.now _)
theorem implDataOK_ev (l : List Rel) (hf : Fits l) : Ev (fun k => impl_DataOK.f k l) (dataOKb l) := by
  unfold impl_DataOK.f dataOKf dataOKb
  by_cases h : l.length ≤ 50
  · refine Ev.neg (by omega) ?_
    simp only [h, decide_true, Bool.true_and]
    exact dataLoop_ev l hf []
  · refine Ev.to (Ev.pos (by omega) (Ev.now _)) ?_
    simp [h]
theorem specdata_l4 (l : List Rel) (n x : Int) (ws : List Int) (hw : ws.length ≤ 9223372036854775806) (R : Bool) (h : ws.all inW = true → Ev (fun k => spec_DataOK.l0 k l n (wrap64 (x + 1)) l) R) :
    Ev (fun k => spec_DataOK.l4 k l n x ws (ws.length : Int) 0 l) (ws.all inW && R) := by
  refine Ev.all ws inW (g := fun k j => spec_DataOK.l4 k l n x ws (ws.length : Int) (j : Int) l) (fun ha => ?_) ?_ ?_
  · refine Ev.succ ?_
    simp only [spec_DataOK.l4]
    exact Ev.neg (by omega) (h ha)
  · intro j hj hp R' ih
    refine Ev.succ ?_
    simp only [spec_DataOK.l4, rd_at hj, w64n (show j ≤ 9223372036854775806 by omega)]
    exact Ev.pos (by omega) (Ev.pos (by omega) (Ev.pos (by omega) (Ev.val (between_W _) (Ev.pos hp ih))))
  · intro j hj hp
    refine Ev.succ ?_
    simp only [spec_DataOK.l4, rd_at hj]
    exact Ev.pos (by omega) (Ev.pos (by omega) (Ev.pos (by omega) (Ev.val (between_W _) (Ev.neg (by simp [hp]) (Ev.now _)))))
theorem specdata_l2 (l : List Rel) (n x : Int) (r : Rel) (hr : r.f2.length ≤ 9223372036854775806) (hrr : ∀ x, x ∈ r.f2 → x.length ≤ 9223372036854775806) (hw : r.f3.length ≤ 9223372036854775806) (R : Bool)
    (h : relV r.f2 r.f3 = true → Ev (fun k => spec_DataOK.l0 k l n (wrap64 (x + 1)) l) R) :
    Ev (fun k => spec_DataOK.l2 k l n x r.f2 (r.f2.length : Int) 0 l r.f0 r.f1 r.f2 r.f3) (relV r.f2 r.f3 && R) := by
  unfold relV at h ⊢
  rw [Bool.and_assoc]
  refine Ev.all r.f2 (fun x => x.all inV) (g := fun k j => spec_DataOK.l2 k l n x r.f2 (r.f2.length : Int) (j : Int) l r.f0 r.f1 r.f2 r.f3) (fun ha => ?_) ?_ ?_
  · refine Ev.succ ?_
    simp only [spec_DataOK.l2]
    exact Ev.neg (by omega) (specdata_l4 l n x r.f3 hw R (fun h2 => h (by rw [ha, h2]; rfl)))
  · intro i hi hp R' ih
    have hx : rd_L1 r.f2 (i : Int) = r.f2[i] := getD_at _ hi
    have hxl := hrr _ (List.getElem_mem hi)
    refine Ev.succ ?_
    simp only [spec_DataOK.l2, hx]
    refine Ev.pos (by omega) (Ev.pos (by omega) (Ev.pos (by omega) ?_))
    refine Ev.to (Ev.all r.f2[i] inV (g := fun k j => spec_DataOK.l3 k l n x r.f2 (r.f2.length : Int) (i : Int) r.f2[i] (r.f2[i].length : Int) (j : Int) l r.f0 r.f1 r.f2 r.f3) (R := R') (fun ha => ?_) ?_ ?_) (by rw [hp]; rfl)
    · refine Ev.succ ?_
      simp only [spec_DataOK.l3, w64n (show i ≤ 9223372036854775806 by omega)]
      exact Ev.neg (by omega) ih
    · intro j hj hp R' ih
      refine Ev.succ ?_
      simp only [spec_DataOK.l3, rd_at hj, w64n (show j ≤ 9223372036854775806 by omega)]
      exact Ev.pos (by omega) (Ev.pos (by omega) (Ev.pos (by omega) (Ev.val (between_V _) (Ev.pos hp ih))))
    · intro j hj hp
      refine Ev.succ ?_
      simp only [spec_DataOK.l3, rd_at hj]
      exact Ev.pos (by omega) (Ev.pos (by omega) (Ev.pos (by omega) (Ev.val (between_V _) (Ev.neg (by simp [hp]) (Ev.now _)))))
  · intro i hi hp
    have hx : rd_L1 r.f2 (i : Int) = r.f2[i] := getD_at _ hi
    have hxl := hrr _ (List.getElem_mem hi)
    refine Ev.succ ?_
    simp only [spec_DataOK.l2, hx]
    refine Ev.pos (by omega) (Ev.pos (by omega) (Ev.pos (by omega) ?_))
    refine Ev.to (Ev.all r.f2[i] inV (g := fun k j => spec_DataOK.l3 k l n x r.f2 (r.f2.length : Int) (i : Int) r.f2[i] (r.f2[i].length : Int) (j : Int) l r.f0 r.f1 r.f2 r.f3) (R := true) (fun ha => ?_) ?_ ?_) (by rw [hp]; rfl)
    · rw [ha] at hp; simp at hp
    · intro j hj hp R' ih
      refine Ev.succ ?_
      simp only [spec_DataOK.l3, rd_at hj, w64n (show j ≤ 9223372036854775806 by omega)]
      exact Ev.pos (by omega) (Ev.pos (by omega) (Ev.pos (by omega) (Ev.val (between_V _) (Ev.pos hp ih))))
    · intro j hj hp
      refine Ev.succ ?_
      simp only [spec_DataOK.l3, rd_at hj]
      exact Ev.pos (by omega) (Ev.pos (by omega) (Ev.pos (by omega) (Ev.val (between_V _) (Ev.neg (by simp [hp]) (Ev.now _)))))
theorem specdata_l1 (l : List Rel) (hll : l.length ≤ 9223372036854775806) (i : Nat) (hi : i < l.length) (r : Rel) (hr : r.f2.length ≤ 9223372036854775806) (hrr : ∀ x, x ∈ r.f2 → x.length ≤ 9223372036854775806) (hw : r.f3.length ≤ 9223372036854775806) (R : Bool)
    (h : Ev (fun k => spec_DataOK.l0 k l (l.length : Int) (((i + 1 : Nat)) : Int) l) R) :
    Ev (fun k => spec_DataOK.l1 k l (l.length : Int) (i : Int) (l.take i) ((l.take i).length : Int) 0 l r.f0 r.f1 r.f2 r.f3)
      (!decide (r.f0 ∈ (l.take i).map (fun z => z.f0)) && (rowsR r.f2 r.f1 0 && (decide (r.f3.length = r.f2.length) && (relV r.f2 r.f3 && R)))) := by
  have hall : (l.take i).all (fun z => !decide (z.f0 = r.f0)) = !decide (r.f0 ∈ (l.take i).map (fun z => z.f0)) := by
    rw [Bool.eq_iff_iff]
    simp only [List.all_eq_true, Bool.not_eq_true', decide_eq_false_iff_not, List.mem_map, not_exists, not_and]
  rw [← hall]
  have hlen : (l.take i).length = i := by simp; omega
  refine Ev.all (l.take i) _ (g := fun k j => spec_DataOK.l1 k l (l.length : Int) (i : Int) (l.take i) ((l.take i).length : Int) (j : Int) l r.f0 r.f1 r.f2 r.f3) (fun ha => ?_) ?_ ?_
  · refine Ev.succ ?_
    simp only [spec_DataOK.l1]
    refine Ev.neg (by omega) (Ev.bind (l2SortedRows_ev r.f2 r.f1 hr hrr) ?_)
    cases h1 : rowsR r.f2 r.f1 0 with
    | false =>
      refine Ev.neg (by simp) (Ev.succ ?_)
      simp only [spec_DataOK.j3, if_true, Bool.false_and]
      exact Ev.now _
    | true =>
      refine Ev.pos rfl (Ev.succ ?_)
      rw [Bool.true_and]
      by_cases h2 : r.f3.length = r.f2.length
      · simp only [spec_DataOK.j3, h2, bne_self_eq_false, Bool.false_eq_true, if_false, decide_true, Bool.true_and]
        exact specdata_l2 l _ _ r hr hrr hw R (fun _ => by rw [w64n (show i ≤ 9223372036854775806 by omega)]; exact h)
      · simp only [spec_DataOK.j3, h2, decide_false, Bool.false_and]
        refine Ev.pos (by simp only [bne_iff_ne, ne_eq]; omega) (Ev.now _)
  · intro j hj hp R' ih
    have hx : rd_T151 (l.take i) (j : Int) = (l.take i)[j] := getD_at _ hj
    refine Ev.succ ?_
    simp only [spec_DataOK.l1, hx, w64n (show j ≤ 9223372036854775806 by omega)]
    refine Ev.pos (by omega) (Ev.pos (by omega) (Ev.pos (by omega) (Ev.neg ?_ ih)))
    rw [toList_eq]; simpa using hp
  · intro j hj hp
    have hx : rd_T151 (l.take i) (j : Int) = (l.take i)[j] := getD_at _ hj
    refine Ev.succ ?_
    simp only [spec_DataOK.l1, hx]
    refine Ev.pos (by omega) (Ev.pos (by omega) (Ev.pos (by omega) (Ev.pos ?_ (Ev.now _))))
    rw [toList_eq]; simpa using hp
theorem specDataOK_ev (l : List Rel) (hf : Fits l) : Ev (fun k => spec_DataOK.f k l) (dataOKb l) := by
  unfold spec_DataOK.f dataOKb
  by_cases h : l.length ≤ 50
  · refine Ev.neg (by omega) ?_
    simp only [h, decide_true, Bool.true_and]
    have key := Ev.loop (g := fun k i => spec_DataOK.l0 k l (l.length : Int) (i : Int) l) (n := l.length) (R := fun i => dataR ((l.take i).map (fun z => z.f0)) (l.drop i)) (by
      refine Ev.succ ?_
      simp only [spec_DataOK.l0, List.drop_length, dataR]
      exact Ev.neg (by omega) (Ev.now _)) (by
      intro i hi ih
      have hx : rd_T151 l (i : Int) = l[i] := getD_at _ hi
      have hr := hf l[i] (List.getElem_mem hi)
      have hj : Ev (fun k => spec_DataOK.j1 k (i : Int) l (l.length : Int) (i : Int) true l l[i].f0 l[i].f1 l[i].f2 l[i].f3) false := Ev.succ (by simp only [spec_DataOK.j1, if_true]; exact Ev.now _)
      simp only [List.drop_eq_getElem_cons hi, dataR]
      rw [List.take_succ_eq_append_getElem hi, List.map_append] at ih
      refine Ev.succ ?_
      simp only [spec_DataOK.l0, hx]
      refine Ev.pos (by omega) (Ev.pos (by omega) (Ev.pos (by omega) (Ev.bind (l2Name_ev _) ?_)))
      cases h1 : nameb l[i].f0 with
      | false => exact Ev.to (Ev.neg (by simp) hj) (by simp [relOk, h1])
      | true =>
        refine Ev.pos rfl ?_
        cases h2 : isRel l[i].f0 with
        | true => exact Ev.to (Ev.pos (of_decide_eq_true h2) hj) (by simp [relOk, h2])
        | false =>
          refine Ev.neg (of_decide_eq_false h2) (Ev.val (between_v _ _ _) ?_)
          by_cases h3 : 1 ≤ l[i].f1 ∧ l[i].f1 ≤ 3
          · refine Ev.pos (by simp [h3]) ?_
            by_cases h4 : l[i].f2.length ≤ 2000
            · rw [show decide ((l[i].f2.length : Int) > 2000) = false from decide_eq_false (by omega)]
              refine Ev.succ ?_
              simp only [spec_DataOK.j1, Bool.false_eq_true, if_false]
              refine Ev.pos (by omega) (Ev.pos (by omega) ?_)
              simp only [Option.bind_some, Int.toNat_natCast]
              refine Ev.to (specdata_l1 l (by omega) i hi l[i] hr.1 hr.2.2 hr.2.1 _ ih) ?_
              simp only [relOk, h1, h2, h3, h4, and_self, decide_true, Bool.not_false, Bool.true_and, List.map_cons, List.map_nil]
              generalize (!decide (l[i].f0 ∈ (l.take i).map (fun z => z.f0))) = b1
              generalize rowsR l[i].f2 l[i].f1 0 = b2
              generalize decide (l[i].f3.length = l[i].f2.length) = b3
              generalize relV l[i].f2 l[i].f3 = b4
              generalize dataR _ _ = b5
              cases b1 <;> cases b2 <;> cases b3 <;> cases b4 <;> cases b5 <;> rfl
            · rw [show decide ((l[i].f2.length : Int) > 2000) = true from decide_eq_true (by omega)]
              exact Ev.to hj (by simp [relOk, h4])
          · exact Ev.to (Ev.neg (by simpa using h3) hj) (by simp only [relOk, decide_eq_false h3, Bool.and_false, Bool.false_and])) 0 (Nat.zero_le _)
    simpa using key
  · refine Ev.to (Ev.pos (by omega) (Ev.now _)) ?_
    simp [h]
end Go.Proofs.Ytkolhpmhbgbphaa.PT
namespace Go.Proofs.Ytkolhpmhbgbphaa.PT
open Go.RowKit Go.Proofs.Ytkolhpmhbgbphaa.P Go.Proofs.YtkolhpmhbgbphaaW.PrintWords Go.Proofs.YtkolhpmhbgbphaaW.PrintLast Go.Proofs.Ytkolhpmhbgbphaa.EvKit
set_option linter.unusedSimpArgs false
set_option linter.unusedVariables false
abbrev LRel := S202
def toRel (x : LRel) : Rel := ⟨x.f0, x.f1, x.f2, x.f3⟩
def szRel (x : LRel) (a : Int) : Int :=
  if a - x.f0.size < 0 then -1 else if szIntSSv x.f2 (a - x.f0.size) < 0 then -1 else if szIntSSv x.f2 (a - x.f0.size) - x.f3.length < 0 then -1 else szIntSSv x.f2 (a - x.f0.size) - x.f3.length
def GRel (x : LRel) : Prop := x.f0.size ≤ 9223372036854775807 ∧ x.f2.length ≤ 9223372036854775807 ∧ (∀ y, y ∈ x.f2 → y.length ≤ 9223372036854775807) ∧ x.f3.length ≤ 9223372036854775807
theorem szRel_ev (x : LRel) (a : Int) (g : GRel x) (h1 : 0 ≤ a) (h2 : a ≤ 1048576) : Ev (fun k => laws_szRelation.f k x.f0 x.f1 x.f2 x.f3 a) (szRel x a) := by
  obtain ⟨g0, g2, g3, g4⟩ := g
  unfold laws_szRelation.f szRel
  rw [w64 (n := a - (x.f0.size : Int)) (by omega) (by omega)]
  by_cases c1 : a - x.f0.size < 0
  · simp only [if_pos c1]; exact Ev.now _
  · simp only [if_neg c1]
    refine Ev.bind (szIntSS_ev x.f2 _ g2 g3 (by omega) (by omega)) ?_
    have hlo := szIntSSv_lo x.f2 (a - x.f0.size)
    by_cases c2 : szIntSSv x.f2 (a - x.f0.size) < 0
    · simp only [if_pos c2]; exact Ev.now _
    · have hle := szIntSSv_le x.f2 (a - x.f0.size) (by omega)
      simp only [if_neg c2, szIntS_ev x.f3 _ g4 hlo (by omega), Option.bind_some]
      by_cases c3 : szIntSSv x.f2 (a - x.f0.size) - x.f3.length < 0
      · simp only [if_pos c3, show ((-1 : Int) < 0) from by omega, if_true]; exact Ev.now _
      · simp only [if_neg c3]; exact Ev.now _
def SRel (x : LRel) : Prop := x.f0.size ≤ 1048576 ∧ x.f2.length ≤ 1048576 ∧ (∀ y, y ∈ x.f2 → y.length ≤ 1048576) ∧ x.f3.length ≤ 1048576
theorem szRel_le {x : LRel} {a : Int} (ha : a ≤ 1048576) (h : 0 ≤ szRel x a) : SRel x ∧ szRel x a ≤ a ∧ 0 ≤ a := by
  unfold szRel at h ⊢
  by_cases c1 : a - x.f0.size < 0
  · rw [if_pos c1] at h; omega
  · rw [if_neg c1] at h ⊢
    by_cases c2 : szIntSSv x.f2 (a - x.f0.size) < 0
    · rw [if_pos c2] at h; omega
    · rw [if_neg c2] at h ⊢
      obtain ⟨h1, h2, h3⟩ := szIntSSv_le x.f2 (a - x.f0.size) (by omega)
      by_cases c3 : szIntSSv x.f2 (a - x.f0.size) - x.f3.length < 0
      · rw [if_pos c3] at h; omega
      · rw [if_neg c3]
        exact ⟨⟨by omega, by omega, fun y hy => by have := h3 y hy; omega, by omega⟩, by omega, by omega⟩
def szRels (a : Int) : List LRel → Int
  | [] => a
  | x :: r => if szRel x a < 0 then -1 else szRels (szRel x a) r
theorem szRels_ev (l : List LRel) (a : Int) (hl : l.length ≤ 9223372036854775807) (g : ∀ x, x ∈ l → GRel x) (h1 : -1 ≤ a) (h2 : a ≤ 1048576) :
    Ev (fun k => laws_szRelationS.f k l a) (if a - l.length < 0 then -1 else szRels (a - l.length) l) := by
  unfold laws_szRelationS.f
  rw [w64 (n := a - (l.length : Int)) (by omega) (by omega)]
  by_cases c1 : a - l.length < 0
  · simp only [if_pos c1]; exact Ev.now _
  · simp only [if_neg c1]
    have key : ∀ d i, i + d = l.length → ∀ b : Int, 0 ≤ b → b ≤ 1048576 → Ev (fun k => laws_szRelationS.l0 k l b (i : Int)) (szRels b (l.drop i)) := by
      intro d
      induction d with
      | zero =>
        intro i hi b hb0 hb1
        refine Ev.succ ?_
        simp only [laws_szRelationS.l0]
        rw [List.drop_of_length_le (by omega)]
        exact Ev.neg (by omega) (Ev.now _)
      | succ d ih =>
        intro i hi b hb0 hb1
        have hlt : i < l.length := by omega
        have hx : rd_T202 l (i : Int) = l[i] := getD_at _ hlt
        refine Ev.succ ?_
        simp only [laws_szRelationS.l0, hx, w64n (show i ≤ 9223372036854775806 by omega)]
        rw [List.drop_eq_getElem_cons hlt]
        refine Ev.pos (by omega) (Ev.pos (by omega) (Ev.bind (szRel_ev l[i] b (g _ (List.getElem_mem _)) hb0 hb1) ?_))
        simp only [szRels]
        by_cases c : szRel l[i] b < 0
        · rw [if_pos c]; exact Ev.pos c (Ev.now _)
        · rw [if_neg c]
          exact Ev.neg c (ih (i + 1) (by omega) _ (by omega) (by have := (szRel_le hb1 (Int.not_lt.1 c)).2.1; omega))
    simpa using key l.length 0 (by omega) _ (by omega) (by omega)
theorem szRels_le : ∀ (l : List LRel) (a : Int), a ≤ 1048576 → 0 ≤ szRels a l → 0 ≤ a ∧ szRels a l ≤ a ∧ ∀ x, x ∈ l → SRel x
  | [], a, ha, h => ⟨h, Int.le_refl _, fun x hx => by simp at hx⟩
  | y :: r, a, ha, h => by
    simp only [szRels] at h ⊢
    by_cases h1 : szRel y a < 0
    · rw [if_pos h1] at h; omega
    · rw [if_neg h1] at h ⊢
      obtain ⟨h2, h3, h4⟩ := szRel_le ha (Int.not_lt.1 h1)
      obtain ⟨h5, h6, h7⟩ := szRels_le r _ (by omega) h
      refine ⟨h4, by omega, fun x hx => ?_⟩
      rcases List.mem_cons.1 hx with rfl | hx
      · exact h2
      · exact h7 x hx
theorem toRels_ev (l : List LRel) (hl : l.length ≤ 1048576) (h : ∀ x, x ∈ l → SRel x) : Ev (fun k => laws_toRelationS.f k l) (l.map toRel) := by
  unfold laws_toRelationS.f
  refine Ev.pos (by omega) (Ev.pos (by omega) ?_)
  have key : ∀ d i, i + d = l.length → Ev (fun k => laws_toRelationS.l0 k l ((l.take i).map toRel ++ List.replicate d z151) (i : Int)) (l.map toRel) := by
    intro d
    induction d with
    | zero =>
      intro i hi
      refine Ev.succ ?_
      simp only [laws_toRelationS.l0]
      rw [List.take_of_length_le (by omega), List.replicate_zero, List.append_nil]
      exact Ev.neg (by omega) (Ev.now _)
    | succ d ih =>
      intro i hi
      have hlt : i < l.length := by omega
      have hx : rd_T202 l (i : Int) = l[i] := getD_at _ hlt
      obtain ⟨g0, g1, g2, g3⟩ := h l[i] (List.getElem_mem _)
      have hlen : ((l.take i).map toRel ++ List.replicate (d + 1) z151).length = l.length := by simp; omega
      refine Ev.succ ?_
      simp only [laws_toRelationS.l0, hx, w64n (show i ≤ 9223372036854775806 by omega), hlen]
      refine Ev.pos (by omega) (Ev.pos (by omega) (Ev.bind (a := (l[i].f0, l[i].f1, l[i].f2, l[i].f3)) ?_ (Ev.pos (by omega) ?_)))
      · unfold laws_toRelation.f
        exact Ev.bind (toIntSS_ev l[i].f2 (by omega) (fun y hy => by have := g2 y hy; omega)) (Ev.bind (toIntS_ev l[i].f3 (by omega)) (Ev.now _))
      · have hs : ((l.take i).map toRel ++ List.replicate (d + 1) z151).set (i : Int).toNat ⟨l[i].f0, l[i].f1, l[i].f2, l[i].f3⟩ = (l.take (i + 1)).map toRel ++ List.replicate d z151 := by
          rw [Int.toNat_natCast, List.set_append_right _ _ (by simp; omega), List.take_succ_eq_append_getElem hlt]
          have : i - ((l.take i).map toRel).length = 0 := by simp; omega
          rw [this, List.replicate_succ]
          simp only [List.set_cons_zero, List.map_append, List.map_cons, List.map_nil, List.append_assoc, List.singleton_append, toRel]
        rw [hs]
        exact ih (i + 1) (by omega)
  simpa using key l.length 0 (by omega)
theorem eqRels_ev (l : List LRel) (hl : l.length ≤ 1048576) (h : ∀ x, x ∈ l → SRel x) : Ev (fun k => laws_eqRelationS.f k (l.map toRel) (l.map toRel)) true := by
  unfold laws_eqRelationS.f
  refine Ev.pos rfl ?_
  refine Ev.to (Ev.all (l.map toRel) (fun _ => true) (g := fun k i => laws_eqRelationS.l0 k (l.map toRel) (l.map toRel) (i : Int)) (R := true) (fun _ => ?_) ?_ ?_) (by simp)
  · refine Ev.succ ?_
    simp only [laws_eqRelationS.l0]
    exact Ev.neg (by omega) (Ev.now _)
  · intro i hi _ R' ih
    have hx : rd_T151 (l.map toRel) (i : Int) = (l.map toRel)[i] := getD_at _ hi
    have hi' : i < l.length := by simpa using hi
    refine Ev.succ ?_
    simp only [laws_eqRelationS.l0, hx, w64n (show i ≤ 9223372036854775806 by omega)]
    refine Ev.pos (by omega) (Ev.pos (by omega) (Ev.pos (by omega) ?_))
    obtain ⟨g0, g1, g2, g3⟩ := h l[i] (List.getElem_mem _)
    refine Ev.bind (a := true) ?_ (Ev.pos rfl ih)
    unfold laws_eqRelation.f
    have e : (l.map toRel)[i] = toRel l[i] := by simp
    rw [e]
    refine Ev.pos rfl (Ev.pos rfl (Ev.bind (eqIntSS_ev _ _ (by show l[i].f2.length ≤ _; omega) (fun y hy => by have := g2 y hy; omega)) ?_))
    refine Ev.pos (by simp) (Ev.bind (eqIntS_ev _ _ (by show l[i].f3.length ≤ _; omega)) ?_)
    exact Ev.pos (by simp) (Ev.now _)
  · intro i hi hp; simp at hp
theorem fits_toRel {l : List LRel} (h : ∀ x, x ∈ l → SRel x) : Fits (l.map toRel) := by
  intro r hr
  obtain ⟨x, hx, rfl⟩ := List.mem_map.1 hr
  obtain ⟨g0, g1, g2, g3⟩ := h x hx
  exact ⟨by show x.f2.length ≤ _; omega, by show x.f3.length ≤ _; omega, fun y hy => by have := g2 y hy; omega⟩
def szDv (l : List LRel) : Int := if 1048576 - (l.length : Int) < 0 then -1 else szRels (1048576 - l.length) l
theorem szData_ev (l : List LRel) (hl : l.length ≤ 9223372036854775807) (g : ∀ x, x ∈ l → GRel x) : Ev (fun k => laws_szData.f k l 1048576) (if szDv l < 0 then -1 else szDv l) := by
  unfold laws_szData.f
  refine Ev.bind (szRels_ev l 1048576 hl g (by omega) (by omega)) ?_
  unfold szDv
  generalize (if 1048576 - (l.length : Int) < 0 then (-1 : Int) else szRels (1048576 - l.length) l) = z
  by_cases c : z < 0
  · exact Ev.to (Ev.pos c (Ev.now _)) (if_pos c).symm
  · exact Ev.to (Ev.neg c (Ev.now _)) (if_neg c).symm
theorem szDv_le {l : List LRel} (h : 0 ≤ szDv l) : l.length ≤ 1048576 ∧ szDv l ≤ 1048576 ∧ ∀ x, x ∈ l → SRel x := by
  unfold szDv at h ⊢
  by_cases c1 : 1048576 - (l.length : Int) < 0
  · rw [if_pos c1] at h; omega
  · rw [if_neg c1] at h ⊢
    obtain ⟨h1, h2, h3⟩ := szRels_le l _ (by omega) h
    exact ⟨by omega, by omega, h3⟩
theorem toData_ev (l : List LRel) (hl : l.length ≤ 1048576) (h : ∀ x, x ∈ l → SRel x) : Ev (fun k => laws_toData.f k l) (l.map toRel) := by
  unfold laws_toData.f
  exact Ev.bind (toRels_ev l hl h) (Ev.now _)
theorem eqData_ev (l : List LRel) (hl : l.length ≤ 1048576) (h : ∀ x, x ∈ l → SRel x) : Ev (fun k => laws_eqData.f k (l.map toRel) (l.map toRel)) true := by
  unfold laws_eqData.f
  exact Ev.bind (eqRels_ev l hl h) (Ev.pos rfl (Ev.now _))
end Go.Proofs.Ytkolhpmhbgbphaa.PT
