/-
  Part 8 of the proof of this: The law FnExactCheckQuery answers true at every argument.
-/
import Derived.Test.YtkolhpmhbgbphaaKCheckQuery2
import Derived.Test.YtkolhpmhbgbphaaKCheckQuery3
import Derived.Test.YtkolhpmhbgbphaaKCheckQuery6
import Derived.Test.YtkolhpmhbgbphaaKCheckQuery7
namespace Go.Proofs.Ytkolhpmhbgbphaa.P
open Go.RowKit Go.Proofs.YtkolhpmhbgbphaaW.PrintWords Go.Proofs.YtkolhpmhbgbphaaW.PrintLast Go.Proofs.YtkolhpmhbgbphaaW.PrintMore
attribute [local go_sem] max2_int min2_int max_two min_two max_three min_three max_four min_four
set_option linter.unusedVariables false
set_option linter.unusedSimpArgs false
mutual
def impl_Relation_ok.j0 : Nat → Bool → ByteArray → Int → List (List Int) → List Int → Option (Bool)
 | 0, _, _, _, _, _ => none
 | k + 1, x44, x624000, x624001, x624002, x624003 => if x44 = true then (some false) else (impl_Relation_ok.l0 k x624002 (x624002.length : Int) 0 x624000 x624001 x624002 x624003)
def impl_Relation_ok.l0 : Nat → List (List Int) → Int → Int → ByteArray → Int → List (List Int) → List Int → Option (Bool)
 | 0, _, _, _, _, _, _, _ => none
 | k + 1, x46, x47, x48, x624000, x624001, x624002, x624003 => if x48 < x47 then (if 0 ≤ x48 then (if x48 < (x46.length : Int) then (impl_Relation_ok.l1 k x48 x46 x47 x48 (rd_L1 x46 x48) ((rd_L1 x46 x48).length : Int) 0 x624000 x624001 x624002 x624003) else (none)) else (none)) else (some true)
def impl_Relation_ok.l1 : Nat → Int → List (List Int) → Int → Int → List Int → Int → Int → ByteArray → Int → List (List Int) → List Int → Option (Bool)
 | 0, _, _, _, _, _, _, _, _, _, _, _ => none
 | k + 1, x3, x46, x47, x48, x53, x54, x55, x624000, x624001, x624002, x624003 => if x55 < x54 then (if 0 ≤ x55 then (if x55 < (x53.length : Int) then ((impl_within.f (rd x53 x55) 0 1000000).bind fun t629 => (if t629 = true then (impl_Relation_ok.l1 k x3 x46 x47 x48 x53 x54 (wrap64 (x55 + 1)) x624000 x624001 x624002 x624003) else (some false))) else (none)) else (none)) else (if 0 ≤ x3 then (if x3 < (x624003.length : Int) then ((impl_within.f (rd x624003 x3) (-1000000) 1000000).bind fun t631 => (if t631 = true then (impl_Relation_ok.l0 k x46 x47 (wrap64 (x48 + 1)) x624000 x624001 x624002 x624003) else (some false))) else (none)) else (none))
end
def impl_Relation_ok.f (k : Nat) (a0_0 : ByteArray) (a0_1 : Int) (l0_2 : List (List Int)) (l0_3 : List Int) : Option (Bool) := (impl_isName.f k a0_0).bind fun t624 => (if t624 = true then (if a0_0.toList = ([114, 101, 108] : List UInt8) then (impl_Relation_ok.j0 k true a0_0 a0_1 l0_2 l0_3) else ((impl_within.f a0_1 1 3).bind fun t625 => (if t625 = true then (if (l0_2.length : Int) > 2000 then (impl_Relation_ok.j0 k true a0_0 a0_1 l0_2 l0_3) else (if (l0_3.length : Int) = (l0_2.length : Int) then ((impl_rowsOK.f k l0_2 a0_1).bind fun t626 => (impl_Relation_ok.j0 k (!t626) a0_0 a0_1 l0_2 l0_3)) else (impl_Relation_ok.j0 k true a0_0 a0_1 l0_2 l0_3))) else (impl_Relation_ok.j0 k true a0_0 a0_1 l0_2 l0_3)))) else (impl_Relation_ok.j0 k true a0_0 a0_1 l0_2 l0_3))
theorem impl_Relation_ok.mono_l : ∀ k, (∀ y0 y1 y2 y3 y4, LeO (impl_Relation_ok.j0 k y0 y1 y2 y3 y4) (impl_Relation_ok.j0 (k + 1) y0 y1 y2 y3 y4)) ∧ (∀ y0 y1 y2 y3 y4 y5 y6, LeO (impl_Relation_ok.l0 k y0 y1 y2 y3 y4 y5 y6) (impl_Relation_ok.l0 (k + 1) y0 y1 y2 y3 y4 y5 y6)) ∧ (∀ y0 y1 y2 y3 y4 y5 y6 y7 y8 y9 y10, LeO (impl_Relation_ok.l1 k y0 y1 y2 y3 y4 y5 y6 y7 y8 y9 y10) (impl_Relation_ok.l1 (k + 1) y0 y1 y2 y3 y4 y5 y6 y7 y8 y9 y10))
 | 0 => ⟨fun _ _ _ _ _ r h => by simp [impl_Relation_ok.j0] at h, fun _ _ _ _ _ _ _ r h => by simp [impl_Relation_ok.l0] at h, fun _ _ _ _ _ _ _ _ _ _ _ r h => by simp [impl_Relation_ok.l1] at h⟩
 | k + 1 => by
  obtain ⟨ih0, ih1, ih2⟩ := impl_Relation_ok.mono_l k
  refine ⟨?_, ?_, ?_⟩
  ·intro y0 y1 y2 y3 y4
   unfold impl_Relation_ok.j0
   repeat' first
   | (with_reducible exact ih0 _ _ _ _ _)
   | (with_reducible exact ih1 _ _ _ _ _ _ _)
   | (with_reducible exact ih2 _ _ _ _ _ _ _ _ _ _ _)
   | (with_reducible exact impl_isName.mono _ _)
   | (with_reducible exact impl_rowsOK.mono _ _ _)
   | (with_reducible exact LeO.refl _)
   | (with_reducible exact LeO.none _)
   | (with_reducible refine LeO.ite ?_ ?_)
   | (with_reducible refine LeO.bind ?_ (fun _ => ?_))
   | exact ih0 _ _ _ _ _
   | exact ih1 _ _ _ _ _ _ _
   | exact ih2 _ _ _ _ _ _ _ _ _ _ _
   | exact impl_isName.mono _ _
   | exact impl_rowsOK.mono _ _ _
   | exact LeO.none _
   | refine LeO.ite ?_ ?_
   | refine LeO.bind ?_ (fun _ => ?_)
  ·intro y0 y1 y2 y3 y4 y5 y6
   unfold impl_Relation_ok.l0
   repeat' first
   | (with_reducible exact ih0 _ _ _ _ _)
   | (with_reducible exact ih1 _ _ _ _ _ _ _)
   | (with_reducible exact ih2 _ _ _ _ _ _ _ _ _ _ _)
   | (with_reducible exact impl_isName.mono _ _)
   | (with_reducible exact impl_rowsOK.mono _ _ _)
   | (with_reducible exact LeO.refl _)
   | (with_reducible exact LeO.none _)
   | (with_reducible refine LeO.ite ?_ ?_)
   | (with_reducible refine LeO.bind ?_ (fun _ => ?_))
   | exact ih0 _ _ _ _ _
   | exact ih1 _ _ _ _ _ _ _
   | exact ih2 _ _ _ _ _ _ _ _ _ _ _
   | exact impl_isName.mono _ _
   | exact impl_rowsOK.mono _ _ _
   | exact LeO.none _
   | refine LeO.ite ?_ ?_
   | refine LeO.bind ?_ (fun _ => ?_)
  ·intro y0 y1 y2 y3 y4 y5 y6 y7 y8 y9 y10
   unfold impl_Relation_ok.l1
   repeat' first
   | (with_reducible exact ih0 _ _ _ _ _)
   | (with_reducible exact ih1 _ _ _ _ _ _ _)
   | (with_reducible exact ih2 _ _ _ _ _ _ _ _ _ _ _)
   | (with_reducible exact impl_isName.mono _ _)
   | (with_reducible exact impl_rowsOK.mono _ _ _)
   | (with_reducible exact LeO.refl _)
   | (with_reducible exact LeO.none _)
   | (with_reducible refine LeO.ite ?_ ?_)
   | (with_reducible refine LeO.bind ?_ (fun _ => ?_))
   | exact ih0 _ _ _ _ _
   | exact ih1 _ _ _ _ _ _ _
   | exact ih2 _ _ _ _ _ _ _ _ _ _ _
   | exact impl_isName.mono _ _
   | exact impl_rowsOK.mono _ _ _
   | exact LeO.none _
   | refine LeO.ite ?_ ?_
   | refine LeO.bind ?_ (fun _ => ?_)
theorem impl_Relation_ok.mono : ∀ a0 a1 a2 a3 k, LeO (impl_Relation_ok.f k a0 a1 a2 a3) (impl_Relation_ok.f (k + 1) a0 a1 a2 a3) := by
 intro a0 a1 a2 a3 k
 obtain ⟨ih0, ih1, ih2⟩ := impl_Relation_ok.mono_l k
 unfold impl_Relation_ok.f
 repeat' first
   | (with_reducible exact ih0 _ _ _ _ _)
   | (with_reducible exact ih1 _ _ _ _ _ _ _)
   | (with_reducible exact ih2 _ _ _ _ _ _ _ _ _ _ _)
   | (with_reducible exact impl_isName.mono _ _)
   | (with_reducible exact impl_rowsOK.mono _ _ _)
   | (with_reducible exact LeO.refl _)
   | (with_reducible exact LeO.none _)
   | (with_reducible refine LeO.ite ?_ ?_)
   | (with_reducible refine LeO.bind ?_ (fun _ => ?_))
   | exact ih0 _ _ _ _ _
   | exact ih1 _ _ _ _ _ _ _
   | exact ih2 _ _ _ _ _ _ _ _ _ _ _
   | exact impl_isName.mono _ _
   | exact impl_rowsOK.mono _ _ _
   | exact LeO.none _
   | refine LeO.ite ?_ ?_
   | refine LeO.bind ?_ (fun _ => ?_)
set_option maxHeartbeats 8000000 in
set_option maxRecDepth 100000 in
theorem impl_Relation_ok.calls (k : Nat) (a0_0 : ByteArray) (a0_1 : Int) (A0_2 : Option Addr) (c0_2 : Nat) (l0_2 : List (List Int)) (A0_3 : Option Addr) (c0_3 : Nat) (l0_3 : List Int) (r : Bool) (w : World) (hr0_2 : Kd.C (Kd.slice 3 (Kd.int .i64)) w A0_2 l0_2.length l0_2) (hc0_2 : l0_2.length ≤ c0_2) (hr0_3 : Kd.C (Kd.int .i64) w A0_3 l0_3.length l0_3) (hc0_3 : l0_3.length ≤ c0_3) (h : impl_Relation_ok.f k a0_0 a0_1 l0_2 l0_3 = some r) :
  Calls Try.prog 172 #[.agg #[.string a0_0, .int .i64 a0_1, .slice A0_2 l0_2.length c0_2, .slice A0_3 l0_3.length c0_3]] w fun e w' => e = .returned (.bool r) ∧ Below w.heap.size w w' := by
 have hu151 := Try.underlying151
 have HR0_2 := Aside0.mk hr0_2
 have HC0_2 := Aside0.mk hc0_2
 clear hr0_2 hc0_2
 have HR0_3 := Aside0.mk hr0_3
 have HC0_3 := Aside0.mk hc0_3
 clear hr0_3 hc0_3
 have HB := Aside0.mk (Below.refl w.heap.size w)
 have H : ((impl_isName.f k a0_0).bind fun t624 => (if t624 = true then (if a0_0.toList = ([114, 101, 108] : List UInt8) then (impl_Relation_ok.j0 k true a0_0 a0_1 l0_2 l0_3) else ((impl_within.f a0_1 1 3).bind fun t625 => (if t625 = true then (if (l0_2.length : Int) > 2000 then (impl_Relation_ok.j0 k true a0_0 a0_1 l0_2 l0_3) else (if (l0_3.length : Int) = (l0_2.length : Int) then ((impl_rowsOK.f k l0_2 a0_1).bind fun t626 => (impl_Relation_ok.j0 k (!t626) a0_0 a0_1 l0_2 l0_3)) else (impl_Relation_ok.j0 k true a0_0 a0_1 l0_2 l0_3))) else (impl_Relation_ok.j0 k true a0_0 a0_1 l0_2 l0_3)))) else (impl_Relation_ok.j0 k true a0_0 a0_1 l0_2 l0_3))) = some r := h
 clear h
 have HC2 := Aside0.mk H
 clear H
 go_enter Try.func172, Try.ntmps172
 go_upto_region 1 with (first | ((with_reducible refine gate_dst (N := 1) rfl ?_); (try (refine gate_guard (by rfl) ?_; dsimp only)); refine box_event ?hg (N := 1) ?hd (cs := #[.string a0_0, .int .i64 a0_1, .slice A0_2 l0_2.length c0_2, .slice A0_3 l0_3.length c0_3]) (t := 151) ?hr ?_; (case hd => rfl); (case hg => rfl); (case hr => first | (go_simp; done) | (go_simp; rfl)); intro gb623 hg w3 hbox hb; have n0_ := Aside0.mk (below_step (by repeat (first | (with_reducible first | exact HB.out | apply below_alloc | apply pw_below_drewN | apply below_drew1) | exact HB.out)) hb); have n1_ := Aside0.mk (hbox); have n2_ := Aside0.mk ((by rw [hg]; exact (below_size (by repeat (first | (with_reducible first | exact HB.out | apply below_alloc | apply pw_below_drewN | apply below_drew1) | exact HB.out))) : w.heap.size ≤ gb623)); have n3_ := Aside0.mk ((by rw [hg]; exact (below_size (by repeat (first | (with_reducible first | exact HB.out | apply below_alloc | apply pw_below_drewN | apply below_drew1) | exact HB.out))) : w.heap.size ≤ gb623)); clear HB; have HB := n0_; have BK623 := n1_; have GW623 := n2_; have GE623 := n3_; clear n0_ n1_ n2_ n3_; clear hb hbox hg))
 (try simp only [Act.put, List.setIfInBounds_toArray, List.set_cons_zero, List.set_cons_succ])
 go_cut [44] (fun v44 wc => ∃ (kq : Nat) (x44_1 : Bool), v44 = .bool x44_1 ∧ Aside0 (impl_Relation_ok.j0 kq x44_1 a0_0 a0_1 l0_2 l0_3 = some r) ∧ Aside0 (kq ≤ k) ∧ Aside0 (wc.heap[gb623]? = some (.cells #[.string a0_0, .int .i64 a0_1, (.slice A0_2 l0_2.length c0_2), (.slice A0_3 l0_3.length c0_3)] 151 (0, 0))) ∧ Aside0 (Below w.heap.size w wc))
 case first =>
  have H := HC2.out
  clear HC2
  replace H := Option.bind_eq_some_iff.mp H
  obtain ⟨t624, A40, H⟩ := H
  replace H : (if t624 = true then (if a0_0.toList = ([114, 101, 108] : List UInt8) then (impl_Relation_ok.j0 k true a0_0 a0_1 l0_2 l0_3) else ((impl_within.f a0_1 1 3).bind fun t625 => (if t625 = true then (if (l0_2.length : Int) > 2000 then (impl_Relation_ok.j0 k true a0_0 a0_1 l0_2 l0_3) else (if (l0_3.length : Int) = (l0_2.length : Int) then ((impl_rowsOK.f k l0_2 a0_1).bind fun t626 => (impl_Relation_ok.j0 k (!t626) a0_0 a0_1 l0_2 l0_3)) else (impl_Relation_ok.j0 k true a0_0 a0_1 l0_2 l0_3))) else (impl_Relation_ok.j0 k true a0_0 a0_1 l0_2 l0_3)))) else (impl_Relation_ok.j0 k true a0_0 a0_1 l0_2 l0_3)) = some r := H
  have A4 := Aside0.mk A40
  clear A40
  by_cases c5 : t624 = true
  ·subst c5
   have H1 : (if a0_0.toList = ([114, 101, 108] : List UInt8) then (impl_Relation_ok.j0 k true a0_0 a0_1 l0_2 l0_3) else ((impl_within.f a0_1 1 3).bind fun t625 => (if t625 = true then (if (l0_2.length : Int) > 2000 then (impl_Relation_ok.j0 k true a0_0 a0_1 l0_2 l0_3) else (if (l0_3.length : Int) = (l0_2.length : Int) then ((impl_rowsOK.f k l0_2 a0_1).bind fun t626 => (impl_Relation_ok.j0 k (!t626) a0_0 a0_1 l0_2 l0_3)) else (impl_Relation_ok.j0 k true a0_0 a0_1 l0_2 l0_3))) else (impl_Relation_ok.j0 k true a0_0 a0_1 l0_2 l0_3)))) = some r := by rw [if_pos rfl] at H; exact H
   clear H
   have H := H1
   clear H1
   by_cases c6 : a0_0.toList = ([114, 101, 108] : List UInt8)
   ·rw [if_pos c6] at H
    have c6b0 : (a0_0.toList == ([114, 101, 108] : List UInt8)) = true := beq_iff_eq.mpr c6
    have c6b1 : (a0_0.toList != ([114, 101, 108] : List UInt8)) = false := bne_eq_false_iff_eq.mpr c6
    clear c6
    (first | rw [c6b0] | (simp only [i64_w, i32_w]; rw [c6b0]) | skip)
    have H' := Aside0.mk H
    clear H
    have hcz7_0 : w3.cell? ⟨gb623, 0, none⟩ = some (.string a0_0) := (blk_cell BK623.out 0).trans rfl
    have hcz7_1 : w3.cell? ⟨gb623, 1, none⟩ = some (.int .i64 a0_1) := (blk_cell BK623.out 1).trans rfl
    have hcz7_2 : w3.cell? ⟨gb623, 2, none⟩ = some (.slice A0_2 l0_2.length c0_2) := (blk_cell BK623.out 2).trans rfl
    have hcz7_3 : w3.cell? ⟨gb623, 3, none⟩ = some (.slice A0_3 l0_3.length c0_3) := (blk_cell BK623.out 3).trans rfl
    have hfz7_0 := blk_frozen BK623.out 0
    have hfz7_1 := blk_frozen BK623.out 1
    have hfz7_2 := blk_frozen BK623.out 2
    have hfz7_3 := blk_frozen BK623.out 3
    go_wp2_with (first | ((with_reducible refine gate_callee (f := 149) rfl ?_); refine goesL_ (some 9) rfl rfl Try.func149 (by kernel_rfl) rfl #[.string a0_0] rfl (by (try simp only [List.map_toArray, List.map_cons, List.map_nil]); first | done | rfl | (simp only [List.length_drop, List.length_take]; rfl)) ?_; (with_reducible refine (impl_isName.calls k a0_0 true _ A4.out).mono ?_); rintro e w' ⟨rfl, ⟨nd, rfl⟩⟩; refine ⟨_, rfl, ?_⟩))
    go_meet
    case rel => exact ⟨_, (true), (by first | rfl | (simp; done) | (simp [*]; done)), H', ⟨by first | omega | exact Nat.le_refl _⟩, ⟨by (with_reducible repeat (first | refine blk_drewN ?_ _ | refine blk_drew ?_ | refine blk_alloc ?_ _)); exact BK623.out⟩, ⟨by repeat (first | (with_reducible first | exact HB.out | apply below_alloc | apply pw_below_drewN | apply below_drew1 | refine below_set ?_ GE623.out) | exact HB.out)⟩⟩
   ·rw [if_neg c6] at H
    have c6b0 : (a0_0.toList == ([114, 101, 108] : List UInt8)) = false := beq_eq_false_iff_ne.mpr c6
    have c6b1 : (a0_0.toList != ([114, 101, 108] : List UInt8)) = true := bne_iff_ne.mpr c6
    (first | rw [c6b0] | (simp only [i64_w, i32_w]; rw [c6b0]) | skip)
    replace H := Option.bind_eq_some_iff.mp H
    obtain ⟨t625, A80, H⟩ := H
    replace H : (if t625 = true then (if (l0_2.length : Int) > 2000 then (impl_Relation_ok.j0 k true a0_0 a0_1 l0_2 l0_3) else (if (l0_3.length : Int) = (l0_2.length : Int) then ((impl_rowsOK.f k l0_2 a0_1).bind fun t626 => (impl_Relation_ok.j0 k (!t626) a0_0 a0_1 l0_2 l0_3)) else (impl_Relation_ok.j0 k true a0_0 a0_1 l0_2 l0_3))) else (impl_Relation_ok.j0 k true a0_0 a0_1 l0_2 l0_3)) = some r := H
    have A8 := Aside0.mk A80
    clear A80
    by_cases c9 : t625 = true
    ·subst c9
     have H1 : (if (l0_2.length : Int) > 2000 then (impl_Relation_ok.j0 k true a0_0 a0_1 l0_2 l0_3) else (if (l0_3.length : Int) = (l0_2.length : Int) then ((impl_rowsOK.f k l0_2 a0_1).bind fun t626 => (impl_Relation_ok.j0 k (!t626) a0_0 a0_1 l0_2 l0_3)) else (impl_Relation_ok.j0 k true a0_0 a0_1 l0_2 l0_3))) = some r := by rw [if_pos rfl] at H; exact H
     clear H
     have H := H1
     clear H1
     by_cases c10 : (l0_2.length : Int) > 2000
     ·rw [if_pos c10] at H
      have c10b0 : decide (2000 < (l0_2.length : Int)) = true := decide_eq_true c10
      have c10b1 : decide (2000 < l0_2.length) = true := decide_eq_true (by omega)
      clear c10
      have H' := Aside0.mk H
      clear H
      have hcz11_0 : w3.cell? ⟨gb623, 0, none⟩ = some (.string a0_0) := (blk_cell BK623.out 0).trans rfl
      have hcz11_1 : w3.cell? ⟨gb623, 1, none⟩ = some (.int .i64 a0_1) := (blk_cell BK623.out 1).trans rfl
      have hcz11_2 : w3.cell? ⟨gb623, 2, none⟩ = some (.slice A0_2 l0_2.length c0_2) := (blk_cell BK623.out 2).trans rfl
      have hcz11_3 : w3.cell? ⟨gb623, 3, none⟩ = some (.slice A0_3 l0_3.length c0_3) := (blk_cell BK623.out 3).trans rfl
      have hfz11_0 := blk_frozen BK623.out 0
      have hfz11_1 := blk_frozen BK623.out 1
      have hfz11_2 := blk_frozen BK623.out 2
      have hfz11_3 := blk_frozen BK623.out 3
      go_wp2_with (first | ((with_reducible refine gate_callee (f := 149) rfl ?_); refine goesL_ (some 9) rfl rfl Try.func149 (by kernel_rfl) rfl #[.string a0_0] rfl (by (try simp only [List.map_toArray, List.map_cons, List.map_nil]); first | done | rfl | (simp only [List.length_drop, List.length_take]; rfl)) ?_; (with_reducible refine (impl_isName.calls k a0_0 true _ A4.out).mono ?_); rintro e w' ⟨rfl, ⟨nd, rfl⟩⟩; refine ⟨_, rfl, ?_⟩) | (go_at_call 65; (with_reducible refine (impl_within.calls a0_1 1 3 true _ A8.out).mono ?_); rintro e w' ⟨rfl, ⟨nd, rfl⟩⟩))
      go_meet
      case rel => exact ⟨_, (true), (by first | rfl | (simp; done) | (simp [*]; done)), H', ⟨by first | omega | exact Nat.le_refl _⟩, ⟨by (with_reducible repeat (first | refine blk_drewN ?_ _ | refine blk_drew ?_ | refine blk_alloc ?_ _)); exact BK623.out⟩, ⟨by repeat (first | (with_reducible first | exact HB.out | apply below_alloc | apply pw_below_drewN | apply below_drew1 | refine below_set ?_ GE623.out) | exact HB.out)⟩⟩
     ·rw [if_neg c10] at H
      have c10b0 : decide (2000 < (l0_2.length : Int)) = false := decide_eq_false c10
      have c10b1 : decide (2000 < l0_2.length) = false := decide_eq_false (by omega)
      clear c10
      by_cases c12 : (l0_3.length : Int) = (l0_2.length : Int)
      ·rw [if_pos c12] at H
       have c12b0 : ((l0_3.length : Int) == (l0_2.length : Int)) = true := beq_iff_eq.mpr c12
       have c12b1 : ((l0_3.length : Int) != (l0_2.length : Int)) = false := bne_eq_false_iff_eq.mpr c12
       have c12b2 : (l0_3.length == l0_2.length) = true := by first | simpa using c12 | (simp at c12 ⊢; omega)
       clear c12
       replace H := Option.bind_eq_some_iff.mp H
       obtain ⟨t626, A130, H⟩ := H
       replace H : (impl_Relation_ok.j0 k (!t626) a0_0 a0_1 l0_2 l0_3) = some r := H
       have A13 := Aside0.mk A130
       clear A130
       have H' := Aside0.mk H
       clear H
       have hcz14_0 : w3.cell? ⟨gb623, 0, none⟩ = some (.string a0_0) := (blk_cell BK623.out 0).trans rfl
       have hcz14_1 : w3.cell? ⟨gb623, 1, none⟩ = some (.int .i64 a0_1) := (blk_cell BK623.out 1).trans rfl
       have hcz14_2 : w3.cell? ⟨gb623, 2, none⟩ = some (.slice A0_2 l0_2.length c0_2) := (blk_cell BK623.out 2).trans rfl
       have hcz14_3 : w3.cell? ⟨gb623, 3, none⟩ = some (.slice A0_3 l0_3.length c0_3) := (blk_cell BK623.out 3).trans rfl
       have hfz14_0 := blk_frozen BK623.out 0
       have hfz14_1 := blk_frozen BK623.out 1
       have hfz14_2 := blk_frozen BK623.out 2
       have hfz14_3 := blk_frozen BK623.out 3
       go_wp2_with (first | ((with_reducible refine gate_callee (f := 149) rfl ?_); refine goesL_ (some 9) rfl rfl Try.func149 (by kernel_rfl) rfl #[.string a0_0] rfl (by (try simp only [List.map_toArray, List.map_cons, List.map_nil]); first | done | rfl | (simp only [List.length_drop, List.length_take]; rfl)) ?_; (with_reducible refine (impl_isName.calls k a0_0 true _ A4.out).mono ?_); rintro e w' ⟨rfl, ⟨nd, rfl⟩⟩; refine ⟨_, rfl, ?_⟩) | (go_at_call 65; (with_reducible refine (impl_within.calls a0_1 1 3 true _ A8.out).mono ?_); rintro e w' ⟨rfl, ⟨nd, rfl⟩⟩) | (go_at_call 180; (with_reducible refine (impl_rowsOK.calls k _ _ l0_2 a0_1 t626 _ ?side1 ?side2 A13.out).mono ?_); (case side1 => repeat (first | exact (Kd.C_below HR0_2.out (by repeat (first | (with_reducible first | exact HB.out | apply below_alloc | apply pw_below_drewN | apply below_drew1 | refine below_set ?_ GE623.out) | exact HB.out))) | (with_reducible refine Kd.C_alloc ?_ _) | (with_reducible refine Kd.C_drewN ?_ _) | (with_reducible refine Kd.C_drew ?_))); (case side2 => exact HC0_2.out); rintro e w' ⟨rfl, ⟨nd, rfl⟩⟩))
       go_meet
       case rel => exact ⟨_, (!t626), (by first | rfl | (simp; done) | (simp [*]; done)), H', ⟨by first | omega | exact Nat.le_refl _⟩, ⟨by (with_reducible repeat (first | refine blk_drewN ?_ _ | refine blk_drew ?_ | refine blk_alloc ?_ _)); exact BK623.out⟩, ⟨by repeat (first | (with_reducible first | exact HB.out | apply below_alloc | apply pw_below_drewN | apply below_drew1 | refine below_set ?_ GE623.out) | exact HB.out)⟩⟩
      ·rw [if_neg c12] at H
       have c12b0 : ((l0_3.length : Int) == (l0_2.length : Int)) = false := beq_eq_false_iff_ne.mpr c12
       have c12b1 : ((l0_3.length : Int) != (l0_2.length : Int)) = true := bne_iff_ne.mpr c12
       have c12b2 : (l0_3.length == l0_2.length) = false := by first | simpa using c12 | (simp at c12 ⊢; omega)
       have H' := Aside0.mk H
       clear H
       have hcz15_0 : w3.cell? ⟨gb623, 0, none⟩ = some (.string a0_0) := (blk_cell BK623.out 0).trans rfl
       have hcz15_1 : w3.cell? ⟨gb623, 1, none⟩ = some (.int .i64 a0_1) := (blk_cell BK623.out 1).trans rfl
       have hcz15_2 : w3.cell? ⟨gb623, 2, none⟩ = some (.slice A0_2 l0_2.length c0_2) := (blk_cell BK623.out 2).trans rfl
       have hcz15_3 : w3.cell? ⟨gb623, 3, none⟩ = some (.slice A0_3 l0_3.length c0_3) := (blk_cell BK623.out 3).trans rfl
       have hfz15_0 := blk_frozen BK623.out 0
       have hfz15_1 := blk_frozen BK623.out 1
       have hfz15_2 := blk_frozen BK623.out 2
       have hfz15_3 := blk_frozen BK623.out 3
       go_wp2_with (first | ((with_reducible refine gate_callee (f := 149) rfl ?_); refine goesL_ (some 9) rfl rfl Try.func149 (by kernel_rfl) rfl #[.string a0_0] rfl (by (try simp only [List.map_toArray, List.map_cons, List.map_nil]); first | done | rfl | (simp only [List.length_drop, List.length_take]; rfl)) ?_; (with_reducible refine (impl_isName.calls k a0_0 true _ A4.out).mono ?_); rintro e w' ⟨rfl, ⟨nd, rfl⟩⟩; refine ⟨_, rfl, ?_⟩) | (go_at_call 65; (with_reducible refine (impl_within.calls a0_1 1 3 true _ A8.out).mono ?_); rintro e w' ⟨rfl, ⟨nd, rfl⟩⟩))
       go_meet
       case rel => exact ⟨_, (true), (by first | rfl | (simp; done) | (simp [*]; done)), H', ⟨by first | omega | exact Nat.le_refl _⟩, ⟨by (with_reducible repeat (first | refine blk_drewN ?_ _ | refine blk_drew ?_ | refine blk_alloc ?_ _)); exact BK623.out⟩, ⟨by repeat (first | (with_reducible first | exact HB.out | apply below_alloc | apply pw_below_drewN | apply below_drew1 | refine below_set ?_ GE623.out) | exact HB.out)⟩⟩
    ·replace c9 := Bool.eq_false_iff.mpr c9
     subst c9
     have H1 : (impl_Relation_ok.j0 k true a0_0 a0_1 l0_2 l0_3) = some r := by rw [if_neg (show ¬ (false = true) by decide)] at H; exact H
     clear H
     have H := H1
     clear H1
     have H' := Aside0.mk H
     clear H
     have hcz16_0 : w3.cell? ⟨gb623, 0, none⟩ = some (.string a0_0) := (blk_cell BK623.out 0).trans rfl
     have hcz16_1 : w3.cell? ⟨gb623, 1, none⟩ = some (.int .i64 a0_1) := (blk_cell BK623.out 1).trans rfl
     have hcz16_2 : w3.cell? ⟨gb623, 2, none⟩ = some (.slice A0_2 l0_2.length c0_2) := (blk_cell BK623.out 2).trans rfl
     have hcz16_3 : w3.cell? ⟨gb623, 3, none⟩ = some (.slice A0_3 l0_3.length c0_3) := (blk_cell BK623.out 3).trans rfl
     have hfz16_0 := blk_frozen BK623.out 0
     have hfz16_1 := blk_frozen BK623.out 1
     have hfz16_2 := blk_frozen BK623.out 2
     have hfz16_3 := blk_frozen BK623.out 3
     go_wp2_with (first | ((with_reducible refine gate_callee (f := 149) rfl ?_); refine goesL_ (some 9) rfl rfl Try.func149 (by kernel_rfl) rfl #[.string a0_0] rfl (by (try simp only [List.map_toArray, List.map_cons, List.map_nil]); first | done | rfl | (simp only [List.length_drop, List.length_take]; rfl)) ?_; (with_reducible refine (impl_isName.calls k a0_0 true _ A4.out).mono ?_); rintro e w' ⟨rfl, ⟨nd, rfl⟩⟩; refine ⟨_, rfl, ?_⟩) | (go_at_call 65; (with_reducible refine (impl_within.calls a0_1 1 3 false _ A8.out).mono ?_); rintro e w' ⟨rfl, ⟨nd, rfl⟩⟩))
     go_meet
     case rel => exact ⟨_, (true), (by first | rfl | (simp; done) | (simp [*]; done)), H', ⟨by first | omega | exact Nat.le_refl _⟩, ⟨by (with_reducible repeat (first | refine blk_drewN ?_ _ | refine blk_drew ?_ | refine blk_alloc ?_ _)); exact BK623.out⟩, ⟨by repeat (first | (with_reducible first | exact HB.out | apply below_alloc | apply pw_below_drewN | apply below_drew1 | refine below_set ?_ GE623.out) | exact HB.out)⟩⟩
  ·replace c5 := Bool.eq_false_iff.mpr c5
   subst c5
   have H1 : (impl_Relation_ok.j0 k true a0_0 a0_1 l0_2 l0_3) = some r := by rw [if_neg (show ¬ (false = true) by decide)] at H; exact H
   clear H
   have H := H1
   clear H1
   have H' := Aside0.mk H
   clear H
   have hcz17_0 : w3.cell? ⟨gb623, 0, none⟩ = some (.string a0_0) := (blk_cell BK623.out 0).trans rfl
   have hcz17_1 : w3.cell? ⟨gb623, 1, none⟩ = some (.int .i64 a0_1) := (blk_cell BK623.out 1).trans rfl
   have hcz17_2 : w3.cell? ⟨gb623, 2, none⟩ = some (.slice A0_2 l0_2.length c0_2) := (blk_cell BK623.out 2).trans rfl
   have hcz17_3 : w3.cell? ⟨gb623, 3, none⟩ = some (.slice A0_3 l0_3.length c0_3) := (blk_cell BK623.out 3).trans rfl
   have hfz17_0 := blk_frozen BK623.out 0
   have hfz17_1 := blk_frozen BK623.out 1
   have hfz17_2 := blk_frozen BK623.out 2
   have hfz17_3 := blk_frozen BK623.out 3
   go_wp2_with (first | ((with_reducible refine gate_callee (f := 149) rfl ?_); refine goesL_ (some 9) rfl rfl Try.func149 (by kernel_rfl) rfl #[.string a0_0] rfl (by (try simp only [List.map_toArray, List.map_cons, List.map_nil]); first | done | rfl | (simp only [List.length_drop, List.length_take]; rfl)) ?_; (with_reducible refine (impl_isName.calls k a0_0 false _ A4.out).mono ?_); rintro e w' ⟨rfl, ⟨nd, rfl⟩⟩; refine ⟨_, rfl, ?_⟩))
   go_meet
   case rel => exact ⟨_, (true), (by first | rfl | (simp; done) | (simp [*]; done)), H', ⟨by first | omega | exact Nat.le_refl _⟩, ⟨by (with_reducible repeat (first | refine blk_drewN ?_ _ | refine blk_drew ?_ | refine blk_alloc ?_ _)); exact BK623.out⟩, ⟨by repeat (first | (with_reducible first | exact HB.out | apply below_alloc | apply pw_below_drewN | apply below_drew1 | refine below_set ?_ GE623.out) | exact HB.out)⟩⟩
 case rest =>
  clear HC2
  try clear c1
  try clear p2
  try clear c5
  try clear c6
  try clear c6b0
  try clear c6b1
  try clear c9
  try clear c10
  try clear c10b0
  try clear c10b1
  try clear c12
  try clear c12b0
  try clear c12b1
  try clear c12b2
  try clear c14
  try clear c17
  try clear hcz11_0
  try clear hcz11_1
  try clear hcz11_2
  try clear hcz11_3
  try clear hcz14_0
  try clear hcz14_1
  try clear hcz14_2
  try clear hcz14_3
  try clear hcz15_0
  try clear hcz15_1
  try clear hcz15_2
  try clear hcz15_3
  try clear hcz16_0
  try clear hcz16_1
  try clear hcz16_2
  try clear hcz16_3
  try clear hcz17_0
  try clear hcz17_1
  try clear hcz17_2
  try clear hcz17_3
  try clear hcz7_0
  try clear hcz7_1
  try clear hcz7_2
  try clear hcz7_3
  try clear hfz11_0
  try clear hfz11_1
  try clear hfz11_2
  try clear hfz11_3
  try clear hfz14_0
  try clear hfz14_1
  try clear hfz14_2
  try clear hfz14_3
  try clear hfz15_0
  try clear hfz15_1
  try clear hfz15_2
  try clear hfz15_3
  try clear hfz16_0
  try clear hfz16_1
  try clear hfz16_2
  try clear hfz16_3
  try clear hfz17_0
  try clear hfz17_1
  try clear hfz17_2
  try clear hfz17_3
  try clear hfz7_0
  try clear hfz7_1
  try clear hfz7_2
  try clear hfz7_3
  obtain ⟨kq, x44_1, rfl, HA, HJ1, BK623, HB⟩ := hcut
  cases kq with
  | zero => exact absurd HA.out (by simp [impl_Relation_ok.j0])
  | succ kj1 =>
   have H := HA.out
   clear HA
   simp only [impl_Relation_ok.j0] at H
   by_cases c18 : x44_1 = true
   ·subst c18
    have H1 : (some false) = some r := by rw [if_pos rfl] at H; exact H
    clear H
    have H := H1
    clear H1
    obtain rfl := Option.some.inj H
    go_wp2
    go_ret
    exact ⟨by first | rfl | (simp [errW_none, errW_some] <;> rfl) | (simp [*, errW_none, errW_some] <;> rfl), by repeat (first | (with_reducible first | exact HB.out | apply below_alloc | apply pw_below_drewN | apply below_drew1 | refine below_set ?_ GE623.out) | exact HB.out)⟩
   ·replace c18 := Bool.eq_false_iff.mpr c18
    subst c18
    have H1 : (impl_Relation_ok.l0 kj1 l0_2 (l0_2.length : Int) 0 a0_0 a0_1 l0_2 l0_3) = some r := by rw [if_neg (show ¬ (false = true) by decide)] at H; exact H
    clear H
    have H := H1
    clear H1
    have H' := Aside0.mk H
    clear H
    have hcz19_0 : wc.cell? ⟨gb623, 0, none⟩ = some (.string a0_0) := (blk_cell BK623.out 0).trans rfl
    have hcz19_1 : wc.cell? ⟨gb623, 1, none⟩ = some (.int .i64 a0_1) := (blk_cell BK623.out 1).trans rfl
    have hcz19_2 : wc.cell? ⟨gb623, 2, none⟩ = some (.slice A0_2 l0_2.length c0_2) := (blk_cell BK623.out 2).trans rfl
    have hcz19_3 : wc.cell? ⟨gb623, 3, none⟩ = some (.slice A0_3 l0_3.length c0_3) := (blk_cell BK623.out 3).trans rfl
    have hfz19_0 := blk_frozen BK623.out 0
    have hfz19_1 := blk_frozen BK623.out 1
    have hfz19_2 := blk_frozen BK623.out 2
    have hfz19_3 := blk_frozen BK623.out 3
    go_wp2
    go_loopg [48] kj1 (fun kq v48 w' => ∃ (x48_2 : Int), v48 = .int .i64 x48_2 ∧ Aside0 (impl_Relation_ok.l0 kq l0_2 (l0_2.length : Int) x48_2 a0_0 a0_1 l0_2 l0_3 = some r) ∧ Aside0 (kq ≤ kj1) ∧ Aside0 (w'.heap[gb623]? = some (.cells #[.string a0_0, .int .i64 a0_1, (.slice A0_2 l0_2.length c0_2), (.slice A0_3 l0_3.length c0_3)] 151 (0, 0))) ∧ Aside0 (Below w.heap.size w w'))
    case atStart => exact ⟨(0), (by first | rfl | (simp; done) | (simp [*]; done)), H', ⟨Nat.le_refl _⟩, ⟨by (with_reducible repeat (first | refine blk_drewN ?_ _ | refine blk_drew ?_ | refine blk_alloc ?_ _)); exact BK623.out⟩, ⟨by repeat (first | (with_reducible first | exact HB.out | apply below_alloc | apply pw_below_drewN | apply below_drew1 | refine below_set ?_ GE623.out) | exact HB.out)⟩⟩
    case round =>
     clear H'
     try clear c1
     try clear p2
     try clear c5
     try clear c6
     try clear c6b0
     try clear c6b1
     try clear c9
     try clear c10
     try clear c10b0
     try clear c10b1
     try clear c12
     try clear c12b0
     try clear c12b1
     try clear c12b2
     try clear c14
     try clear c17
     try clear c18
     try clear hcz11_0
     try clear hcz11_1
     try clear hcz11_2
     try clear hcz11_3
     try clear hcz14_0
     try clear hcz14_1
     try clear hcz14_2
     try clear hcz14_3
     try clear hcz15_0
     try clear hcz15_1
     try clear hcz15_2
     try clear hcz15_3
     try clear hcz16_0
     try clear hcz16_1
     try clear hcz16_2
     try clear hcz16_3
     try clear hcz17_0
     try clear hcz17_1
     try clear hcz17_2
     try clear hcz17_3
     try clear hcz19_0
     try clear hcz19_1
     try clear hcz19_2
     try clear hcz19_3
     try clear hcz7_0
     try clear hcz7_1
     try clear hcz7_2
     try clear hcz7_3
     try clear hfz11_0
     try clear hfz11_1
     try clear hfz11_2
     try clear hfz11_3
     try clear hfz14_0
     try clear hfz14_1
     try clear hfz14_2
     try clear hfz14_3
     try clear hfz15_0
     try clear hfz15_1
     try clear hfz15_2
     try clear hfz15_3
     try clear hfz16_0
     try clear hfz16_1
     try clear hfz16_2
     try clear hfz16_3
     try clear hfz17_0
     try clear hfz17_1
     try clear hfz17_2
     try clear hfz17_3
     try clear hfz19_0
     try clear hfz19_1
     try clear hfz19_2
     try clear hfz19_3
     try clear hfz7_0
     try clear hfz7_1
     try clear hfz7_2
     try clear hfz7_3
     try clear p2
     obtain ⟨x48_2, rfl, HA, HK2, BK623, HB⟩ := hrel
     cases gk with
     | zero => exact absurd HA.out (by simp [impl_Relation_ok.l0])
     | succ k2 =>
      have H := HA.out
      clear HA
      simp only [impl_Relation_ok.l0] at H
      by_cases c20 : x48_2 < (l0_2.length : Int)
      ·rw [if_pos c20] at H
       have c20b0 : decide (x48_2 < (l0_2.length : Int)) = true := decide_eq_true c20
       clear c20
       by_cases c21 : 0 ≤ x48_2
       ·rw [if_pos c21] at H
        have c21b0 : decide (0 ≤ x48_2) = true := decide_eq_true c21
        clear c21
        by_cases c22 : x48_2 < (l0_2.length : Int)
        ·rw [if_pos c22] at H
         have c22b0 : decide (x48_2 < (l0_2.length : Int)) = true := decide_eq_true c22
         clear c22
         have H' := Aside0.mk H
         clear H
         have p627 : 0 ≤ (x48_2 : Int) := of_decide_eq_true (by first | (with_reducible assumption) | assumption)
         have q627 : x48_2 < (l0_2.length : Int) := of_decide_eq_true (by first | (with_reducible assumption) | assumption)
         obtain ⟨ad627, A627_0, c627_0, e627, hx627_0, hl627_0, hi627_0⟩ := at_L1 HR0_2.out x48_2 p627 q627
         cases e627
         replace hx627_0 := (HB.out.cell (World.block_lt_of_cell? w _ hx627_0)).trans hx627_0
         have HR627_0 := Aside0.mk hi627_0
         have HC627_0 := Aside0.mk hl627_0
         clear hi627_0 hl627_0
         replace p627 := eq_true p627
         replace q627 := eq_true q627
         go_wp2
         go_loopg [55] k2 (fun kq v55 w' => ∃ (x55_3 : Int), v55 = .int .i64 x55_3 ∧ Aside0 (impl_Relation_ok.l1 kq x48_2 l0_2 (l0_2.length : Int) x48_2 (rd_L1 l0_2 x48_2) ((rd_L1 l0_2 x48_2).length : Int) x55_3 a0_0 a0_1 l0_2 l0_3 = some r) ∧ Aside0 (kq ≤ k2) ∧ Aside0 (w'.heap[gb623]? = some (.cells #[.string a0_0, .int .i64 a0_1, (.slice (some ad627) l0_2.length c0_2), (.slice A0_3 l0_3.length c0_3)] 151 (0, 0))) ∧ Aside0 (Below w.heap.size w w'))
         case atStart => exact ⟨(0), (by first | rfl | (simp; done) | (simp [*]; done)), H', ⟨Nat.le_refl _⟩, ⟨by (with_reducible repeat (first | refine blk_drewN ?_ _ | refine blk_drew ?_ | refine blk_alloc ?_ _)); exact BK623.out⟩, ⟨by repeat (first | (with_reducible first | exact HB.out | apply below_alloc | apply pw_below_drewN | apply below_drew1 | refine below_set ?_ GE623.out) | exact HB.out)⟩⟩
         case round =>
          clear H'
          try clear c1
          try clear c2
          try clear p2
          try clear c5
          try clear c6
          try clear c6b0
          try clear c6b1
          try clear p6
          try clear q6
          try clear hx6
          try clear c9
          try clear c10
          try clear c10b0
          try clear c10b1
          try clear c12
          try clear c12b0
          try clear c12b1
          try clear c12b2
          try clear c14
          try clear c17
          try clear c18
          try clear c20
          try clear c20b0
          try clear c21
          try clear c21b0
          try clear c22
          try clear c22b0
          try clear hcz11_0
          try clear hcz11_1
          try clear hcz11_2
          try clear hcz11_3
          try clear hcz14_0
          try clear hcz14_1
          try clear hcz14_2
          try clear hcz14_3
          try clear hcz15_0
          try clear hcz15_1
          try clear hcz15_2
          try clear hcz15_3
          try clear hcz16_0
          try clear hcz16_1
          try clear hcz16_2
          try clear hcz16_3
          try clear hcz17_0
          try clear hcz17_1
          try clear hcz17_2
          try clear hcz17_3
          try clear hcz19_0
          try clear hcz19_1
          try clear hcz19_2
          try clear hcz19_3
          try clear hcz7_0
          try clear hcz7_1
          try clear hcz7_2
          try clear hcz7_3
          try clear hfz11_0
          try clear hfz11_1
          try clear hfz11_2
          try clear hfz11_3
          try clear hfz14_0
          try clear hfz14_1
          try clear hfz14_2
          try clear hfz14_3
          try clear hfz15_0
          try clear hfz15_1
          try clear hfz15_2
          try clear hfz15_3
          try clear hfz16_0
          try clear hfz16_1
          try clear hfz16_2
          try clear hfz16_3
          try clear hfz17_0
          try clear hfz17_1
          try clear hfz17_2
          try clear hfz17_3
          try clear hfz19_0
          try clear hfz19_1
          try clear hfz19_2
          try clear hfz19_3
          try clear hfz7_0
          try clear hfz7_1
          try clear hfz7_2
          try clear hfz7_3
          try clear hx627_0
          try clear p2
          try clear p627
          try clear q627
          obtain ⟨x55_3, rfl, HA, HK3, BK623, HB⟩ := hrel
          cases gk with
          | zero => exact absurd HA.out (by simp [impl_Relation_ok.l1])
          | succ k3 =>
           have H := HA.out
           clear HA
           simp only [impl_Relation_ok.l1] at H
           by_cases c23 : x55_3 < ((rd_L1 l0_2 x48_2).length : Int)
           ·rw [if_pos c23] at H
            have c23b0 : decide (x55_3 < ((rd_L1 l0_2 x48_2).length : Int)) = true := decide_eq_true c23
            clear c23
            by_cases c24 : 0 ≤ x55_3
            ·rw [if_pos c24] at H
             have c24b0 : decide (0 ≤ x55_3) = true := decide_eq_true c24
             clear c24
             by_cases c25 : x55_3 < ((rd_L1 l0_2 x48_2).length : Int)
             ·rw [if_pos c25] at H
              have c25b0 : decide (x55_3 < ((rd_L1 l0_2 x48_2).length : Int)) = true := decide_eq_true c25
              clear c25
              replace H := Option.bind_eq_some_iff.mp H
              obtain ⟨t629, A260, H⟩ := H
              replace H : (if t629 = true then (impl_Relation_ok.l1 k3 x48_2 l0_2 (l0_2.length : Int) x48_2 (rd_L1 l0_2 x48_2) ((rd_L1 l0_2 x48_2).length : Int) (wrap64 (x55_3 + 1)) a0_0 a0_1 l0_2 l0_3) else (some false)) = some r := H
              have A26 := Aside0.mk A260
              clear A260
              by_cases c27 : t629 = true
              ·subst c27
               have H1 : (impl_Relation_ok.l1 k3 x48_2 l0_2 (l0_2.length : Int) x48_2 (rd_L1 l0_2 x48_2) ((rd_L1 l0_2 x48_2).length : Int) (wrap64 (x55_3 + 1)) a0_0 a0_1 l0_2 l0_3) = some r := by rw [if_pos rfl] at H; exact H
               clear H
               have H := H1
               clear H1
               have H' := Aside0.mk H
               clear H
               have p628 : 0 ≤ (x55_3 : Int) := of_decide_eq_true (by first | (with_reducible assumption) | assumption)
               have q628 : x55_3 < ((rd_L1 l0_2 x48_2).length : Int) := of_decide_eq_true (by first | (with_reducible assumption) | assumption)
               obtain ⟨ad628, e628, hx628_0⟩ := Kd.at_int HR627_0.out x55_3 p628 q628
               cases e628
               replace hx628_0 := (HB.out.cell (World.block_lt_of_cell? w _ hx628_0)).trans hx628_0
               replace p628 := eq_true p628
               replace q628 := eq_true q628
               go_wp2_with (first | ((with_reducible refine gate_callee (f := 65) rfl ?_); refine goesL_ (some 60) rfl rfl Try.func65 (by kernel_rfl) rfl #[.int .i64 (rd (rd_L1 l0_2 x48_2) x55_3), .int .i64 0, .int .i64 1000000] rfl (by (try simp only [List.map_toArray, List.map_cons, List.map_nil]); first | done | rfl | (simp only [List.length_drop, List.length_take]; rfl)) ?_; (with_reducible refine (impl_within.calls (rd (rd_L1 l0_2 x48_2) x55_3) 0 1000000 true _ A26.out).mono ?_); rintro e w' ⟨rfl, ⟨nd, rfl⟩⟩; refine ⟨_, rfl, ?_⟩))
               go_roundg k3
               case measure => have := HJ1.out; have := HK2.out; have := HK3.out; omega
               case rel => exact ⟨(wrap64 (x55_3 + 1)), (by first | rfl | (simp; done) | (simp [*]; done)), H', ⟨by have := HJ1.out; have := HK2.out; have := HK3.out; omega⟩, ⟨by (with_reducible repeat (first | refine blk_drewN ?_ _ | refine blk_drew ?_ | refine blk_alloc ?_ _)); exact BK623.out⟩, ⟨by repeat (first | (with_reducible first | exact HB.out | apply below_alloc | apply pw_below_drewN | apply below_drew1 | refine below_set ?_ GE623.out) | exact HB.out)⟩⟩
              ·replace c27 := Bool.eq_false_iff.mpr c27
               subst c27
               have H1 : (some false) = some r := by rw [if_neg (show ¬ (false = true) by decide)] at H; exact H
               clear H
               have H := H1
               clear H1
               obtain rfl := Option.some.inj H
               have p628 : 0 ≤ (x55_3 : Int) := of_decide_eq_true (by first | (with_reducible assumption) | assumption)
               have q628 : x55_3 < ((rd_L1 l0_2 x48_2).length : Int) := of_decide_eq_true (by first | (with_reducible assumption) | assumption)
               obtain ⟨ad628, e628, hx628_0⟩ := Kd.at_int HR627_0.out x55_3 p628 q628
               cases e628
               replace hx628_0 := (HB.out.cell (World.block_lt_of_cell? w _ hx628_0)).trans hx628_0
               replace p628 := eq_true p628
               replace q628 := eq_true q628
               go_wp2_with (first | ((with_reducible refine gate_callee (f := 65) rfl ?_); refine goesL_ (some 60) rfl rfl Try.func65 (by kernel_rfl) rfl #[.int .i64 (rd (rd_L1 l0_2 x48_2) x55_3), .int .i64 0, .int .i64 1000000] rfl (by (try simp only [List.map_toArray, List.map_cons, List.map_nil]); first | done | rfl | (simp only [List.length_drop, List.length_take]; rfl)) ?_; (with_reducible refine (impl_within.calls (rd (rd_L1 l0_2 x48_2) x55_3) 0 1000000 false _ A26.out).mono ?_); rintro e w' ⟨rfl, ⟨nd, rfl⟩⟩; refine ⟨_, rfl, ?_⟩))
               go_ret
               exact ⟨by first | rfl | (simp [errW_none, errW_some] <;> rfl) | (simp [*, errW_none, errW_some] <;> rfl), by repeat (first | (with_reducible first | exact HB.out | apply below_alloc | apply pw_below_drewN | apply below_drew1 | refine below_set ?_ GE623.out) | exact HB.out)⟩
             ·rw [if_neg c25] at H
              exact absurd H (by simp)
            ·rw [if_neg c24] at H
             exact absurd H (by simp)
           ·rw [if_neg c23] at H
            have c23b0 : decide (x55_3 < ((rd_L1 l0_2 x48_2).length : Int)) = false := decide_eq_false c23
            clear c23
            by_cases c28 : 0 ≤ x48_2
            ·rw [if_pos c28] at H
             have c28b0 : decide (0 ≤ x48_2) = true := decide_eq_true c28
             clear c28
             by_cases c29 : x48_2 < (l0_3.length : Int)
             ·rw [if_pos c29] at H
              have c29b0 : decide (x48_2 < (l0_3.length : Int)) = true := decide_eq_true c29
              clear c29
              replace H := Option.bind_eq_some_iff.mp H
              obtain ⟨t631, A300, H⟩ := H
              replace H : (if t631 = true then (impl_Relation_ok.l0 k3 l0_2 (l0_2.length : Int) (wrap64 (x48_2 + 1)) a0_0 a0_1 l0_2 l0_3) else (some false)) = some r := H
              have A30 := Aside0.mk A300
              clear A300
              by_cases c31 : t631 = true
              ·subst c31
               have H1 : (impl_Relation_ok.l0 k3 l0_2 (l0_2.length : Int) (wrap64 (x48_2 + 1)) a0_0 a0_1 l0_2 l0_3) = some r := by rw [if_pos rfl] at H; exact H
               clear H
               have H := H1
               clear H1
               have H' := Aside0.mk H
               clear H
               have hcz32_0 : wr.cell? ⟨gb623, 0, none⟩ = some (.string a0_0) := (blk_cell BK623.out 0).trans rfl
               have hcz32_1 : wr.cell? ⟨gb623, 1, none⟩ = some (.int .i64 a0_1) := (blk_cell BK623.out 1).trans rfl
               have hcz32_2 : wr.cell? ⟨gb623, 2, none⟩ = some (.slice (some ad627) l0_2.length c0_2) := (blk_cell BK623.out 2).trans rfl
               have hcz32_3 : wr.cell? ⟨gb623, 3, none⟩ = some (.slice A0_3 l0_3.length c0_3) := (blk_cell BK623.out 3).trans rfl
               have hfz32_0 := blk_frozen BK623.out 0
               have hfz32_1 := blk_frozen BK623.out 1
               have hfz32_2 := blk_frozen BK623.out 2
               have hfz32_3 := blk_frozen BK623.out 3
               have p630 : 0 ≤ (x48_2 : Int) := of_decide_eq_true (by first | (with_reducible assumption) | assumption)
               have q630 : x48_2 < (l0_3.length : Int) := of_decide_eq_true (by first | (with_reducible assumption) | assumption)
               obtain ⟨ad630, e630, hx630_0⟩ := Kd.at_int HR0_3.out x48_2 p630 q630
               cases e630
               replace hx630_0 := (HB.out.cell (World.block_lt_of_cell? w _ hx630_0)).trans hx630_0
               replace p630 := eq_true p630
               replace q630 := eq_true q630
               go_wp2_with (first | ((with_reducible refine gate_callee (f := 65) rfl ?_); refine goesL_ (some 68) rfl rfl Try.func65 (by kernel_rfl) rfl #[.int .i64 (rd l0_3 x48_2), .int .i64 (-1000000), .int .i64 1000000] rfl (by (try simp only [List.map_toArray, List.map_cons, List.map_nil]); first | done | rfl | (simp only [List.length_drop, List.length_take]; rfl)) ?_; (with_reducible refine (impl_within.calls (rd l0_3 x48_2) (-1000000) 1000000 true _ A30.out).mono ?_); rintro e w' ⟨rfl, ⟨nd, rfl⟩⟩; refine ⟨_, rfl, ?_⟩))
               go_roundg k3
               case measure => have := HJ1.out; have := HK2.out; have := HK3.out; omega
               case rel => exact ⟨(wrap64 (x48_2 + 1)), (by first | rfl | (simp; done) | (simp [*]; done)), H', ⟨by have := HJ1.out; have := HK2.out; have := HK3.out; omega⟩, ⟨by (with_reducible repeat (first | refine blk_drewN ?_ _ | refine blk_drew ?_ | refine blk_alloc ?_ _)); exact BK623.out⟩, ⟨by repeat (first | (with_reducible first | exact HB.out | apply below_alloc | apply pw_below_drewN | apply below_drew1 | refine below_set ?_ GE623.out) | exact HB.out)⟩⟩
              ·replace c31 := Bool.eq_false_iff.mpr c31
               subst c31
               have H1 : (some false) = some r := by rw [if_neg (show ¬ (false = true) by decide)] at H; exact H
               clear H
               have H := H1
               clear H1
               obtain rfl := Option.some.inj H
               have hcz33_0 : wr.cell? ⟨gb623, 0, none⟩ = some (.string a0_0) := (blk_cell BK623.out 0).trans rfl
               have hcz33_1 : wr.cell? ⟨gb623, 1, none⟩ = some (.int .i64 a0_1) := (blk_cell BK623.out 1).trans rfl
               have hcz33_2 : wr.cell? ⟨gb623, 2, none⟩ = some (.slice (some ad627) l0_2.length c0_2) := (blk_cell BK623.out 2).trans rfl
               have hcz33_3 : wr.cell? ⟨gb623, 3, none⟩ = some (.slice A0_3 l0_3.length c0_3) := (blk_cell BK623.out 3).trans rfl
               have hfz33_0 := blk_frozen BK623.out 0
               have hfz33_1 := blk_frozen BK623.out 1
               have hfz33_2 := blk_frozen BK623.out 2
               have hfz33_3 := blk_frozen BK623.out 3
               have p630 : 0 ≤ (x48_2 : Int) := of_decide_eq_true (by first | (with_reducible assumption) | assumption)
               have q630 : x48_2 < (l0_3.length : Int) := of_decide_eq_true (by first | (with_reducible assumption) | assumption)
               obtain ⟨ad630, e630, hx630_0⟩ := Kd.at_int HR0_3.out x48_2 p630 q630
               cases e630
               replace hx630_0 := (HB.out.cell (World.block_lt_of_cell? w _ hx630_0)).trans hx630_0
               replace p630 := eq_true p630
               replace q630 := eq_true q630
               go_wp2_with (first | ((with_reducible refine gate_callee (f := 65) rfl ?_); refine goesL_ (some 68) rfl rfl Try.func65 (by kernel_rfl) rfl #[.int .i64 (rd l0_3 x48_2), .int .i64 (-1000000), .int .i64 1000000] rfl (by (try simp only [List.map_toArray, List.map_cons, List.map_nil]); first | done | rfl | (simp only [List.length_drop, List.length_take]; rfl)) ?_; (with_reducible refine (impl_within.calls (rd l0_3 x48_2) (-1000000) 1000000 false _ A30.out).mono ?_); rintro e w' ⟨rfl, ⟨nd, rfl⟩⟩; refine ⟨_, rfl, ?_⟩))
               go_ret
               exact ⟨by first | rfl | (simp [errW_none, errW_some] <;> rfl) | (simp [*, errW_none, errW_some] <;> rfl), by repeat (first | (with_reducible first | exact HB.out | apply below_alloc | apply pw_below_drewN | apply below_drew1 | refine below_set ?_ GE623.out) | exact HB.out)⟩
             ·rw [if_neg c29] at H
              exact absurd H (by simp)
            ·rw [if_neg c28] at H
             exact absurd H (by simp)
        ·rw [if_neg c22] at H
         exact absurd H (by simp)
       ·rw [if_neg c21] at H
        exact absurd H (by simp)
      ·rw [if_neg c20] at H
       have c20b0 : decide (x48_2 < (l0_2.length : Int)) = false := decide_eq_false c20
       clear c20
       obtain rfl := Option.some.inj H
       go_wp2
       go_ret
       exact ⟨by first | rfl | (simp [errW_none, errW_some] <;> rfl) | (simp [*, errW_none, errW_some] <;> rfl), by repeat (first | (with_reducible first | exact HB.out | apply below_alloc | apply pw_below_drewN | apply below_drew1 | refine below_set ?_ GE623.out) | exact HB.out)⟩
end Go.Proofs.Ytkolhpmhbgbphaa.P
namespace Go.Proofs.Ytkolhpmhbgbphaa.P
open Go.RowKit Go.Proofs.YtkolhpmhbgbphaaW.PrintWords Go.Proofs.YtkolhpmhbgbphaaW.PrintLast Go.Proofs.Ytkolhpmhbgbphaa.MapKit
set_option linter.unusedVariables false
set_option linter.unusedSimpArgs false
def dataLoop (ok : ByteArray → Int → List (List Int) → List Int → Option Bool) : List ByteArray → List S151 → Option Bool
  | _, [] => some true
  | ns, r :: rest => if r.f0 ∈ ns then some false else (ok r.f0 r.f1 r.f2 r.f3).bind fun b => if b = true then dataLoop ok (ns ++ [r.f0]) rest else some false
def dataOKf (k : Nat) (l : List S151) : Option Bool := if l.length > 50 then some false else dataLoop (impl_Relation_ok.f k) [] l
theorem dataLoop_mono (k : Nat) : ∀ (l : List S151) (ns : List ByteArray), LeO (dataLoop (impl_Relation_ok.f k) ns l) (dataLoop (impl_Relation_ok.f (k + 1)) ns l)
  | [], _ => LeO.refl _
  | r :: rest, ns => by
    simp only [dataLoop]
    refine LeO.ite (LeO.refl _) (LeO.bind (impl_Relation_ok.mono _ _ _ _ k) (fun (b : Bool) => LeO.ite (dataLoop_mono k rest _) (LeO.refl _)))
theorem dataOKf_mono (k : Nat) (l : List S151) : LeO (dataOKf k l) (dataOKf (k + 1) l) := LeO.ite (LeO.refl _) (dataLoop_mono k l [])
theorem zeroBool (w : World) : (zeroValue 4).run Try.prog w = .ok (.bool false) w := by kernel_rfl
theorem keyString : KeyEnc Try.prog 9 Value.string := KeyEnc.string Try.underlying9
set_option maxHeartbeats 4000000 in
set_option maxRecDepth 100000 in
theorem dataOK_walk (k : Nat) (A : Option Addr) (c : Nat) (l : List S151) (r : Bool) (w : World) (hr : Kd.C k151 w A l.length l) (hc : l.length ≤ c) (h : dataOKf k l = some r) :
    Calls Try.prog 109 #[.agg #[.slice A l.length c]] w fun e w' => e = .returned (.bool r) ∧ Below w.heap.size w w' := by
  have hu1 := Try.underlying71
  have hu2 := Try.underlying151
  have HR := Aside0.mk hr
  have HB := Aside0.mk (Below.refl w.heap.size w)
  have hlen : l.length ≤ 9223372036854775807 := hr.2.1
  clear hr
  unfold dataOKf at h
  by_cases c2 : l.length > 50
  · rw [if_pos c2] at h
    obtain rfl := Option.some.inj h
    have c2b0 : decide (50 < (l.length : Int)) = true := decide_eq_true (by omega)
    have c2b1 : decide (50 < l.length) = true := decide_eq_true c2
    clear h c2
    have hmm := @run_makeMap Try.prog
    go_enter Try.func109, Try.ntmps109
    go_wp2
    go_ret
    exact ⟨rfl, by repeat (first | exact HB.out | apply below_alloc | apply pw_below_drewN | apply below_drew1)⟩
  · rw [if_neg c2] at h
    have c2b0 : decide (50 < (l.length : Int)) = false := decide_eq_false (by omega)
    have c2b1 : decide (50 < l.length) = false := decide_eq_false c2
    have H := Aside0.mk h
    clear h c2
    have hmm := @run_makeMap Try.prog
    go_enter Try.func109, Try.ntmps109
    go_wp2
    go_loopw [14] (fun i wr => ∃ x : Int, i = .int .i64 x ∧ 0 ≤ x ∧ x ≤ (l.length : Int) ∧ Aside0 (dataLoop (impl_Relation_ok.f k) ((l.take x.toNat).map (fun z => z.f0)) (l.drop x.toNat) = some r) ∧ Aside0 (HasMap wr (w.heap.size + 1) Value.string (setL ((l.take x.toNat).map (fun z => z.f0)))) ∧ Aside0 (Below w.heap.size w wr)) (fun i _ => l.length - (intOf i).toNat)
    case atStart =>
      refine ⟨0, rfl, by omega, by omega, ⟨by simpa using H.out⟩, ⟨?_⟩, ⟨by repeat (first | exact HB.out | apply below_alloc)⟩⟩
      have h1 := HasMap.made (w.alloc (.cells #[.slice A l.length c] 71)) Value.string
      simpa [setL] using h1
    case round =>
      obtain ⟨x, rfl, h0, hle, HA, HM, HB⟩ := hrel
      by_cases hlt : x < (l.length : Int)
      · obtain ⟨ad, A2, c2, A3, c3, e, hx0, hx1, hx2, hx3, hl2, hi2, hl3, hi3⟩ := at_T151 HR.out x h0 hlt
        cases e
        have hn : x.toNat < l.length := by omega
        have hrd : rd_T151 l x = l[x.toNat] := by unfold rd_T151; simp [List.getD_eq_getElem?_getD, hn]
        have HA2 : Aside0 (dataLoop (impl_Relation_ok.f k) ((l.take x.toNat).map (fun z => z.f0)) (rd_T151 l x :: l.drop (x.toNat + 1)) = some r) := ⟨by rw [hrd, ← List.drop_eq_getElem_cons hn]; exact HA.out⟩
        have HT : Aside0 ((l.take (x.toNat + 1)).map (fun z => z.f0) = (l.take x.toNat).map (fun z => z.f0) ++ [(rd_T151 l x).f0]) := ⟨by rw [List.take_succ_eq_append_getElem hn, List.map_append, hrd]; rfl⟩
        clear HA hrd
        replace hx0 := (HB.out.cell (World.block_lt_of_cell? w _ hx0)).trans hx0
        replace hx1 := (HB.out.cell (World.block_lt_of_cell? w _ hx1)).trans hx1
        replace hx2 := (HB.out.cell (World.block_lt_of_cell? w _ hx2)).trans hx2
        replace hx3 := (HB.out.cell (World.block_lt_of_cell? w _ hx3)).trans hx3
        have HR2 := Aside0.mk hi2
        have HC2 := Aside0.mk hl2
        have HR3 := Aside0.mk hi3
        have HC3 := Aside0.mk hl3
        clear hi2 hl2 hi3 hl3
        generalize rd_T151 l x = q at *
        obtain ⟨q0, q1, q2, q3⟩ := q
        dsimp only at *
        have Hd := HA2.out
        simp only [dataLoop] at Hd
        by_cases hm : q0 ∈ (l.take x.toNat).map (fun z => z.f0)
        · rw [if_pos hm] at Hd
          obtain rfl := Option.some.inj Hd
          clear Hd
          have hget : (get q0 (setL ((l.take x.toNat).map (fun z => z.f0)))).getD (.bool false) = .bool true := by rw [get_set]; simp only [hm, decide_true]
          have HG := Aside0.mk hget
          clear hget
          have hlt2 := HM.out.lt
          go_wp2_with (first | (at_lookup; refine wp_lookup rfl false _ _ rfl keyString Try.underlying189 (zeroBool _) rfl q0 rfl (l := setL ((l.take x.toNat).map (fun z => z.f0))) ?_ ?_; (case refine_1 => repeat (first | exact HM.out | refine HasMap.alloc ?_ _ | refine HasMap.set ?_ (by simp; omega) _)); (simp only [Bool.false_eq_true, if_false]; rw [HG.out])))
          go_ret
          exact ⟨rfl, by repeat (first | exact HB.out | apply below_alloc | refine below_set ?_ (by simp; omega))⟩
        · rw [if_neg hm] at Hd
          obtain ⟨b, hb1, Hd⟩ := Option.bind_eq_some_iff.1 Hd
          have HK := Aside0.mk hb1
          have HD := Aside0.mk Hd
          clear hb1 Hd
          have hget : (get q0 (setL ((l.take x.toNat).map (fun z => z.f0)))).getD (.bool false) = .bool false := by rw [get_set]; simp only [hm, decide_false]
          have HG := Aside0.mk hget
          have HN := Aside0.mk hm
          clear hget hm
          have hlt2 := HM.out.lt
          have hcall : ∀ W, Below w.heap.size w W → Calls Try.prog 172 #[.agg #[.string q0, .int .i64 q1, .slice A2 q2.length c2, .slice A3 q3.length c3]] W fun e W' => e = .returned (.bool b) ∧ Below W.heap.size W W' :=
            fun W hW => impl_Relation_ok.calls k q0 q1 A2 c2 q2 A3 c3 q3 b W (Kd.C_below HR2.out hW) HC2.out (Kd.C_below HR3.out hW) HC3.out HK.out
          have HCA := Aside0.mk hcall
          clear hcall
          cases b with
          | false =>
            have HD' := HD.out
            simp only [Bool.false_eq_true, if_false] at HD'
            obtain rfl := Option.some.inj HD'
            clear HD HD'
            go_wp2_with (first | (at_lookup; refine wp_lookup rfl false _ _ rfl keyString Try.underlying189 (zeroBool _) rfl q0 rfl (l := setL ((l.take x.toNat).map (fun z => z.f0))) ?_ ?_; (case refine_1 => repeat (first | exact HM.out | refine HasMap.alloc ?_ _ | refine HasMap.set ?_ (by simp; omega) _)); (simp only [Bool.false_eq_true, if_false]; rw [HG.out])) | (go_at_call 172; refine (HCA.out _ (by repeat (first | exact HB.out | apply below_alloc | refine below_set ?_ (by simp; omega)))).mono ?_; rintro e w1 ⟨rfl, hb1⟩))
            go_ret
            exact ⟨rfl, below_step (by repeat (first | exact HB.out | apply below_alloc | refine below_set ?_ (by simp; omega))) hb1⟩
          | true =>
            have HD' := HD.out
            simp only [if_true] at HD'
            have HD2 := Aside0.mk HD'
            clear HD HD'
            go_wp2_with (first | (at_lookup; refine wp_lookup rfl false _ _ rfl keyString Try.underlying189 (zeroBool _) rfl q0 rfl (l := setL ((l.take x.toNat).map (fun z => z.f0))) ?_ ?_; (case refine_1 => repeat (first | exact HM.out | refine HasMap.alloc ?_ _ | refine HasMap.set ?_ (by simp; omega) _)); (simp only [Bool.false_eq_true, if_false]; rw [HG.out])) | (go_at_call 172; refine (HCA.out _ (by repeat (first | exact HB.out | apply below_alloc | refine below_set ?_ (by simp; omega)))).mono ?_; rintro e w1 ⟨rfl, hb1⟩; have hc5 : w1.cell? ⟨wr.heap.size, 0, none⟩ = some (.string q0) := (hb1.cell (p := ⟨wr.heap.size, 0, none⟩) (by simp)).trans (by go_simp)) | (at_mapUpdate; refine wp_update rfl _ _ _ rfl keyString Try.underlying189 rfl q0 rfl (.bool true) rfl (l := setL ((l.take x.toNat).map (fun z => z.f0))) ?_ ?_; (case refine_1 => exact HasMap.below (by repeat (first | exact HM.out | refine HasMap.alloc ?_ _ | refine HasMap.set ?_ (by simp; omega) _)) hb1); intro w2 hm2 hg2))
            have hx1 : (x + 1).toNat = x.toNat + 1 := by omega
            go_roundw
            case rel =>
              have hbb : Below w.heap.size w w1 := below_step (by repeat (first | exact HB.out | apply below_alloc | refine below_set ?_ (by simp; omega))) hb1
              refine ⟨x + 1, rfl, by omega, by omega, ⟨?_⟩, ⟨?_⟩, ⟨?_⟩⟩
              · rw [hx1, HT.out]; exact HD2.out
              · rw [hx1, HT.out, ← put_set q0 _ HN.out]; exact hm2
              · exact hbb.grown hg2 hbb.size (fun k hk => by injection hk with hk; omega)
            case measure => simp [intOf]; omega
      · have hx : x.toNat = l.length := by omega
        have Hd := HA.out
        rw [hx, List.drop_length] at Hd
        simp only [dataLoop] at Hd
        obtain rfl := Option.some.inj Hd
        clear Hd HA
        go_wp2
        go_ret
        exact ⟨rfl, HB.out⟩
end Go.Proofs.Ytkolhpmhbgbphaa.P
namespace Go.Proofs.Ytkolhpmhbgbphaa.P
open Go.RowKit Go.Proofs.YtkolhpmhbgbphaaW.PrintWords Go.Proofs.YtkolhpmhbgbphaaW.PrintLast Go.Proofs.YtkolhpmhbgbphaaW.PrintMore
attribute [local go_sem] max2_int min2_int max_two min_two max_three min_three max_four min_four
set_option linter.unusedVariables false
set_option linter.unusedSimpArgs false
def impl_DataOK.f (k : Nat) (l0_0 : List (S151)) : Option (Bool) :=
 dataOKf k l0_0
theorem impl_DataOK.mono : ∀ a0 k, LeO (impl_DataOK.f k a0) (impl_DataOK.f (k + 1) a0) := by
 intro a0 k
 exact dataOKf_mono k a0
theorem impl_DataOK.calls (k : Nat) (A0_0 : Option Addr) (c0_0 : Nat) (l0_0 : List (S151)) (r : Bool) (w : World) (hr0_0 : Kd.C k151 w A0_0 l0_0.length l0_0) (hc0_0 : l0_0.length ≤ c0_0) (h : impl_DataOK.f k l0_0 = some r) :
  Calls Try.prog 109 #[.agg #[.slice A0_0 l0_0.length c0_0]] w fun e w' => e = .returned (.bool r) ∧ Below w.heap.size w w' := by
 exact dataOK_walk k A0_0 c0_0 l0_0 r w hr0_0 hc0_0 h
end Go.Proofs.Ytkolhpmhbgbphaa.P
namespace Go.Proofs.Ytkolhpmhbgbphaa.P
open Go.RowKit Go.Proofs.YtkolhpmhbgbphaaW.PrintWords Go.Proofs.YtkolhpmhbgbphaaW.PrintLast Go.Proofs.Ytkolhpmhbgbphaa.MapKit Go.Proofs.Ytkolhpmhbgbphaa.EvKit
set_option linter.unusedVariables false
set_option linter.unusedSimpArgs false
def atomsC (rels : List S151) : List S148 → Nat → Option (Int × Int)
  | [], _ => none
  | a :: r, i => match relAt a.f0 rels 0 with
    | none => some (4, i)
    | some j => if (rels.getD j z151).f1 = (a.f1.length : Int) then atomsC rels r (i + 1) else some (5, i)
def headC (vars head : List ByteArray) : List ByteArray → Nat → Int × Int
  | [], _ => (0, 0)
  | h :: r, j => if h ∈ vars ∧ h ∉ head.take j then headC vars head r (j + 1) else (7, j)
def checkH (rels : List S151) (head : List ByteArray) (l : List S148) : Int × Int :=
  match atomsC rels l 0 with
  | some p => p
  | none => if 6 < (varsF l).length then (6, 0) else headC (varsF l) head head 0
theorem checkH_some {rels : List S151} {head : List ByteArray} {l : List S148} {p : Int × Int} (h : atomsC rels l 0 = some p) : checkH rels head l = p := by unfold checkH; rw [h]
theorem checkH_none {rels : List S151} {head : List ByteArray} {l : List S148} (h : atomsC rels l 0 = none) : checkH rels head l = if 6 < (varsF l).length then (6, 0) else headC (varsF l) head head 0 := by unfold checkH; rw [h]
def checkG (rels : List S151) (head : List ByteArray) (l : List S148) (db sb : Bool) : Int × Int :=
  if db = false then (1, 0) else if sb = false then (2, 0) else if 7 < l.length then (3, 0) else checkH rels head l
def Bx (W : World) (n : Nat) (a b c d e : Value) : Prop := W.cell? ⟨n, 0, none⟩ = some a ∧ W.cell? ⟨n + 1, 0, none⟩ = some b ∧ W.cell? ⟨n + 1, 1, none⟩ = some c ∧ W.cell? ⟨n + 1, 2, none⟩ = some d ∧ W.cell? ⟨n + 1, 3, none⟩ = some e
theorem Bx.below {W W' : World} {n : Nat} {a b c d e : Value} (h : Bx W n a b c d e) (hb : Below W.heap.size W W') : Bx W' n a b c d e := by
  obtain ⟨h0, h1, h2, h3, h4⟩ := h
  exact ⟨(hb.cell (World.block_lt_of_cell? W _ h0)).trans h0, (hb.cell (World.block_lt_of_cell? W _ h1)).trans h1, (hb.cell (World.block_lt_of_cell? W _ h2)).trans h2, (hb.cell (World.block_lt_of_cell? W _ h3)).trans h3, (hb.cell (World.block_lt_of_cell? W _ h4)).trans h4⟩
def pairV (p : Int × Int) : Value := .tuple #[.int .i64 p.1, .int .i64 p.2]
theorem relAt_lt (n : ByteArray) : ∀ (l : List S151) (i j : Nat), relAt n l i = some j → i ≤ j ∧ j < i + l.length
  | [], i, j, h => by simp [relAt] at h
  | r :: rest, i, j, h => by
    simp only [relAt] at h
    by_cases hq : r.f0 = n
    · rw [if_pos hq] at h; injection h with h; simp; omega
    · rw [if_neg hq] at h
      have := relAt_lt n rest (i + 1) j h
      simp; omega
set_option maxHeartbeats 8000000 in
set_option maxRecDepth 100000 in
theorem checkQuery_walk (A0 : Option Addr) (c0 : Nat) (l0 : List S151) (a1 : ByteArray) (A1 : Option Addr) (c1 : Nat) (l1 : List ByteArray) (a2 : Int) (A3 : Option Addr) (c3 : Nat) (l3 : List S148) (w : World)
    (hr0 : Kd.C k151 w A0 l0.length l0) (hc0 : l0.length ≤ c0) (hr1 : Kd.C Kd.string w A1 l1.length l1) (hc1 : l1.length ≤ c1) (hr3 : Kd.C k148 w A3 l3.length l3) (hc3 : l3.length ≤ c3)
    (db sb : Bool) (hD : ∃ k, impl_DataOK.f k l0 = some db) (hS : ∃ k, impl_Query_shape.f k a1 l1 a2 l3 = some sb) (hCt : ∀ (l : List ByteArray) (s : ByteArray), l.length ≤ 1048576 → ∃ k, slices_Contains_string_string.f k l s = some (decide (s ∈ l)))
    (hN : (varsF l3).length ≤ 1048576) (hH : l1.length ≤ 1048576) :
    Calls Try.prog 43 #[.agg #[.slice A0 l0.length c0], .agg #[.string a1, .slice A1 l1.length c1, .int .i64 a2, .slice A3 l3.length c3]] w fun e w' => e = .returned (pairV (checkG l0 l1 l3 db sb)) ∧ Below w.heap.size w w' := by
  have hu0 := Try.underlying71
  have hu1 := Try.underlying39
  have hu2 := Try.underlying148
  have hu3 := Try.underlying151
  obtain ⟨kD, hD⟩ := hD
  obtain ⟨kS, hS⟩ := hS
  have HD : Aside0 (∀ W, Below w.heap.size w W → Calls Try.prog 109 #[.agg #[.slice A0 l0.length c0]] W fun e W' => e = .returned (.bool db) ∧ Below W.heap.size W W') := ⟨fun W hW => impl_DataOK.calls kD A0 c0 l0 db W (Kd.C_below hr0 hW) hc0 hD⟩
  have HS : Aside0 (∀ W, Below w.heap.size w W → Calls Try.prog 75 #[.agg #[.string a1, .slice A1 l1.length c1, .int .i64 a2, .slice A3 l3.length c3]] W fun e W' => e = .returned (.bool sb) ∧ Below W.heap.size W W') := ⟨fun W hW => impl_Query_shape.calls kS a1 A1 c1 l1 a2 A3 c3 l3 sb W (Kd.C_below hr1 hW) hc1 (Kd.C_below hr3 hW) hc3 hS⟩
  have HV : Aside0 (∀ W, Below w.heap.size w W → Calls Try.prog 76 #[.agg #[.string a1, .slice A1 l1.length c1, .int .i64 a2, .slice A3 l3.length c3]] W (VarsPost W (varsF l3))) := ⟨fun W hW => variables_walk a1 A1 c1 l1 a2 A3 c3 l3 W (Kd.C_below hr3 hW) hc3 hN⟩
  have HRel : Aside0 (∀ W nm, Below w.heap.size w W → Calls Try.prog 110 #[.agg #[.slice A0 l0.length c0], .string nm] W fun e W' => e = .returned (relVal A0 (relAt nm l0 0)) ∧ Below W.heap.size W W') := ⟨fun W nm hW => relation_walk A0 c0 l0 nm W (Kd.C_below hr0 hW) hc0⟩
  have HR0 := Aside0.mk hr0
  have HR1 := Aside0.mk hr1
  have HR3 := Aside0.mk hr3
  have HC1 := Aside0.mk hc1
  have HB := Aside0.mk (Below.refl w.heap.size w)
  have HN := Aside0.mk hN
  have HH := Aside0.mk hH
  have HCt := Aside0.mk hCt
  have hlen : l3.length ≤ 9223372036854775807 := hr3.2.1
  have hlen1 : l1.length ≤ 9223372036854775807 := hr1.2.1
  clear hr0 hr1 hr3 hN hH hCt hD hS hc1
  cases db with
  | false =>
    go_enter Try.func43, Try.ntmps43
    go_wp2_with (first | (go_at_call 109; refine (HD.out _ (by repeat (first | exact HB.out | apply below_alloc))).mono ?_; rintro e w1 ⟨rfl, hb1⟩))
    go_ret2
    exact ⟨rfl, below_step (by repeat (first | exact HB.out | apply below_alloc)) hb1⟩
  | true =>
  cases sb with
  | false =>
    go_enter Try.func43, Try.ntmps43
    go_wp2_with (first | (go_at_call 109; refine (HD.out _ (by repeat (first | exact HB.out | apply below_alloc))).mono ?_; rintro e w1 ⟨rfl, hb1⟩; have HB1 := Aside0.mk (below_step (by repeat (first | exact HB.out | apply below_alloc)) hb1 : Below w.heap.size w w1); have HX1 : Aside0 (Bx w1 w.heap.size (.slice A0 l0.length c0) (.string a1) (.slice A1 l1.length c1) (.int .i64 a2) (.slice A3 l3.length c3)) := ⟨Bx.below ⟨by go_simp, by go_simp, by go_simp, by go_simp, by go_simp⟩ hb1⟩; obtain ⟨p0, q0, q1, q2, q3⟩ := HX1.out; clear hb1) | (go_at_call 75; refine (HS.out _ HB1.out).mono ?_; rintro e w2 ⟨rfl, hb2⟩))
    go_ret2
    exact ⟨rfl, below_step HB1.out hb2⟩
  | true =>
    have HBx := fun (W : World) (x : Nat) => True
    clear HBx
    by_cases h7 : 7 < l3.length
    · have e7 : decide ((7 : Int) < (l3.length : Int)) = true := decide_eq_true (by omega)
      have e8 : decide (7 < l3.length) = true := decide_eq_true h7
      have HG : Aside0 (checkG l0 l1 l3 true true = (3, 0)) := ⟨by unfold checkG; simp [h7]⟩
      clear h7
      go_enter Try.func43, Try.ntmps43
      go_wp2_with (first | (go_at_call 109; refine (HD.out _ (by repeat (first | exact HB.out | apply below_alloc))).mono ?_; rintro e w1 ⟨rfl, hb1⟩; have HB1 := Aside0.mk (below_step (by repeat (first | exact HB.out | apply below_alloc)) hb1 : Below w.heap.size w w1); have HX1 : Aside0 (Bx w1 w.heap.size (.slice A0 l0.length c0) (.string a1) (.slice A1 l1.length c1) (.int .i64 a2) (.slice A3 l3.length c3)) := ⟨Bx.below ⟨by go_simp, by go_simp, by go_simp, by go_simp, by go_simp⟩ hb1⟩; obtain ⟨p0, q0, q1, q2, q3⟩ := HX1.out; clear hb1) | (go_at_call 75; refine (HS.out _ HB1.out).mono ?_; rintro e w2 ⟨rfl, hb2⟩; have HB2 := Aside0.mk (below_step HB1.out hb2 : Below w.heap.size w w2); have HX2 : Aside0 (Bx w2 w.heap.size (.slice A0 l0.length c0) (.string a1) (.slice A1 l1.length c1) (.int .i64 a2) (.slice A3 l3.length c3)) := ⟨HX1.out.below hb2⟩; clear hb2; obtain ⟨r0, s0, s1, s2, s3⟩ := HX2.out))
      go_ret2
      exact ⟨by rw [HG.out]; rfl, HB2.out⟩
    · have e7 : decide ((7 : Int) < (l3.length : Int)) = false := decide_eq_false (by omega)
      have e8 : decide (7 < l3.length) = false := decide_eq_false h7
      have HG : Aside0 (checkG l0 l1 l3 true true = checkH l0 l1 l3) := ⟨by unfold checkG; simp [h7]⟩
      clear h7
      go_enter Try.func43, Try.ntmps43
      go_wp2_with (first | (go_at_call 109; refine (HD.out _ (by repeat (first | exact HB.out | apply below_alloc))).mono ?_; rintro e w1 ⟨rfl, hb1⟩; have HB1 := Aside0.mk (below_step (by repeat (first | exact HB.out | apply below_alloc)) hb1 : Below w.heap.size w w1); have HX1 : Aside0 (Bx w1 w.heap.size (.slice A0 l0.length c0) (.string a1) (.slice A1 l1.length c1) (.int .i64 a2) (.slice A3 l3.length c3)) := ⟨Bx.below ⟨by go_simp, by go_simp, by go_simp, by go_simp, by go_simp⟩ hb1⟩; obtain ⟨p0, q0, q1, q2, q3⟩ := HX1.out; clear hb1) | (go_at_call 75; refine (HS.out _ HB1.out).mono ?_; rintro e w2 ⟨rfl, hb2⟩; have HB2 := Aside0.mk (below_step HB1.out hb2 : Below w.heap.size w w2); have HX2 : Aside0 (Bx w2 w.heap.size (.slice A0 l0.length c0) (.string a1) (.slice A1 l1.length c1) (.int .i64 a2) (.slice A3 l3.length c3)) := ⟨HX1.out.below hb2⟩; clear hb2; obtain ⟨r0, s0, s1, s2, s3⟩ := HX2.out))
      clear p0 q0 q1 q2 q3 r0 s0 s1 s2 s3
      go_loopw [28] (fun i wr => ∃ x : Int, i = .int .i64 x ∧ 0 ≤ x ∧ x ≤ (l3.length : Int) ∧ Aside0 (atomsC l0 l3 0 = atomsC l0 (l3.drop x.toNat) x.toNat) ∧ Aside0 (Bx wr w.heap.size (.slice A0 l0.length c0) (.string a1) (.slice A1 l1.length c1) (.int .i64 a2) (.slice A3 l3.length c3)) ∧ Aside0 (Below w.heap.size w wr)) (fun i _ => l3.length - (intOf i).toNat)
      case atStart => exact ⟨0, rfl, by omega, by omega, ⟨by simp⟩, ⟨HX2.out⟩, ⟨HB2.out⟩⟩
      case round =>
        clear HX1 HX2 HB1 HB2 HB e7 e8
        obtain ⟨x, rfl, h0, hle, HA, HX, HB⟩ := hrel
        obtain ⟨p0, q0, q1, q2, q3⟩ := HX.out
        have hz : w.heap.size + 1 < wr.heap.size := World.block_lt_of_cell? wr _ q0
        have hz0 : w.heap.size < wr.heap.size := by omega
        by_cases hlt : x < (l3.length : Int)
        · obtain ⟨ad, A5, c5, e, hx0, hx1, hl5, hi5⟩ := at_T148 HR3.out x h0 hlt
          cases e
          have hn : x.toNat < l3.length := by omega
          have hrd : rd_T148 l3 x = l3[x.toNat] := by unfold rd_T148; simp [List.getD_eq_getElem?_getD, hn]
          have HA2 : Aside0 (atomsC l0 l3 0 = atomsC l0 (rd_T148 l3 x :: l3.drop (x + 1).toNat) x.toNat) := ⟨by rw [hrd, show (x + 1).toNat = x.toNat + 1 by omega, ← List.drop_eq_getElem_cons hn]; exact HA.out⟩
          have HX3 : Aside0 ((x + 1).toNat = x.toNat + 1 ∧ ((x.toNat : Nat) : Int) = x) := ⟨by omega, by omega⟩
          clear HA hrd
          replace hx0 := (HB.out.cell (World.block_lt_of_cell? w _ hx0)).trans hx0
          replace hx1 := (HB.out.cell (World.block_lt_of_cell? w _ hx1)).trans hx1
          clear hi5 hl5
          generalize rd_T148 l3 x = q at *
          obtain ⟨n0, ts⟩ := q
          dsimp only at *
          have HZ := Aside0.mk (HB.out.size)
          cases hrel : relAt n0 l0 0 with
          | none =>
            have H : Aside0 (atomsC l0 l3 0 = some (4, x)) := ⟨by rw [HA2.out]; simp only [atomsC, hrel, HX3.out.2]⟩
            have HV0 : Aside0 (relVal A0 (relAt n0 l0 0) = .pointer none) := ⟨by rw [hrel]; rfl⟩
            clear HA2 hrel
            go_wp2_with (first | (go_at_call 110; refine (HRel.out _ n0 (below_alloc HB.out _)).mono ?_; rintro e w3 ⟨rfl, hb3⟩; rw [HV0.out]))
            go_ret2
            exact ⟨by rw [HG.out, checkH_some H.out]; rfl, below_step (below_alloc HB.out _) hb3⟩
          | some j =>
            have hj := relAt_lt n0 l0 0 j hrel
            obtain ⟨ad0, A6, c6, A7, c7, e0, -, hy1, -⟩ := at_T151 HR0.out (j : Int) (by omega) (by omega)
            cases e0
            have hrd : rd_T151 l0 (j : Int) = l0.getD j z151 := rfl
            rw [hrd, Int.toNat_natCast] at hy1
            have HV0 : Aside0 (relVal (some ad0) (relAt n0 l0 0) = .pointer (some (ad0.add (j * 4)))) := ⟨by rw [hrel]; rfl⟩
            have HA3 : Aside0 (atomsC l0 l3 0 = if (l0.getD j z151).f1 = (ts.length : Int) then atomsC l0 (l3.drop (x + 1).toNat) (x + 1).toNat else some (5, x)) := ⟨by rw [HA2.out]; simp only [atomsC, hrel, HX3.out.2, HX3.out.1]⟩
            clear HA2 hrel hrd hj
            generalize (l0.getD j z151).f1 = ar at *
            by_cases har : ar = (ts.length : Int)
            · have H : Aside0 (atomsC l0 l3 0 = atomsC l0 (l3.drop (x + 1).toNat) (x + 1).toNat) := ⟨by rw [HA3.out, if_pos har]⟩
              have e1 : (ar != (ts.length : Int)) = false := bne_eq_false_iff_eq.mpr har
              have e2 : (ar == (ts.length : Int)) = true := beq_iff_eq.mpr har
              clear HA3 har
              go_wp2_with (first | (go_at_call 110; refine (HRel.out _ n0 (below_alloc HB.out _)).mono ?_; rintro e w3 ⟨rfl, hb3⟩; rw [HV0.out]; have HB3 : Aside0 (Below w.heap.size w w3) := ⟨below_step (below_alloc HB.out _) hb3⟩; have HX4 : Aside0 (Bx w3 w.heap.size (.slice (some ad0) l0.length c0) (.string a1) (.slice A1 l1.length c1) (.int .i64 a2) (.slice (some ad) l3.length c3)) := ⟨(HX.out.below (below_alloc (Below.refl _ _) _)).below hb3⟩; have t0 : w3.cell? ⟨wr.heap.size, 1, none⟩ = some (.slice A5 ts.length c5) := (hb3.cell (p := ⟨wr.heap.size, 1, none⟩) (by simp)).trans (by go_simp); have t1 : w3.cell? ⟨(ad0.add (j * 4)).block, (ad0.add (j * 4)).off + 1, none⟩ = some (.int .i64 ar) := (HB3.out.cell (World.block_lt_of_cell? w _ hy1)).trans hy1; clear hb3))
              repeat (go_quiet (fail); try go_wp2)
              go_roundw
              case rel => exact ⟨x + 1, rfl, by omega, by omega, ⟨H.out⟩, ⟨HX4.out.below (pw_below_drewN (Below.refl _ _) _)⟩, ⟨pw_below_drewN HB3.out _⟩⟩
              case measure => simp [intOf]; omega
            · have H : Aside0 (atomsC l0 l3 0 = some (5, x)) := ⟨by rw [HA3.out, if_neg har]⟩
              have e1 : (ar != (ts.length : Int)) = true := bne_iff_ne.mpr har
              have e2 : (ar == (ts.length : Int)) = false := beq_eq_false_iff_ne.mpr har
              clear HA3 har
              go_wp2_with (first | (go_at_call 110; refine (HRel.out _ n0 (below_alloc HB.out _)).mono ?_; rintro e w3 ⟨rfl, hb3⟩; rw [HV0.out]; have HB3 : Aside0 (Below w.heap.size w w3) := ⟨below_step (below_alloc HB.out _) hb3⟩; have HX4 : Aside0 (Bx w3 w.heap.size (.slice (some ad0) l0.length c0) (.string a1) (.slice A1 l1.length c1) (.int .i64 a2) (.slice (some ad) l3.length c3)) := ⟨(HX.out.below (below_alloc (Below.refl _ _) _)).below hb3⟩; have t0 : w3.cell? ⟨wr.heap.size, 1, none⟩ = some (.slice A5 ts.length c5) := (hb3.cell (p := ⟨wr.heap.size, 1, none⟩) (by simp)).trans (by go_simp); have t1 : w3.cell? ⟨(ad0.add (j * 4)).block, (ad0.add (j * 4)).off + 1, none⟩ = some (.int .i64 ar) := (HB3.out.cell (World.block_lt_of_cell? w _ hy1)).trans hy1; clear hb3))
              repeat (go_quiet (fail); try go_wp2)
              go_ret2
              exact ⟨by rw [HG.out, checkH_some H.out]; rfl, pw_below_drewN HB3.out _⟩
        · have hx : l3.drop x.toNat = [] := List.drop_of_length_le (by omega)
          have H : Aside0 (atomsC l0 l3 0 = none) := ⟨by rw [HA.out, hx]; rfl⟩
          have HG2 : Aside0 (checkG l0 l1 l3 true true = if 6 < (varsF l3).length then (6, 0) else headC (varsF l3) l1 l1 0) := ⟨by rw [HG.out, checkH_none H.out]⟩
          clear HA H hx HG
          generalize varsF l3 = vs at *
          have hvl : vs.length ≤ 1048576 := HN.out
          by_cases h6 : 6 < vs.length
          · have e7 : decide ((6 : Int) < (vs.length : Int)) = true := decide_eq_true (by omega)
            have e8 : decide (6 < vs.length) = true := decide_eq_true h6
            have HG3 : Aside0 (checkG l0 l1 l3 true true = (6, 0)) := ⟨by rw [HG2.out, if_pos h6]⟩
            clear h6
            go_wp2_with (first | (go_at_call 76; refine (HV.out _ HB.out).mono ?_; rintro e w3 ⟨v3, rfl, ho3, hb3⟩; obtain ⟨A8, c8, rfl, hl8, hr8⟩ := Kd.R_reads ho3; have HB3 : Aside0 (Below w.heap.size w w3) := ⟨below_step HB.out hb3⟩; have HX4 : Aside0 (Bx w3 w.heap.size (.slice A0 l0.length c0) (.string a1) (.slice A1 l1.length c1) (.int .i64 a2) (.slice A3 l3.length c3)) := ⟨HX.out.below hb3⟩; have HR8 := Aside0.mk hr8; have HL8 := Aside0.mk hl8; clear hb3 ho3 hr8 hl8; obtain ⟨r0, s0, s1, s2, s3⟩ := HX4.out))
            go_ret2
            exact ⟨by rw [HG3.out]; rfl, HB3.out⟩
          · have e7 : decide ((6 : Int) < (vs.length : Int)) = false := decide_eq_false (by omega)
            have e8 : decide (6 < vs.length) = false := decide_eq_false h6
            have HG3 : Aside0 (checkG l0 l1 l3 true true = headC vs l1 l1 0) := ⟨by rw [HG2.out, if_neg h6]⟩
            clear h6 HG2
            go_wp2_with (first | (go_at_call 76; refine (HV.out _ HB.out).mono ?_; rintro e w3 ⟨v3, rfl, ho3, hb3⟩; obtain ⟨A8, c8, rfl, hl8, hr8⟩ := Kd.R_reads ho3; have HB3 : Aside0 (Below w.heap.size w w3) := ⟨below_step HB.out hb3⟩; have HX4 : Aside0 (Bx w3 w.heap.size (.slice A0 l0.length c0) (.string a1) (.slice A1 l1.length c1) (.int .i64 a2) (.slice A3 l3.length c3)) := ⟨HX.out.below hb3⟩; have HR8 := Aside0.mk hr8; have HL8 := Aside0.mk hl8; clear hb3 ho3 hr8 hl8; obtain ⟨r0, s0, s1, s2, s3⟩ := HX4.out))
            clear p0 q0 q1 q2 q3 r0 s0 s1 s2 s3
            obtain ⟨wo, hwo⟩ : ∃ wo : World, wo = wr := ⟨_, rfl⟩
            go_loopw [58] (fun i wi => ∃ y : Int, i = .int .i64 y ∧ 0 ≤ y ∧ y ≤ (l1.length : Int) ∧ Aside0 (headC vs l1 l1 0 = headC vs l1 (l1.drop y.toNat) y.toNat) ∧ Aside0 (Bx wi w.heap.size (.slice A0 l0.length c0) (.string a1) (.slice A1 l1.length c1) (.int .i64 a2) (.slice A3 l3.length c3)) ∧ Aside0 (Below w.heap.size w wi) ∧ Aside0 (Below w3.heap.size w3 wi)) (fun i _ => l1.length - (intOf i).toNat)
            case atStart => exact ⟨0, rfl, by omega, by omega, ⟨by simp⟩, ⟨HX4.out⟩, ⟨HB3.out⟩, ⟨Below.refl _ _⟩⟩
            case round =>
              clear HX4 HX HB HB3 e7 e8 hwo
              obtain ⟨y, rfl, h20, h2le, HA, HX, HB, HB8⟩ := hrel
              obtain ⟨p0, q0, q1, q2, q3⟩ := HX.out
              by_cases hlt2 : y < (l1.length : Int)
              · obtain ⟨ad1, e, hz0⟩ := Kd.at_string HR1.out y h20 hlt2
                cases e
                have hn : y.toNat < l1.length := by omega
                have hrd : rdOf ByteArray.empty l1 y = l1[y.toNat] := by unfold rdOf; simp [List.getD_eq_getElem?_getD, hn]
                have HA2 : Aside0 (headC vs l1 l1 0 = headC vs l1 (rdOf ByteArray.empty l1 y :: l1.drop (y + 1).toNat) y.toNat) := ⟨by rw [hrd, show (y + 1).toNat = y.toNat + 1 by omega, ← List.drop_eq_getElem_cons hn]; exact HA.out⟩
                have HX3 : Aside0 ((y + 1).toNat = y.toNat + 1 ∧ ((y.toNat : Nat) : Int) = y) := ⟨by omega, by omega⟩
                clear HA hrd
                replace hz0 := (HB.out.cell (World.block_lt_of_cell? w _ hz0)).trans hz0
                generalize rdOf ByteArray.empty l1 y = h at *
                have hcap : y ≤ (c1 : Int) := by have := HC1.out; omega
                have hcap2 : y.toNat ≤ c1 := by omega
                obtain ⟨kA, hkA⟩ := HCt.out vs h hvl
                obtain ⟨kB, hkB⟩ := HCt.out (l1.take y.toNat) h (by have := HH.out; simp; omega)
                have HKA : Aside0 (∀ W, Below w3.heap.size w3 W → Calls Try.prog 111 #[.slice A8 vs.length c8, .string h] W fun e w' => e = .returned (.bool (decide (h ∈ vs))) ∧ Drawn0 W w') := ⟨fun W hW => slices_Contains_string_string.calls kA A8 c8 vs h _ W (Kd.C_below HR8.out hW) HL8.out hkA⟩
                have HKB : Aside0 (∀ W, Below w.heap.size w W → Calls Try.prog 111 #[.slice (some ad1) y.toNat c1, .string h] W fun e w' => e = .returned (.bool (decide (h ∈ l1.take y.toNat))) ∧ Drawn0 W w') := ⟨fun W hW => by
                  have := slices_Contains_string_string.calls kB (some ad1) c1 (l1.take y.toNat) h _ W (Kd.C_below (Kd.C_take HR1.out (m := y.toNat) (by omega)) hW) (by have := HC1.out; simp; omega) hkB
                  rwa [show (l1.take y.toNat).length = y.toNat by simp; omega] at this⟩
                clear hkA hkB
                by_cases hm : h ∈ vs
                · rw [decide_eq_true hm] at HKA
                  by_cases ht : h ∈ l1.take y.toNat
                  · rw [decide_eq_true ht] at HKB
                    have H : Aside0 (headC vs l1 l1 0 = (7, y)) := ⟨by rw [HA2.out]; simp only [headC, ht, not_true_eq_false, and_false, if_false, HX3.out.2]⟩
                    clear hm ht HA2
                    go_wp2_with (first | (go_at_call 111; have tok1 : True := trivial; (with_reducible refine (HKA.out _ HB8.out).mono ?_); rintro e w' ⟨rfl, ⟨nd, rfl⟩⟩) | (go_at_call 111; (with_reducible refine (HKB.out _ (pw_below_drewN HB.out _)).mono ?_); rintro e w' ⟨rfl, ⟨nd2, rfl⟩⟩))
                    go_ret2
                    exact ⟨by rw [HG3.out, H.out]; rfl, pw_below_drewN HB.out _⟩
                  · rw [decide_eq_false ht] at HKB
                    have H : Aside0 (headC vs l1 l1 0 = headC vs l1 (l1.drop (y + 1).toNat) (y + 1).toNat) := ⟨by rw [HA2.out]; simp only [headC, hm, ht, not_false_eq_true, and_self, if_true, HX3.out.1]⟩
                    clear hm ht HA2
                    go_wp2_with (first | (go_at_call 111; have tok1 : True := trivial; (with_reducible refine (HKA.out _ HB8.out).mono ?_); rintro e w' ⟨rfl, ⟨nd, rfl⟩⟩) | (go_at_call 111; (with_reducible refine (HKB.out _ (pw_below_drewN HB.out _)).mono ?_); rintro e w' ⟨rfl, ⟨nd2, rfl⟩⟩))
                    go_roundw
                    case rel => exact ⟨y + 1, rfl, by omega, by omega, ⟨H.out⟩, ⟨HX.out.below (pw_below_drewN (Below.refl _ _) _)⟩, ⟨pw_below_drewN HB.out _⟩, ⟨pw_below_drewN HB8.out _⟩⟩
                    case measure => simp [intOf]; omega
                · rw [decide_eq_false hm] at HKA
                  have H : Aside0 (headC vs l1 l1 0 = (7, y)) := ⟨by rw [HA2.out]; simp only [headC, hm, false_and, if_false, HX3.out.2]⟩
                  clear hm HA2
                  go_wp2_with (first | (go_at_call 111; have tok1 : True := trivial; (with_reducible refine (HKA.out _ HB8.out).mono ?_); rintro e w' ⟨rfl, ⟨nd, rfl⟩⟩))
                  go_ret2
                  exact ⟨by rw [HG3.out, H.out]; rfl, pw_below_drewN HB.out _⟩
              · have hx : l1.drop y.toNat = [] := List.drop_of_length_le (by omega)
                have H : Aside0 (headC vs l1 l1 0 = (0, 0)) := ⟨by rw [HA.out, hx]; rfl⟩
                clear HA hx
                go_wp2
                go_ret2
                exact ⟨by rw [HG3.out, H.out]; rfl, HB.out⟩
end Go.Proofs.Ytkolhpmhbgbphaa.P
namespace Go.Proofs.Ytkolhpmhbgbphaa.P
open Go.RowKit Go.Proofs.YtkolhpmhbgbphaaW.PrintWords Go.Proofs.YtkolhpmhbgbphaaW.PrintLast Go.Proofs.YtkolhpmhbgbphaaW.PrintMore
attribute [local go_sem] max2_int min2_int max_two min_two max_three min_three max_four min_four
set_option linter.unusedVariables false
set_option linter.unusedSimpArgs false
mutual
def spec_l2Compare.l0 : Nat → List Int → List Int → Int → Option (Int)
 | 0, _, _, _ => none
 | k + 1, x0, x1, x5 => if x5 < (x0.length : Int) then (spec_l2Compare.j1 k x0 x1 x5 (decide (x5 < (x1.length : Int)))) else (spec_l2Compare.j1 k x0 x1 x5 false)
def spec_l2Compare.j1 : Nat → List Int → List Int → Int → Bool → Option (Int)
 | 0, _, _, _, _ => none
 | k + 1, x0, x1, x5, x15 => if x15 = true then (if 0 ≤ x5 then (if x5 < (x0.length : Int) then (if x5 < (x1.length : Int) then (if (rd x0 x5) < (rd x1 x5) then (some (-1)) else (if (rd x0 x5) > (rd x1 x5) then (some 1) else (spec_l2Compare.l0 k x0 x1 (wrap64 (x5 + 1))))) else (none)) else (none)) else (none)) else (if (x0.length : Int) = (x1.length : Int) then (some 0) else (if (x0.length : Int) < (x1.length : Int) then (some (-1)) else (some 1)))
end
def spec_l2Compare.f (k : Nat) (l0 : List Int) (l1 : List Int) : Option (Int) := spec_l2Compare.l0 k l0 l1 0
theorem spec_l2Compare.mono_l : ∀ k, (∀ y0 y1 y2, LeO (spec_l2Compare.l0 k y0 y1 y2) (spec_l2Compare.l0 (k + 1) y0 y1 y2)) ∧ (∀ y0 y1 y2 y3, LeO (spec_l2Compare.j1 k y0 y1 y2 y3) (spec_l2Compare.j1 (k + 1) y0 y1 y2 y3))
 | 0 => ⟨fun _ _ _ r h => by simp [spec_l2Compare.l0] at h, fun _ _ _ _ r h => by simp [spec_l2Compare.j1] at h⟩
 | k + 1 => by
  obtain ⟨ih0, ih1⟩ := spec_l2Compare.mono_l k
  refine ⟨?_, ?_⟩
  ·intro y0 y1 y2
   unfold spec_l2Compare.l0
   repeat' first
   | (with_reducible exact ih0 _ _ _)
   | (with_reducible exact ih1 _ _ _ _)
   | (with_reducible exact LeO.refl _)
   | (with_reducible exact LeO.none _)
   | (with_reducible refine LeO.ite ?_ ?_)
   | (with_reducible refine LeO.bind ?_ (fun _ => ?_))
   | exact ih0 _ _ _
   | exact ih1 _ _ _ _
   | exact LeO.none _
   | refine LeO.ite ?_ ?_
   | refine LeO.bind ?_ (fun _ => ?_)
  ·intro y0 y1 y2 y3
   unfold spec_l2Compare.j1
   repeat' first
   | (with_reducible exact ih0 _ _ _)
   | (with_reducible exact ih1 _ _ _ _)
   | (with_reducible exact LeO.refl _)
   | (with_reducible exact LeO.none _)
   | (with_reducible refine LeO.ite ?_ ?_)
   | (with_reducible refine LeO.bind ?_ (fun _ => ?_))
   | exact ih0 _ _ _
   | exact ih1 _ _ _ _
   | exact LeO.none _
   | refine LeO.ite ?_ ?_
   | refine LeO.bind ?_ (fun _ => ?_)
theorem spec_l2Compare.mono : ∀ a0 a1 k, LeO (spec_l2Compare.f k a0 a1) (spec_l2Compare.f (k + 1) a0 a1) := by
 intro a0 a1 k
 obtain ⟨ih0, ih1⟩ := spec_l2Compare.mono_l k
 unfold spec_l2Compare.f
 repeat' first
   | (with_reducible exact ih0 _ _ _)
   | (with_reducible exact ih1 _ _ _ _)
   | (with_reducible exact LeO.refl _)
   | (with_reducible exact LeO.none _)
   | (with_reducible refine LeO.ite ?_ ?_)
   | (with_reducible refine LeO.bind ?_ (fun _ => ?_))
   | exact ih0 _ _ _
   | exact ih1 _ _ _ _
   | exact LeO.none _
   | refine LeO.ite ?_ ?_
   | refine LeO.bind ?_ (fun _ => ?_)
set_option maxHeartbeats 8000000 in
set_option maxRecDepth 100000 in
theorem spec_l2Compare.calls (k : Nat) (A0 : Option Addr) (c0 : Nat) (l0 : List Int) (A1 : Option Addr) (c1 : Nat) (l1 : List Int) (r : Int) (w : World) (hr0 : Kd.C (Kd.int .i64) w A0 l0.length l0) (hc0 : l0.length ≤ c0) (hr1 : Kd.C (Kd.int .i64) w A1 l1.length l1) (hc1 : l1.length ≤ c1) (h : spec_l2Compare.f k l0 l1 = some r) :
  Calls Try.prog 188 #[.slice A0 l0.length c0, .slice A1 l1.length c1] w fun e w' => e = .returned (.int .i64 r) ∧ Drawn0 w w' := by
 have HR0 := Aside0.mk hr0
 have HC0 := Aside0.mk hc0
 clear hr0 hc0
 have HR1 := Aside0.mk hr1
 have HC1 := Aside0.mk hc1
 clear hr1 hc1
 have H : (spec_l2Compare.l0 k l0 l1 0) = some r := h
 clear h
 have H' := Aside0.mk H
 clear H
 go_enter Try.func188, Try.ntmps188
 go_wp2
 repeat (go_quiet (fail); try go_wp2)
 go_loopg [5] k (fun kq v5 w' => ∃ (x5_1 : Int), v5 = .int .i64 x5_1 ∧ Aside0 (spec_l2Compare.l0 kq l0 l1 x5_1 = some r) ∧ Aside0 (kq ≤ k) ∧ Drawn0 w w')
 case atStart => exact ⟨(0), (by first | rfl | (simp; done) | (simp [*]; done)), H', ⟨Nat.le_refl _⟩, by repeat (first | exact Drawn0.refl _ | apply Drawn0.step)⟩
 case round =>
  clear H'
  try clear c1
  try clear p2
  obtain ⟨x5_1, rfl, HA, HK1, ⟨m1, rfl⟩⟩ := hrel
  cases gk with
  | zero => exact absurd HA.out (by simp [spec_l2Compare.l0])
  | succ k1 =>
   have H := HA.out
   clear HA
   simp only [spec_l2Compare.l0] at H
   have HC3 := Aside0.mk H
   clear H
   go_upto_region 2 with (fail)
   repeat (go_quiet (fail); go_upto_region 2 with (fail))
   go_cut [15] (fun v15 wc => ∃ (kq : Nat) (x15_2 : Bool), v15 = .bool x15_2 ∧ Aside0 (spec_l2Compare.j1 kq l0 l1 x5_1 x15_2 = some r) ∧ Aside0 (kq ≤ k1) ∧ Drawn0 w wc)
   case first =>
    have H := HC3.out
    clear HC3
    by_cases c4 : x5_1 < (l0.length : Int)
    ·rw [if_pos c4] at H
     have c4b0 : decide (x5_1 < (l0.length : Int)) = true := decide_eq_true c4
     clear c4
     (first | rw [c4b0] | (simp only [i64_w, i32_w]; rw [c4b0]) | skip)
     have H' := Aside0.mk H
     clear H
     go_wp2
     repeat (go_quiet (fail); try go_wp2)
     go_meet
     case rel => exact ⟨_, (decide (x5_1 < (l1.length : Int))), (by first | rfl | (simp; done) | (simp [*]; done)), H', ⟨by have := HK1.out; first | omega | exact Nat.le_refl _⟩, by repeat (first | exact Drawn0.refl _ | apply Drawn0.step)⟩
    ·rw [if_neg c4] at H
     have c4b0 : decide (x5_1 < (l0.length : Int)) = false := decide_eq_false c4
     clear c4
     (first | rw [c4b0] | (simp only [i64_w, i32_w]; rw [c4b0]) | skip)
     have H' := Aside0.mk H
     clear H
     go_wp2
     repeat (go_quiet (fail); try go_wp2)
     go_meet
     case rel => exact ⟨_, (false), (by first | rfl | (simp; done) | (simp [*]; done)), H', ⟨by have := HK1.out; first | omega | exact Nat.le_refl _⟩, by repeat (first | exact Drawn0.refl _ | apply Drawn0.step)⟩
   case rest =>
    clear HC3
    try clear c1
    try clear p2
    try clear c4
    try clear c4b0
    try clear p2
    obtain ⟨kq, x15_2, rfl, HA, HJ2, ⟨mc2, rfl⟩⟩ := hcut
    cases kq with
    | zero => exact absurd HA.out (by simp [spec_l2Compare.j1])
    | succ kj2 =>
     have H := HA.out
     clear HA
     simp only [spec_l2Compare.j1] at H
     by_cases c5 : x15_2 = true
     ·subst c5
      have H1 : (if 0 ≤ x5_1 then (if x5_1 < (l0.length : Int) then (if x5_1 < (l1.length : Int) then (if (rd l0 x5_1) < (rd l1 x5_1) then (some (-1)) else (if (rd l0 x5_1) > (rd l1 x5_1) then (some 1) else (spec_l2Compare.l0 kj2 l0 l1 (wrap64 (x5_1 + 1))))) else (none)) else (none)) else (none)) = some r := by rw [if_pos rfl] at H; exact H
      clear H
      have H := H1
      clear H1
      by_cases c6 : 0 ≤ x5_1
      ·rw [if_pos c6] at H
       have c6b0 : decide (0 ≤ x5_1) = true := decide_eq_true c6
       clear c6
       by_cases c7 : x5_1 < (l0.length : Int)
       ·rw [if_pos c7] at H
        have c7b0 : decide (x5_1 < (l0.length : Int)) = true := decide_eq_true c7
        clear c7
        by_cases c8 : x5_1 < (l1.length : Int)
        ·rw [if_pos c8] at H
         have c8b0 : decide (x5_1 < (l1.length : Int)) = true := decide_eq_true c8
         clear c8
         by_cases c9 : (rd l0 x5_1) < (rd l1 x5_1)
         ·rw [if_pos c9] at H
          have c9b0 : decide ((rd l0 x5_1) < (rd l1 x5_1)) = true := decide_eq_true c9
          clear c9
          obtain rfl := Option.some.inj H
          have p545 : 0 ≤ (x5_1 : Int) := of_decide_eq_true (by first | (with_reducible assumption) | assumption)
          have q545 : x5_1 < (l0.length : Int) := of_decide_eq_true (by first | (with_reducible assumption) | assumption)
          obtain ⟨ad545, e545, hx545_0⟩ := Kd.at_int HR0.out x5_1 p545 q545
          cases e545
          replace p545 := eq_true p545
          replace q545 := eq_true q545
          have p546 : 0 ≤ (x5_1 : Int) := of_decide_eq_true (by first | (with_reducible assumption) | assumption)
          have q546 : x5_1 < (l1.length : Int) := of_decide_eq_true (by first | (with_reducible assumption) | assumption)
          obtain ⟨ad546, e546, hx546_0⟩ := Kd.at_int HR1.out x5_1 p546 q546
          cases e546
          replace p546 := eq_true p546
          replace q546 := eq_true q546
          go_wp2
          repeat (go_quiet (fail); try go_wp2)
          go_ret
          exact ⟨by first | rfl | (simp; done) | (simp [*]; done), by repeat (first | exact Drawn0.refl _ | apply Drawn0.step)⟩
         ·rw [if_neg c9] at H
          have c9b0 : decide ((rd l0 x5_1) < (rd l1 x5_1)) = false := decide_eq_false c9
          clear c9
          by_cases c10 : (rd l0 x5_1) > (rd l1 x5_1)
          ·rw [if_pos c10] at H
           have c10b0 : decide ((rd l1 x5_1) < (rd l0 x5_1)) = true := decide_eq_true c10
           clear c10
           obtain rfl := Option.some.inj H
           have p545 : 0 ≤ (x5_1 : Int) := of_decide_eq_true (by first | (with_reducible assumption) | assumption)
           have q545 : x5_1 < (l0.length : Int) := of_decide_eq_true (by first | (with_reducible assumption) | assumption)
           obtain ⟨ad545, e545, hx545_0⟩ := Kd.at_int HR0.out x5_1 p545 q545
           cases e545
           replace p545 := eq_true p545
           replace q545 := eq_true q545
           have p546 : 0 ≤ (x5_1 : Int) := of_decide_eq_true (by first | (with_reducible assumption) | assumption)
           have q546 : x5_1 < (l1.length : Int) := of_decide_eq_true (by first | (with_reducible assumption) | assumption)
           obtain ⟨ad546, e546, hx546_0⟩ := Kd.at_int HR1.out x5_1 p546 q546
           cases e546
           replace p546 := eq_true p546
           replace q546 := eq_true q546
           have p547 : 0 ≤ (x5_1 : Int) := of_decide_eq_true (by first | (with_reducible assumption) | assumption)
           have q547 : x5_1 < (l0.length : Int) := of_decide_eq_true (by first | (with_reducible assumption) | assumption)
           obtain ⟨ad547, e547, hx547_0⟩ := Kd.at_int HR0.out x5_1 p547 q547
           obtain rfl : ad545 = ad547 := (by injection e547)
           replace p547 := eq_true p547
           replace q547 := eq_true q547
           have p548 : 0 ≤ (x5_1 : Int) := of_decide_eq_true (by first | (with_reducible assumption) | assumption)
           have q548 : x5_1 < (l1.length : Int) := of_decide_eq_true (by first | (with_reducible assumption) | assumption)
           obtain ⟨ad548, e548, hx548_0⟩ := Kd.at_int HR1.out x5_1 p548 q548
           obtain rfl : ad546 = ad548 := (by injection e548)
           replace p548 := eq_true p548
           replace q548 := eq_true q548
           go_wp2
           repeat (go_quiet (fail); try go_wp2)
           go_ret
           exact ⟨by first | rfl | (simp; done) | (simp [*]; done), by repeat (first | exact Drawn0.refl _ | apply Drawn0.step)⟩
          ·rw [if_neg c10] at H
           have c10b0 : decide ((rd l1 x5_1) < (rd l0 x5_1)) = false := decide_eq_false c10
           clear c10
           have H' := Aside0.mk H
           clear H
           have p545 : 0 ≤ (x5_1 : Int) := of_decide_eq_true (by first | (with_reducible assumption) | assumption)
           have q545 : x5_1 < (l0.length : Int) := of_decide_eq_true (by first | (with_reducible assumption) | assumption)
           obtain ⟨ad545, e545, hx545_0⟩ := Kd.at_int HR0.out x5_1 p545 q545
           cases e545
           replace p545 := eq_true p545
           replace q545 := eq_true q545
           have p546 : 0 ≤ (x5_1 : Int) := of_decide_eq_true (by first | (with_reducible assumption) | assumption)
           have q546 : x5_1 < (l1.length : Int) := of_decide_eq_true (by first | (with_reducible assumption) | assumption)
           obtain ⟨ad546, e546, hx546_0⟩ := Kd.at_int HR1.out x5_1 p546 q546
           cases e546
           replace p546 := eq_true p546
           replace q546 := eq_true q546
           have p547 : 0 ≤ (x5_1 : Int) := of_decide_eq_true (by first | (with_reducible assumption) | assumption)
           have q547 : x5_1 < (l0.length : Int) := of_decide_eq_true (by first | (with_reducible assumption) | assumption)
           obtain ⟨ad547, e547, hx547_0⟩ := Kd.at_int HR0.out x5_1 p547 q547
           obtain rfl : ad545 = ad547 := (by injection e547)
           replace p547 := eq_true p547
           replace q547 := eq_true q547
           have p548 : 0 ≤ (x5_1 : Int) := of_decide_eq_true (by first | (with_reducible assumption) | assumption)
           have q548 : x5_1 < (l1.length : Int) := of_decide_eq_true (by first | (with_reducible assumption) | assumption)
           obtain ⟨ad548, e548, hx548_0⟩ := Kd.at_int HR1.out x5_1 p548 q548
           obtain rfl : ad546 = ad548 := (by injection e548)
           replace p548 := eq_true p548
           replace q548 := eq_true q548
           go_wp2
           repeat (go_quiet (fail); try go_wp2)
           go_roundg kj2
           case measure => have := HK1.out; have := HJ2.out; omega
           case rel => exact ⟨(wrap64 (x5_1 + 1)), (by first | rfl | (simp; done) | (simp [*]; done)), H', ⟨by have := HK1.out; have := HJ2.out; omega⟩, by repeat (first | exact Drawn0.refl _ | apply Drawn0.step)⟩
        ·rw [if_neg c8] at H
         exact absurd H (by simp)
       ·rw [if_neg c7] at H
        exact absurd H (by simp)
      ·rw [if_neg c6] at H
       exact absurd H (by simp)
     ·replace c5 := Bool.eq_false_iff.mpr c5
      subst c5
      have H1 : (if (l0.length : Int) = (l1.length : Int) then (some 0) else (if (l0.length : Int) < (l1.length : Int) then (some (-1)) else (some 1))) = some r := by rw [if_neg (show ¬ (false = true) by decide)] at H; exact H
      clear H
      have H := H1
      clear H1
      by_cases c11 : (l0.length : Int) = (l1.length : Int)
      ·rw [if_pos c11] at H
       have c11b0 : ((l0.length : Int) == (l1.length : Int)) = true := beq_iff_eq.mpr c11
       have c11b1 : ((l0.length : Int) != (l1.length : Int)) = false := bne_eq_false_iff_eq.mpr c11
       have c11b2 : (l0.length == l1.length) = true := by first | simpa using c11 | (simp at c11 ⊢; omega)
       clear c11
       obtain rfl := Option.some.inj H
       go_wp2
       repeat (go_quiet (fail); try go_wp2)
       go_ret
       exact ⟨by first | rfl | (simp; done) | (simp [*]; done), by repeat (first | exact Drawn0.refl _ | apply Drawn0.step)⟩
      ·rw [if_neg c11] at H
       have c11b0 : ((l0.length : Int) == (l1.length : Int)) = false := beq_eq_false_iff_ne.mpr c11
       have c11b1 : ((l0.length : Int) != (l1.length : Int)) = true := bne_iff_ne.mpr c11
       have c11b2 : (l0.length == l1.length) = false := by first | simpa using c11 | (simp at c11 ⊢; omega)
       by_cases c12 : (l0.length : Int) < (l1.length : Int)
       ·rw [if_pos c12] at H
        have c12b0 : decide ((l0.length : Int) < (l1.length : Int)) = true := decide_eq_true c12
        have c12b1 : decide (l0.length < l1.length) = true := decide_eq_true (Int.ofNat_lt.mp c12)
        clear c12
        obtain rfl := Option.some.inj H
        go_wp2
        repeat (go_quiet (fail); try go_wp2)
        go_ret
        exact ⟨by first | rfl | (simp; done) | (simp [*]; done), by repeat (first | exact Drawn0.refl _ | apply Drawn0.step)⟩
       ·rw [if_neg c12] at H
        have c12b0 : decide ((l0.length : Int) < (l1.length : Int)) = false := decide_eq_false c12
        have c12b1 : decide (l0.length < l1.length) = false := decide_eq_false (fun h => c12 (Int.ofNat_lt.mpr h))
        clear c12
        obtain rfl := Option.some.inj H
        go_wp2
        repeat (go_quiet (fail); try go_wp2)
        go_ret
        exact ⟨by first | rfl | (simp; done) | (simp [*]; done), by repeat (first | exact Drawn0.refl _ | apply Drawn0.step)⟩
end Go.Proofs.Ytkolhpmhbgbphaa.P
namespace Go.Proofs.Ytkolhpmhbgbphaa.P
open Go.RowKit Go.Proofs.YtkolhpmhbgbphaaW.PrintWords Go.Proofs.YtkolhpmhbgbphaaW.PrintLast Go.Proofs.YtkolhpmhbgbphaaW.PrintMore
attribute [local go_sem] max2_int min2_int max_two min_two max_three min_three max_four min_four
set_option linter.unusedVariables false
set_option linter.unusedSimpArgs false
def spec_l2SortedRows.l0 : Nat → List (List Int) → Int → List (List Int) → Int → Int → Option (Bool)
 | 0, _, _, _, _, _ => none
 | k + 1, x0, x1, x7, x8, x9 => if x9 < x8 then (if 0 ≤ x9 then (if x9 < (x7.length : Int) then (if ((rd_L1 x7 x9).length : Int) = x1 then (if x9 > 0 then (if 0 ≤ (wrap64 (x9 - 1)) then (if (wrap64 (x9 - 1)) < (x0.length : Int) then ((spec_l2Compare.f k (rd_L1 x0 (wrap64 (x9 - 1))) (rd_L1 x7 x9)).bind fun t551 => (if t551 ≥ 0 then (some false) else (spec_l2SortedRows.l0 k x0 x1 x7 x8 (wrap64 (x9 + 1))))) else (none)) else (none)) else (spec_l2SortedRows.l0 k x0 x1 x7 x8 (wrap64 (x9 + 1)))) else (some false)) else (none)) else (none)) else (some true)
def spec_l2SortedRows.f (k : Nat) (l0 : List (List Int)) (a1 : Int) : Option (Bool) := spec_l2SortedRows.l0 k l0 a1 l0 (l0.length : Int) 0
theorem spec_l2SortedRows.mono_l : ∀ k, (∀ y0 y1 y2 y3 y4, LeO (spec_l2SortedRows.l0 k y0 y1 y2 y3 y4) (spec_l2SortedRows.l0 (k + 1) y0 y1 y2 y3 y4))
 | 0 => fun _ _ _ _ _ r h => by simp [spec_l2SortedRows.l0] at h
 | k + 1 => by
  have ih0 := spec_l2SortedRows.mono_l k
  ·intro y0 y1 y2 y3 y4
   unfold spec_l2SortedRows.l0
   repeat' first
   | (with_reducible exact ih0 _ _ _ _ _)
   | (with_reducible exact spec_l2Compare.mono _ _ _)
   | (with_reducible exact LeO.refl _)
   | (with_reducible exact LeO.none _)
   | (with_reducible refine LeO.ite ?_ ?_)
   | (with_reducible refine LeO.bind ?_ (fun _ => ?_))
   | exact ih0 _ _ _ _ _
   | exact spec_l2Compare.mono _ _ _
   | exact LeO.none _
   | refine LeO.ite ?_ ?_
   | refine LeO.bind ?_ (fun _ => ?_)
theorem spec_l2SortedRows.mono : ∀ a0 a1 k, LeO (spec_l2SortedRows.f k a0 a1) (spec_l2SortedRows.f (k + 1) a0 a1) := by
 intro a0 a1 k
 have ih0 := spec_l2SortedRows.mono_l k
 unfold spec_l2SortedRows.f
 repeat' first
   | (with_reducible exact ih0 _ _ _ _ _)
   | (with_reducible exact spec_l2Compare.mono _ _ _)
   | (with_reducible exact LeO.refl _)
   | (with_reducible exact LeO.none _)
   | (with_reducible refine LeO.ite ?_ ?_)
   | (with_reducible refine LeO.bind ?_ (fun _ => ?_))
   | exact ih0 _ _ _ _ _
   | exact spec_l2Compare.mono _ _ _
   | exact LeO.none _
   | refine LeO.ite ?_ ?_
   | refine LeO.bind ?_ (fun _ => ?_)
set_option maxHeartbeats 8000000 in
set_option maxRecDepth 100000 in
theorem spec_l2SortedRows.calls (k : Nat) (A0 : Option Addr) (c0 : Nat) (l0 : List (List Int)) (a1 : Int) (r : Bool) (w : World) (hr0 : Kd.C (Kd.slice 3 (Kd.int .i64)) w A0 l0.length l0) (hc0 : l0.length ≤ c0) (h : spec_l2SortedRows.f k l0 a1 = some r) :
  Calls Try.prog 170 #[.slice A0 l0.length c0, .int .i64 a1] w fun e w' => e = .returned (.bool r) ∧ Drawn0 w w' := by
 have HR0 := Aside0.mk hr0
 have HC0 := Aside0.mk hc0
 clear hr0 hc0
 have H : (spec_l2SortedRows.l0 k l0 a1 l0 (l0.length : Int) 0) = some r := h
 clear h
 have H' := Aside0.mk H
 clear H
 go_enter Try.func170, Try.ntmps170
 go_wp2
 go_loopg [9] k (fun kq v9 w' => ∃ (x9_1 : Int), v9 = .int .i64 x9_1 ∧ Aside0 (spec_l2SortedRows.l0 kq l0 a1 l0 (l0.length : Int) x9_1 = some r) ∧ Aside0 (kq ≤ k) ∧ Drawn0 w w')
 case atStart => exact ⟨(0), (by first | rfl | (simp; done) | (simp [*]; done)), H', ⟨Nat.le_refl _⟩, by repeat (first | exact Drawn0.refl _ | apply Drawn0.step)⟩
 case round =>
  clear H'
  try clear c1
  try clear p2
  obtain ⟨x9_1, rfl, HA, HK1, ⟨m1, rfl⟩⟩ := hrel
  cases gk with
  | zero => exact absurd HA.out (by simp [spec_l2SortedRows.l0])
  | succ k1 =>
   have H := HA.out
   clear HA
   simp only [spec_l2SortedRows.l0] at H
   by_cases c3 : x9_1 < (l0.length : Int)
   ·rw [if_pos c3] at H
    have c3b0 : decide (x9_1 < (l0.length : Int)) = true := decide_eq_true c3
    clear c3
    by_cases c4 : 0 ≤ x9_1
    ·rw [if_pos c4] at H
     have c4b0 : decide (0 ≤ x9_1) = true := decide_eq_true c4
     clear c4
     by_cases c5 : x9_1 < (l0.length : Int)
     ·rw [if_pos c5] at H
      have c5b0 : decide (x9_1 < (l0.length : Int)) = true := decide_eq_true c5
      clear c5
      by_cases c6 : ((rd_L1 l0 x9_1).length : Int) = a1
      ·rw [if_pos c6] at H
       have c6b0 : (((rd_L1 l0 x9_1).length : Int) == a1) = true := beq_iff_eq.mpr c6
       have c6b1 : (((rd_L1 l0 x9_1).length : Int) != a1) = false := bne_eq_false_iff_eq.mpr c6
       clear c6
       by_cases c7 : x9_1 > 0
       ·rw [if_pos c7] at H
        have c7b0 : decide (0 < x9_1) = true := decide_eq_true c7
        clear c7
        obtain ⟨ji8, hji8⟩ : ∃ j_ : Int, (wrap64 (x9_1 - 1)) = j_ := ⟨_, rfl⟩
        replace H : (if 0 ≤ (ji8) then (if (ji8) < (l0.length : Int) then ((spec_l2Compare.f k1 (rd_L1 l0 (ji8)) (rd_L1 l0 x9_1)).bind fun t551 => (if t551 ≥ 0 then (some false) else (spec_l2SortedRows.l0 k1 l0 a1 l0 (l0.length : Int) (wrap64 (x9_1 + 1))))) else (none)) else (none)) = some r := by first | (rw [hji8] at H; exact H) | (simp only [hji8] at H ⊢; exact H)
        have hji8w : (IntKind.i64.wrap (x9_1 - 1)) = ji8 := (i64_w _).trans hji8
        by_cases c9 : 0 ≤ (ji8)
        ·rw [if_pos c9] at H
         have c9b0 : decide (0 ≤ (ji8)) = true := decide_eq_true c9
         clear c9
         by_cases c10 : (ji8) < (l0.length : Int)
         ·rw [if_pos c10] at H
          have c10b0 : decide ((ji8) < (l0.length : Int)) = true := decide_eq_true c10
          clear c10
          replace H := Option.bind_eq_some_iff.mp H
          obtain ⟨t551, A110, H⟩ := H
          replace H : (if t551 ≥ 0 then (some false) else (spec_l2SortedRows.l0 k1 l0 a1 l0 (l0.length : Int) (wrap64 (x9_1 + 1)))) = some r := H
          have A11 := Aside0.mk A110
          clear A110
          by_cases c12 : t551 ≥ 0
          ·rw [if_pos c12] at H
           have c12b0 : decide (0 ≤ t551) = true := decide_eq_true c12
           clear c12
           obtain rfl := Option.some.inj H
           have p549 : 0 ≤ (x9_1 : Int) := of_decide_eq_true (by first | (with_reducible assumption) | assumption)
           have q549 : x9_1 < (l0.length : Int) := of_decide_eq_true (by first | (with_reducible assumption) | assumption)
           obtain ⟨ad549, A549_0, c549_0, e549, hx549_0, hl549_0, hi549_0⟩ := at_L1 HR0.out x9_1 p549 q549
           cases e549
           have HR549_0 := Aside0.mk hi549_0
           have HC549_0 := Aside0.mk hl549_0
           clear hi549_0 hl549_0
           replace p549 := eq_true p549
           replace q549 := eq_true q549
           have p550 : 0 ≤ ((ji8) : Int) := of_decide_eq_true (by first | (with_reducible assumption) | assumption)
           have q550 : (ji8) < (l0.length : Int) := of_decide_eq_true (by first | (with_reducible assumption) | assumption)
           obtain ⟨ad550, A550_0, c550_0, e550, hx550_0, hl550_0, hi550_0⟩ := at_L1 HR0.out (ji8) p550 q550
           obtain rfl : ad549 = ad550 := (by injection e550)
           have HR550_0 := Aside0.mk hi550_0
           have HC550_0 := Aside0.mk hl550_0
           clear hi550_0 hl550_0
           replace p550 := eq_true p550
           replace q550 := eq_true q550
           go_wp2_with (first | (go_at_call 188; (with_reducible refine (spec_l2Compare.calls k1 _ _ (rd_L1 l0 (ji8)) _ _ (rd_L1 l0 x9_1) t551 _ ?side1 ?side2 ?side3 ?side4 A11.out).mono ?_); (case side1 => repeat (first | exact HR550_0.out | (with_reducible refine Kd.C_alloc ?_ _) | (with_reducible refine Kd.C_drewN ?_ _) | (with_reducible refine Kd.C_drew ?_))); (case side2 => exact HC550_0.out); (case side3 => repeat (first | exact HR549_0.out | (with_reducible refine Kd.C_alloc ?_ _) | (with_reducible refine Kd.C_drewN ?_ _) | (with_reducible refine Kd.C_drew ?_))); (case side4 => exact HC549_0.out); rintro e w' ⟨rfl, ⟨nd, rfl⟩⟩))
           go_ret
           exact ⟨by first | rfl | (simp; done) | (simp only [← hji8] <;> (first | rfl | simp)) | (simp [*]; done), by repeat (first | exact Drawn0.refl _ | apply Drawn0.step)⟩
          ·rw [if_neg c12] at H
           have c12b0 : decide (0 ≤ t551) = false := decide_eq_false c12
           clear c12
           have H' := Aside0.mk H
           clear H
           have p549 : 0 ≤ (x9_1 : Int) := of_decide_eq_true (by first | (with_reducible assumption) | assumption)
           have q549 : x9_1 < (l0.length : Int) := of_decide_eq_true (by first | (with_reducible assumption) | assumption)
           obtain ⟨ad549, A549_0, c549_0, e549, hx549_0, hl549_0, hi549_0⟩ := at_L1 HR0.out x9_1 p549 q549
           cases e549
           have HR549_0 := Aside0.mk hi549_0
           have HC549_0 := Aside0.mk hl549_0
           clear hi549_0 hl549_0
           replace p549 := eq_true p549
           replace q549 := eq_true q549
           have p550 : 0 ≤ ((ji8) : Int) := of_decide_eq_true (by first | (with_reducible assumption) | assumption)
           have q550 : (ji8) < (l0.length : Int) := of_decide_eq_true (by first | (with_reducible assumption) | assumption)
           obtain ⟨ad550, A550_0, c550_0, e550, hx550_0, hl550_0, hi550_0⟩ := at_L1 HR0.out (ji8) p550 q550
           obtain rfl : ad549 = ad550 := (by injection e550)
           have HR550_0 := Aside0.mk hi550_0
           have HC550_0 := Aside0.mk hl550_0
           clear hi550_0 hl550_0
           replace p550 := eq_true p550
           replace q550 := eq_true q550
           go_wp2_with (first | (go_at_call 188; (with_reducible refine (spec_l2Compare.calls k1 _ _ (rd_L1 l0 (ji8)) _ _ (rd_L1 l0 x9_1) t551 _ ?side1 ?side2 ?side3 ?side4 A11.out).mono ?_); (case side1 => repeat (first | exact HR550_0.out | (with_reducible refine Kd.C_alloc ?_ _) | (with_reducible refine Kd.C_drewN ?_ _) | (with_reducible refine Kd.C_drew ?_))); (case side2 => exact HC550_0.out); (case side3 => repeat (first | exact HR549_0.out | (with_reducible refine Kd.C_alloc ?_ _) | (with_reducible refine Kd.C_drewN ?_ _) | (with_reducible refine Kd.C_drew ?_))); (case side4 => exact HC549_0.out); rintro e w' ⟨rfl, ⟨nd, rfl⟩⟩))
           go_roundg k1
           case measure => have := HK1.out; omega
           case rel => exact ⟨(wrap64 (x9_1 + 1)), (by first | rfl | (simp; done) | (simp [*]; done)), H', ⟨by have := HK1.out; omega⟩, by repeat (first | exact Drawn0.refl _ | apply Drawn0.step)⟩
         ·rw [if_neg c10] at H
          exact absurd H (by simp)
        ·rw [if_neg c9] at H
         exact absurd H (by simp)
       ·rw [if_neg c7] at H
        have c7b0 : decide (0 < x9_1) = false := decide_eq_false c7
        clear c7
        have H' := Aside0.mk H
        clear H
        have p549 : 0 ≤ (x9_1 : Int) := of_decide_eq_true (by first | (with_reducible assumption) | assumption)
        have q549 : x9_1 < (l0.length : Int) := of_decide_eq_true (by first | (with_reducible assumption) | assumption)
        obtain ⟨ad549, A549_0, c549_0, e549, hx549_0, hl549_0, hi549_0⟩ := at_L1 HR0.out x9_1 p549 q549
        cases e549
        have HR549_0 := Aside0.mk hi549_0
        have HC549_0 := Aside0.mk hl549_0
        clear hi549_0 hl549_0
        replace p549 := eq_true p549
        replace q549 := eq_true q549
        go_wp2
        go_roundg k1
        case measure => have := HK1.out; omega
        case rel => exact ⟨(wrap64 (x9_1 + 1)), (by first | rfl | (simp; done) | (simp [*]; done)), H', ⟨by have := HK1.out; omega⟩, by repeat (first | exact Drawn0.refl _ | apply Drawn0.step)⟩
      ·rw [if_neg c6] at H
       have c6b0 : (((rd_L1 l0 x9_1).length : Int) == a1) = false := beq_eq_false_iff_ne.mpr c6
       have c6b1 : (((rd_L1 l0 x9_1).length : Int) != a1) = true := bne_iff_ne.mpr c6
       obtain rfl := Option.some.inj H
       have p549 : 0 ≤ (x9_1 : Int) := of_decide_eq_true (by first | (with_reducible assumption) | assumption)
       have q549 : x9_1 < (l0.length : Int) := of_decide_eq_true (by first | (with_reducible assumption) | assumption)
       obtain ⟨ad549, A549_0, c549_0, e549, hx549_0, hl549_0, hi549_0⟩ := at_L1 HR0.out x9_1 p549 q549
       cases e549
       have HR549_0 := Aside0.mk hi549_0
       have HC549_0 := Aside0.mk hl549_0
       clear hi549_0 hl549_0
       replace p549 := eq_true p549
       replace q549 := eq_true q549
       go_wp2
       go_ret
       exact ⟨by first | rfl | (simp; done) | (simp [*]; done), by repeat (first | exact Drawn0.refl _ | apply Drawn0.step)⟩
     ·rw [if_neg c5] at H
      exact absurd H (by simp)
    ·rw [if_neg c4] at H
     exact absurd H (by simp)
   ·rw [if_neg c3] at H
    have c3b0 : decide (x9_1 < (l0.length : Int)) = false := decide_eq_false c3
    clear c3
    obtain rfl := Option.some.inj H
    go_wp2
    go_ret
    exact ⟨by first | rfl | (simp; done) | (simp [*]; done), by repeat (first | exact Drawn0.refl _ | apply Drawn0.step)⟩
end Go.Proofs.Ytkolhpmhbgbphaa.P
