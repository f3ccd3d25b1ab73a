/-
  Part 10 of the proof of this: The law FnExactPrintData answers true at every argument.
-/
import Derived.Test.YtjlglimikbfgmaaDoorRows
import Derived.Test.YtjlglimikbfgmaaDoorKPrintData2
import Derived.Test.YtjlglimikbfgmaaDoorKPrintData3
import Derived.Test.YtjlglimikbfgmaaDoorKPrintData5
import Derived.Test.YtjlglimikbfgmaaDoorKPrintData7
import Derived.Test.YtjlglimikbfgmaaDoorKPrintData8
import Derived.Test.YtjlglimikbfgmaaDoorKPrintData9
import Derived.Lib.Join
import Derived.Lib.ItoaNum
import Derived.Lib.ItoaLen
import Derived.Lib.UnsafeStr
import Derived.Lib.LaidTab
import Derived.Stop.Joined
import Derived.LaidMore
import Derived.MakeChecks
import Derived.ProofKit
import Derived.Below
namespace Go.Proofs.YtjlglimikbfgmaaDoor.P
open Go.RowKit Go.Proofs.YtjlglimikbfgmaaDoorW.PrintWords Go.Proofs.YtjlglimikbfgmaaDoorW.PrintLast Go.Proofs.YtjlglimikbfgmaaDoorW.PrintMore
attribute [local go_sem] max2_int min2_int max_two min_two max_three min_three max_four min_four
set_option linter.unusedVariables false
set_option linter.unusedSimpArgs false
mutual
def spec_l3ShapeOK.j0 : Nat → Bool → ByteArray → List ByteArray → Int → List (S76) → Option (Bool)
 | 0, _, _, _, _, _ => none
 | k + 1, x24, x275000, x275001, x275002, x275003 => if x24 = true then (some false) else (spec_l3ShapeOK.l0 k x275001 (x275001.length : Int) 0 x275000 x275001 x275002 x275003)
def spec_l3ShapeOK.l0 : Nat → List ByteArray → Int → Int → ByteArray → List ByteArray → Int → List (S76) → Option (Bool)
 | 0, _, _, _, _, _, _, _ => none
 | k + 1, x26, x27, x28, x275000, x275001, x275002, x275003 => if x28 < x27 then (if 0 ≤ x28 then (if x28 < (x26.length : Int) then ((spec_l2Name.f k (rdOf ByteArray.empty x26 x28)).bind fun t278 => (if t278 = true then (spec_l3ShapeOK.l0 k x26 x27 (wrap64 (x28 + 1)) x275000 x275001 x275002 x275003) else (some false))) else (none)) else (none)) else (spec_l3ShapeOK.l1 k x275003 (x275003.length : Int) 0)
def spec_l3ShapeOK.l1 : Nat → List (S76) → Int → Int → Option (Bool)
 | 0, _, _, _ => none
 | k + 1, x37, x38, x39 => if x39 < x38 then (if 0 ≤ x39 then (if x39 < (x37.length : Int) then ((spec_l2Name.f k ((rd_T76 x37 x39).f0)).bind fun t281 => (if t281 = true then (spec_l3ShapeOK.j3 k x37 x38 x39 (decide ((((rd_T76 x37 x39).f1).length : Int) < 1)) ((rd_T76 x37 x39).f0) ((rd_T76 x37 x39).f1)) else (spec_l3ShapeOK.j3 k x37 x38 x39 true ((rd_T76 x37 x39).f0) ((rd_T76 x37 x39).f1)))) else (none)) else (none)) else (some true)
def spec_l3ShapeOK.j3 : Nat → List (S76) → Int → Int → Bool → ByteArray → List (S78) → Option (Bool)
 | 0, _, _, _, _, _, _ => none
 | k + 1, x37, x38, x39, x52, x281000, x281001 => if x52 = true then (some false) else (spec_l3ShapeOK.l2 k x37 x38 x39 x281001 (x281001.length : Int) 0)
def spec_l3ShapeOK.l2 : Nat → List (S76) → Int → Int → List (S78) → Int → Int → Option (Bool)
 | 0, _, _, _, _, _, _ => none
 | k + 1, x37, x38, x39, x54, x55, x56 => if x56 < x55 then (if 0 ≤ x56 then (if x56 < (x54.length : Int) then (if ((rd_T78 x54 x56).f0).toList = ([] : List UInt8) then (spec_l3ShapeOK.j5 k x37 x38 x39 x54 x55 x56 false ((rd_T78 x54 x56).f0) ((rd_T78 x54 x56).f1)) else ((spec_l2Name.f k ((rd_T78 x54 x56).f0)).bind fun t284 => (if t284 = true then (spec_l3ShapeOK.j5 k x37 x38 x39 x54 x55 x56 (((rd_T78 x54 x56).f1) != 0) ((rd_T78 x54 x56).f0) ((rd_T78 x54 x56).f1)) else (spec_l3ShapeOK.j5 k x37 x38 x39 x54 x55 x56 true ((rd_T78 x54 x56).f0) ((rd_T78 x54 x56).f1))))) else (none)) else (none)) else (spec_l3ShapeOK.l1 k x37 x38 (wrap64 (x39 + 1)))
def spec_l3ShapeOK.j5 : Nat → List (S76) → Int → Int → List (S78) → Int → Int → Bool → ByteArray → Int → Option (Bool)
 | 0, _, _, _, _, _, _, _, _, _ => none
 | k + 1, x37, x38, x39, x54, x55, x56, x73, x284000, x284001 => if x73 = true then (some false) else ((spec_l1Between.f x284001 0 1000000).bind fun t285 => (if t285 = true then (spec_l3ShapeOK.l2 k x37 x38 x39 x54 x55 (wrap64 (x56 + 1))) else (some false)))
end
def spec_l3ShapeOK.f (k : Nat) (a0_0 : ByteArray) (l0_1 : List ByteArray) (a0_2 : Int) (l0_3 : List (S76)) : Option (Bool) := (spec_l2Name.f k a0_0).bind fun t275 => (if t275 = true then ((spec_l1Between.f a0_2 0 3).bind fun t276 => (if t276 = true then (spec_l3ShapeOK.j0 k (decide ((l0_3.length : Int) < 1)) a0_0 l0_1 a0_2 l0_3) else (spec_l3ShapeOK.j0 k true a0_0 l0_1 a0_2 l0_3))) else (spec_l3ShapeOK.j0 k true a0_0 l0_1 a0_2 l0_3))
theorem spec_l3ShapeOK.mono_l : ∀ k, (∀ y0 y1 y2 y3 y4, LeO (spec_l3ShapeOK.j0 k y0 y1 y2 y3 y4) (spec_l3ShapeOK.j0 (k + 1) y0 y1 y2 y3 y4)) ∧ (∀ y0 y1 y2 y3 y4 y5 y6, LeO (spec_l3ShapeOK.l0 k y0 y1 y2 y3 y4 y5 y6) (spec_l3ShapeOK.l0 (k + 1) y0 y1 y2 y3 y4 y5 y6)) ∧ (∀ y0 y1 y2, LeO (spec_l3ShapeOK.l1 k y0 y1 y2) (spec_l3ShapeOK.l1 (k + 1) y0 y1 y2)) ∧ (∀ y0 y1 y2 y3 y4 y5, LeO (spec_l3ShapeOK.j3 k y0 y1 y2 y3 y4 y5) (spec_l3ShapeOK.j3 (k + 1) y0 y1 y2 y3 y4 y5)) ∧ (∀ y0 y1 y2 y3 y4 y5, LeO (spec_l3ShapeOK.l2 k y0 y1 y2 y3 y4 y5) (spec_l3ShapeOK.l2 (k + 1) y0 y1 y2 y3 y4 y5)) ∧ (∀ y0 y1 y2 y3 y4 y5 y6 y7 y8, LeO (spec_l3ShapeOK.j5 k y0 y1 y2 y3 y4 y5 y6 y7 y8) (spec_l3ShapeOK.j5 (k + 1) y0 y1 y2 y3 y4 y5 y6 y7 y8))
 | 0 => ⟨fun _ _ _ _ _ r h => by simp [spec_l3ShapeOK.j0] at h, fun _ _ _ _ _ _ _ r h => by simp [spec_l3ShapeOK.l0] at h, fun _ _ _ r h => by simp [spec_l3ShapeOK.l1] at h, fun _ _ _ _ _ _ r h => by simp [spec_l3ShapeOK.j3] at h, fun _ _ _ _ _ _ r h => by simp [spec_l3ShapeOK.l2] at h, fun _ _ _ _ _ _ _ _ _ r h => by simp [spec_l3ShapeOK.j5] at h⟩
 | k + 1 => by
  obtain ⟨ih0, ih1, ih2, ih3, ih4, ih5⟩ := spec_l3ShapeOK.mono_l k
  refine ⟨?_, ?_, ?_, ?_, ?_, ?_⟩
  ·intro y0 y1 y2 y3 y4
   unfold spec_l3ShapeOK.j0
   repeat' first
   | (with_reducible exact ih0 _ _ _ _ _)
   | (with_reducible exact ih1 _ _ _ _ _ _ _)
   | (with_reducible exact ih2 _ _ _)
   | (with_reducible exact ih3 _ _ _ _ _ _)
   | (with_reducible exact ih4 _ _ _ _ _ _)
   | (with_reducible exact ih5 _ _ _ _ _ _ _ _ _)
   | (with_reducible exact spec_l2Name.mono _ _)
   | (with_reducible exact LeO.refl _)
   | (with_reducible exact LeO.none _)
   | (with_reducible refine LeO.ite ?_ ?_)
   | (with_reducible refine LeO.bind ?_ (fun _ => ?_))
   | exact ih0 _ _ _ _ _
   | exact ih1 _ _ _ _ _ _ _
   | exact ih2 _ _ _
   | exact ih3 _ _ _ _ _ _
   | exact ih4 _ _ _ _ _ _
   | exact ih5 _ _ _ _ _ _ _ _ _
   | exact spec_l2Name.mono _ _
   | exact LeO.none _
   | refine LeO.ite ?_ ?_
   | refine LeO.bind ?_ (fun _ => ?_)
  ·intro y0 y1 y2 y3 y4 y5 y6
   unfold spec_l3ShapeOK.l0
   repeat' first
   | (with_reducible exact ih0 _ _ _ _ _)
   | (with_reducible exact ih1 _ _ _ _ _ _ _)
   | (with_reducible exact ih2 _ _ _)
   | (with_reducible exact ih3 _ _ _ _ _ _)
   | (with_reducible exact ih4 _ _ _ _ _ _)
   | (with_reducible exact ih5 _ _ _ _ _ _ _ _ _)
   | (with_reducible exact spec_l2Name.mono _ _)
   | (with_reducible exact LeO.refl _)
   | (with_reducible exact LeO.none _)
   | (with_reducible refine LeO.ite ?_ ?_)
   | (with_reducible refine LeO.bind ?_ (fun _ => ?_))
   | exact ih0 _ _ _ _ _
   | exact ih1 _ _ _ _ _ _ _
   | exact ih2 _ _ _
   | exact ih3 _ _ _ _ _ _
   | exact ih4 _ _ _ _ _ _
   | exact ih5 _ _ _ _ _ _ _ _ _
   | exact spec_l2Name.mono _ _
   | exact LeO.none _
   | refine LeO.ite ?_ ?_
   | refine LeO.bind ?_ (fun _ => ?_)
  ·intro y0 y1 y2
   unfold spec_l3ShapeOK.l1
   repeat' first
   | (with_reducible exact ih0 _ _ _ _ _)
   | (with_reducible exact ih1 _ _ _ _ _ _ _)
   | (with_reducible exact ih2 _ _ _)
   | (with_reducible exact ih3 _ _ _ _ _ _)
   | (with_reducible exact ih4 _ _ _ _ _ _)
   | (with_reducible exact ih5 _ _ _ _ _ _ _ _ _)
   | (with_reducible exact spec_l2Name.mono _ _)
   | (with_reducible exact LeO.refl _)
   | (with_reducible exact LeO.none _)
   | (with_reducible refine LeO.ite ?_ ?_)
   | (with_reducible refine LeO.bind ?_ (fun _ => ?_))
   | exact ih0 _ _ _ _ _
   | exact ih1 _ _ _ _ _ _ _
   | exact ih2 _ _ _
   | exact ih3 _ _ _ _ _ _
   | exact ih4 _ _ _ _ _ _
   | exact ih5 _ _ _ _ _ _ _ _ _
   | exact spec_l2Name.mono _ _
   | exact LeO.none _
   | refine LeO.ite ?_ ?_
   | refine LeO.bind ?_ (fun _ => ?_)
  ·intro y0 y1 y2 y3 y4 y5
   unfold spec_l3ShapeOK.j3
   repeat' first
   | (with_reducible exact ih0 _ _ _ _ _)
   | (with_reducible exact ih1 _ _ _ _ _ _ _)
   | (with_reducible exact ih2 _ _ _)
   | (with_reducible exact ih3 _ _ _ _ _ _)
   | (with_reducible exact ih4 _ _ _ _ _ _)
   | (with_reducible exact ih5 _ _ _ _ _ _ _ _ _)
   | (with_reducible exact spec_l2Name.mono _ _)
   | (with_reducible exact LeO.refl _)
   | (with_reducible exact LeO.none _)
   | (with_reducible refine LeO.ite ?_ ?_)
   | (with_reducible refine LeO.bind ?_ (fun _ => ?_))
   | exact ih0 _ _ _ _ _
   | exact ih1 _ _ _ _ _ _ _
   | exact ih2 _ _ _
   | exact ih3 _ _ _ _ _ _
   | exact ih4 _ _ _ _ _ _
   | exact ih5 _ _ _ _ _ _ _ _ _
   | exact spec_l2Name.mono _ _
   | exact LeO.none _
   | refine LeO.ite ?_ ?_
   | refine LeO.bind ?_ (fun _ => ?_)
  ·intro y0 y1 y2 y3 y4 y5
   unfold spec_l3ShapeOK.l2
   repeat' first
   | (with_reducible exact ih0 _ _ _ _ _)
   | (with_reducible exact ih1 _ _ _ _ _ _ _)
   | (with_reducible exact ih2 _ _ _)
   | (with_reducible exact ih3 _ _ _ _ _ _)
   | (with_reducible exact ih4 _ _ _ _ _ _)
   | (with_reducible exact ih5 _ _ _ _ _ _ _ _ _)
   | (with_reducible exact spec_l2Name.mono _ _)
   | (with_reducible exact LeO.refl _)
   | (with_reducible exact LeO.none _)
   | (with_reducible refine LeO.ite ?_ ?_)
   | (with_reducible refine LeO.bind ?_ (fun _ => ?_))
   | exact ih0 _ _ _ _ _
   | exact ih1 _ _ _ _ _ _ _
   | exact ih2 _ _ _
   | exact ih3 _ _ _ _ _ _
   | exact ih4 _ _ _ _ _ _
   | exact ih5 _ _ _ _ _ _ _ _ _
   | exact spec_l2Name.mono _ _
   | exact LeO.none _
   | refine LeO.ite ?_ ?_
   | refine LeO.bind ?_ (fun _ => ?_)
  ·intro y0 y1 y2 y3 y4 y5 y6 y7 y8
   unfold spec_l3ShapeOK.j5
   repeat' first
   | (with_reducible exact ih0 _ _ _ _ _)
   | (with_reducible exact ih1 _ _ _ _ _ _ _)
   | (with_reducible exact ih2 _ _ _)
   | (with_reducible exact ih3 _ _ _ _ _ _)
   | (with_reducible exact ih4 _ _ _ _ _ _)
   | (with_reducible exact ih5 _ _ _ _ _ _ _ _ _)
   | (with_reducible exact spec_l2Name.mono _ _)
   | (with_reducible exact LeO.refl _)
   | (with_reducible exact LeO.none _)
   | (with_reducible refine LeO.ite ?_ ?_)
   | (with_reducible refine LeO.bind ?_ (fun _ => ?_))
   | exact ih0 _ _ _ _ _
   | exact ih1 _ _ _ _ _ _ _
   | exact ih2 _ _ _
   | exact ih3 _ _ _ _ _ _
   | exact ih4 _ _ _ _ _ _
   | exact ih5 _ _ _ _ _ _ _ _ _
   | exact spec_l2Name.mono _ _
   | exact LeO.none _
   | refine LeO.ite ?_ ?_
   | refine LeO.bind ?_ (fun _ => ?_)
theorem spec_l3ShapeOK.mono : ∀ a0 a1 a2 a3 k, LeO (spec_l3ShapeOK.f k a0 a1 a2 a3) (spec_l3ShapeOK.f (k + 1) a0 a1 a2 a3) := by
 intro a0 a1 a2 a3 k
 obtain ⟨ih0, ih1, ih2, ih3, ih4, ih5⟩ := spec_l3ShapeOK.mono_l k
 unfold spec_l3ShapeOK.f
 repeat' first
   | (with_reducible exact ih0 _ _ _ _ _)
   | (with_reducible exact ih1 _ _ _ _ _ _ _)
   | (with_reducible exact ih2 _ _ _)
   | (with_reducible exact ih3 _ _ _ _ _ _)
   | (with_reducible exact ih4 _ _ _ _ _ _)
   | (with_reducible exact ih5 _ _ _ _ _ _ _ _ _)
   | (with_reducible exact spec_l2Name.mono _ _)
   | (with_reducible exact LeO.refl _)
   | (with_reducible exact LeO.none _)
   | (with_reducible refine LeO.ite ?_ ?_)
   | (with_reducible refine LeO.bind ?_ (fun _ => ?_))
   | exact ih0 _ _ _ _ _
   | exact ih1 _ _ _ _ _ _ _
   | exact ih2 _ _ _
   | exact ih3 _ _ _ _ _ _
   | exact ih4 _ _ _ _ _ _
   | exact ih5 _ _ _ _ _ _ _ _ _
   | exact spec_l2Name.mono _ _
   | exact LeO.none _
   | refine LeO.ite ?_ ?_
   | refine LeO.bind ?_ (fun _ => ?_)
set_option maxHeartbeats 8000000 in
set_option maxRecDepth 100000 in
theorem spec_l3ShapeOK.calls (k : Nat) (a0_0 : ByteArray) (A0_1 : Option Addr) (c0_1 : Nat) (l0_1 : List ByteArray) (a0_2 : Int) (A0_3 : Option Addr) (c0_3 : Nat) (l0_3 : List (S76)) (r : Bool) (w : World) (hr0_1 : Kd.C Kd.string w A0_1 l0_1.length l0_1) (hc0_1 : l0_1.length ≤ c0_1) (hr0_3 : Kd.C k76 w A0_3 l0_3.length l0_3) (hc0_3 : l0_3.length ≤ c0_3) (h : spec_l3ShapeOK.f k a0_0 l0_1 a0_2 l0_3 = some r) :
  Calls Tryd.prog 33 #[.agg #[.string a0_0, .slice A0_1 l0_1.length c0_1, .int .i64 a0_2, .slice A0_3 l0_3.length c0_3]] w fun e w' => e = .returned (.bool r) ∧ Below w.heap.size w w' := by
 have hu41 := Tryd.underlying41
 have hu76 := Tryd.underlying76
 have hu78 := Tryd.underlying78
 have HR0_1 := Aside0.mk hr0_1
 have HC0_1 := Aside0.mk hc0_1
 clear hr0_1 hc0_1
 have HR0_3 := Aside0.mk hr0_3
 have HC0_3 := Aside0.mk hc0_3
 clear hr0_3 hc0_3
 have HB := Aside0.mk (Below.refl w.heap.size w)
 have H : ((spec_l2Name.f k a0_0).bind fun t275 => (if t275 = true then ((spec_l1Between.f a0_2 0 3).bind fun t276 => (if t276 = true then (spec_l3ShapeOK.j0 k (decide ((l0_3.length : Int) < 1)) a0_0 l0_1 a0_2 l0_3) else (spec_l3ShapeOK.j0 k true a0_0 l0_1 a0_2 l0_3))) else (spec_l3ShapeOK.j0 k true a0_0 l0_1 a0_2 l0_3))) = some r := h
 clear h
 have HC2 := Aside0.mk H
 clear H
 go_enter Tryd.func33, Tryd.ntmps33
 go_upto_region 1 with (first | ((with_reducible refine gate_dst (N := 1) rfl ?_); (try (refine gate_guard (by rfl) ?_; dsimp only)); refine box_event ?hg (N := 1) ?hd (cs := #[.string a0_0, .slice A0_1 l0_1.length c0_1, .int .i64 a0_2, .slice A0_3 l0_3.length c0_3]) (t := 41) ?hr ?_; (case hd => rfl); (case hg => rfl); (case hr => first | (go_simp; done) | (go_simp; rfl)); intro gb274 hg w3 hbox hb; have n0_ := Aside0.mk (below_step (by repeat (first | (with_reducible first | exact HB.out | apply below_alloc | apply pw_below_drewN | apply below_drew1) | exact HB.out)) hb); have n1_ := Aside0.mk (hbox); have n2_ := Aside0.mk ((by rw [hg]; exact (below_size (by repeat (first | (with_reducible first | exact HB.out | apply below_alloc | apply pw_below_drewN | apply below_drew1) | exact HB.out))) : w.heap.size ≤ gb274)); have n3_ := Aside0.mk ((by rw [hg]; exact (below_size (by repeat (first | (with_reducible first | exact HB.out | apply below_alloc | apply pw_below_drewN | apply below_drew1) | exact HB.out))) : w.heap.size ≤ gb274)); clear HB; have HB := n0_; have BK274 := n1_; have GW274 := n2_; have GE274 := n3_; clear n0_ n1_ n2_ n3_; clear hb hbox hg))
 (try simp only [Act.put, List.setIfInBounds_toArray, List.set_cons_zero, List.set_cons_succ])
 go_cut [24] (fun v24 wc => ∃ (kq : Nat) (x24_1 : Bool), v24 = .bool x24_1 ∧ Aside0 (spec_l3ShapeOK.j0 kq x24_1 a0_0 l0_1 a0_2 l0_3 = some r) ∧ Aside0 (kq ≤ k) ∧ Aside0 (wc.heap[gb274]? = some (.cells #[.string a0_0, (.slice A0_1 l0_1.length c0_1), .int .i64 a0_2, (.slice A0_3 l0_3.length c0_3)] 41 (0, 0))) ∧ Aside0 (Below w.heap.size w wc))
 case first =>
  have H := HC2.out
  clear HC2
  replace H := Option.bind_eq_some_iff.mp H
  obtain ⟨t275, A40, H⟩ := H
  replace H : (if t275 = true then ((spec_l1Between.f a0_2 0 3).bind fun t276 => (if t276 = true then (spec_l3ShapeOK.j0 k (decide ((l0_3.length : Int) < 1)) a0_0 l0_1 a0_2 l0_3) else (spec_l3ShapeOK.j0 k true a0_0 l0_1 a0_2 l0_3))) else (spec_l3ShapeOK.j0 k true a0_0 l0_1 a0_2 l0_3)) = some r := H
  have A4 := Aside0.mk A40
  clear A40
  by_cases c5 : t275 = true
  ·subst c5
   have H1 : ((spec_l1Between.f a0_2 0 3).bind fun t276 => (if t276 = true then (spec_l3ShapeOK.j0 k (decide ((l0_3.length : Int) < 1)) a0_0 l0_1 a0_2 l0_3) else (spec_l3ShapeOK.j0 k true a0_0 l0_1 a0_2 l0_3))) = some r := by rw [if_pos rfl] at H; exact H
   clear H
   have H := H1
   clear H1
   replace H := Option.bind_eq_some_iff.mp H
   obtain ⟨t276, A60, H⟩ := H
   replace H : (if t276 = true then (spec_l3ShapeOK.j0 k (decide ((l0_3.length : Int) < 1)) a0_0 l0_1 a0_2 l0_3) else (spec_l3ShapeOK.j0 k true a0_0 l0_1 a0_2 l0_3)) = some r := H
   have A6 := Aside0.mk A60
   clear A60
   by_cases c7 : t276 = true
   ·subst c7
    have H1 : (spec_l3ShapeOK.j0 k (decide ((l0_3.length : Int) < 1)) a0_0 l0_1 a0_2 l0_3) = some r := by rw [if_pos rfl] at H; exact H
    clear H
    have H := H1
    clear H1
    have H' := Aside0.mk H
    clear H
    have hcz8_0 : w3.cell? ⟨gb274, 0, none⟩ = some (.string a0_0) := (blk_cell BK274.out 0).trans rfl
    have hcz8_1 : w3.cell? ⟨gb274, 1, none⟩ = some (.slice A0_1 l0_1.length c0_1) := (blk_cell BK274.out 1).trans rfl
    have hcz8_2 : w3.cell? ⟨gb274, 2, none⟩ = some (.int .i64 a0_2) := (blk_cell BK274.out 2).trans rfl
    have hcz8_3 : w3.cell? ⟨gb274, 3, none⟩ = some (.slice A0_3 l0_3.length c0_3) := (blk_cell BK274.out 3).trans rfl
    have hfz8_0 := blk_frozen BK274.out 0
    have hfz8_1 := blk_frozen BK274.out 1
    have hfz8_2 := blk_frozen BK274.out 2
    have hfz8_3 := blk_frozen BK274.out 3
    go_wp2_with (first | ((with_reducible refine gate_callee (f := 54) rfl ?_); refine goesL_ (some 11) rfl rfl Tryd.func54 (by kernel_rfl) rfl #[.string a0_0] rfl (by (try simp only [List.map_toArray, List.map_cons, List.map_nil]); first | done | rfl | (simp only [List.length_drop, List.length_take]; rfl)) ?_; (with_reducible refine (spec_l2Name.calls k a0_0 true _ A4.out).mono ?_); rintro e w' ⟨rfl, ⟨nd, rfl⟩⟩; refine ⟨_, rfl, ?_⟩) | (go_at_call 55; (with_reducible refine (spec_l1Between.calls a0_2 0 3 true _ A6.out).mono ?_); rintro e w' ⟨rfl, ⟨nd, rfl⟩⟩))
    go_meet
    case rel => exact ⟨_, (decide ((l0_3.length : Int) < 1)), (by first | rfl | (simp; done) | (simp [*]; done)), H', ⟨by first | omega | exact Nat.le_refl _⟩, ⟨by (with_reducible repeat (first | refine blk_drewN ?_ _ | refine blk_drew ?_ | refine blk_alloc ?_ _)); exact BK274.out⟩, ⟨by repeat (first | (with_reducible first | exact HB.out | apply below_alloc | apply pw_below_drewN | apply below_drew1 | refine below_set ?_ GE274.out) | exact HB.out)⟩⟩
   ·replace c7 := Bool.eq_false_iff.mpr c7
    subst c7
    have H1 : (spec_l3ShapeOK.j0 k true a0_0 l0_1 a0_2 l0_3) = some r := by rw [if_neg (show ¬ (false = true) by decide)] at H; exact H
    clear H
    have H := H1
    clear H1
    have H' := Aside0.mk H
    clear H
    have hcz9_0 : w3.cell? ⟨gb274, 0, none⟩ = some (.string a0_0) := (blk_cell BK274.out 0).trans rfl
    have hcz9_1 : w3.cell? ⟨gb274, 1, none⟩ = some (.slice A0_1 l0_1.length c0_1) := (blk_cell BK274.out 1).trans rfl
    have hcz9_2 : w3.cell? ⟨gb274, 2, none⟩ = some (.int .i64 a0_2) := (blk_cell BK274.out 2).trans rfl
    have hcz9_3 : w3.cell? ⟨gb274, 3, none⟩ = some (.slice A0_3 l0_3.length c0_3) := (blk_cell BK274.out 3).trans rfl
    have hfz9_0 := blk_frozen BK274.out 0
    have hfz9_1 := blk_frozen BK274.out 1
    have hfz9_2 := blk_frozen BK274.out 2
    have hfz9_3 := blk_frozen BK274.out 3
    go_wp2_with (first | ((with_reducible refine gate_callee (f := 54) rfl ?_); refine goesL_ (some 11) rfl rfl Tryd.func54 (by kernel_rfl) rfl #[.string a0_0] rfl (by (try simp only [List.map_toArray, List.map_cons, List.map_nil]); first | done | rfl | (simp only [List.length_drop, List.length_take]; rfl)) ?_; (with_reducible refine (spec_l2Name.calls k a0_0 true _ A4.out).mono ?_); rintro e w' ⟨rfl, ⟨nd, rfl⟩⟩; refine ⟨_, rfl, ?_⟩) | (go_at_call 55; (with_reducible refine (spec_l1Between.calls a0_2 0 3 false _ A6.out).mono ?_); rintro e w' ⟨rfl, ⟨nd, rfl⟩⟩))
    go_meet
    case rel => exact ⟨_, (true), (by first | rfl | (simp; done) | (simp [*]; done)), H', ⟨by first | omega | exact Nat.le_refl _⟩, ⟨by (with_reducible repeat (first | refine blk_drewN ?_ _ | refine blk_drew ?_ | refine blk_alloc ?_ _)); exact BK274.out⟩, ⟨by repeat (first | (with_reducible first | exact HB.out | apply below_alloc | apply pw_below_drewN | apply below_drew1 | refine below_set ?_ GE274.out) | exact HB.out)⟩⟩
  ·replace c5 := Bool.eq_false_iff.mpr c5
   subst c5
   have H1 : (spec_l3ShapeOK.j0 k true a0_0 l0_1 a0_2 l0_3) = some r := by rw [if_neg (show ¬ (false = true) by decide)] at H; exact H
   clear H
   have H := H1
   clear H1
   have H' := Aside0.mk H
   clear H
   have hcz10_0 : w3.cell? ⟨gb274, 0, none⟩ = some (.string a0_0) := (blk_cell BK274.out 0).trans rfl
   have hcz10_1 : w3.cell? ⟨gb274, 1, none⟩ = some (.slice A0_1 l0_1.length c0_1) := (blk_cell BK274.out 1).trans rfl
   have hcz10_2 : w3.cell? ⟨gb274, 2, none⟩ = some (.int .i64 a0_2) := (blk_cell BK274.out 2).trans rfl
   have hcz10_3 : w3.cell? ⟨gb274, 3, none⟩ = some (.slice A0_3 l0_3.length c0_3) := (blk_cell BK274.out 3).trans rfl
   have hfz10_0 := blk_frozen BK274.out 0
   have hfz10_1 := blk_frozen BK274.out 1
   have hfz10_2 := blk_frozen BK274.out 2
   have hfz10_3 := blk_frozen BK274.out 3
   go_wp2_with (first | ((with_reducible refine gate_callee (f := 54) rfl ?_); refine goesL_ (some 11) rfl rfl Tryd.func54 (by kernel_rfl) rfl #[.string a0_0] rfl (by (try simp only [List.map_toArray, List.map_cons, List.map_nil]); first | done | rfl | (simp only [List.length_drop, List.length_take]; rfl)) ?_; (with_reducible refine (spec_l2Name.calls k a0_0 false _ A4.out).mono ?_); rintro e w' ⟨rfl, ⟨nd, rfl⟩⟩; refine ⟨_, rfl, ?_⟩))
   go_meet
   case rel => exact ⟨_, (true), (by first | rfl | (simp; done) | (simp [*]; done)), H', ⟨by first | omega | exact Nat.le_refl _⟩, ⟨by (with_reducible repeat (first | refine blk_drewN ?_ _ | refine blk_drew ?_ | refine blk_alloc ?_ _)); exact BK274.out⟩, ⟨by repeat (first | (with_reducible first | exact HB.out | apply below_alloc | apply pw_below_drewN | apply below_drew1 | refine below_set ?_ GE274.out) | exact HB.out)⟩⟩
 case rest =>
  clear HC2
  try clear p2
  try clear c3
  try clear c5
  try clear c7
  try clear hcz10_0
  try clear hcz10_1
  try clear hcz10_2
  try clear hcz10_3
  try clear hcz8_0
  try clear hcz8_1
  try clear hcz8_2
  try clear hcz8_3
  try clear hcz9_0
  try clear hcz9_1
  try clear hcz9_2
  try clear hcz9_3
  try clear hfz10_0
  try clear hfz10_1
  try clear hfz10_2
  try clear hfz10_3
  try clear hfz8_0
  try clear hfz8_1
  try clear hfz8_2
  try clear hfz8_3
  try clear hfz9_0
  try clear hfz9_1
  try clear hfz9_2
  try clear hfz9_3
  obtain ⟨kq, x24_1, rfl, HA, HJ1, BK274, HB⟩ := hcut
  cases kq with
  | zero => exact absurd HA.out (by simp [spec_l3ShapeOK.j0])
  | succ kj1 =>
   have H := HA.out
   clear HA
   simp only [spec_l3ShapeOK.j0] at H
   by_cases c11 : x24_1 = true
   ·subst c11
    have H1 : (some false) = some r := by rw [if_pos rfl] at H; exact H
    clear H
    have H := H1
    clear H1
    obtain rfl := Option.some.inj H
    go_wp2
    go_ret
    exact ⟨by first | rfl | (simp [errW_none, errW_some] <;> rfl) | (simp [*, errW_none, errW_some] <;> rfl), by repeat (first | (with_reducible first | exact HB.out | apply below_alloc | apply pw_below_drewN | apply below_drew1 | refine below_set ?_ GE274.out) | exact HB.out)⟩
   ·replace c11 := Bool.eq_false_iff.mpr c11
    subst c11
    have H1 : (spec_l3ShapeOK.l0 kj1 l0_1 (l0_1.length : Int) 0 a0_0 l0_1 a0_2 l0_3) = some r := by rw [if_neg (show ¬ (false = true) by decide)] at H; exact H
    clear H
    have H := H1
    clear H1
    have H' := Aside0.mk H
    clear H
    have hcz12_0 : wc.cell? ⟨gb274, 0, none⟩ = some (.string a0_0) := (blk_cell BK274.out 0).trans rfl
    have hcz12_1 : wc.cell? ⟨gb274, 1, none⟩ = some (.slice A0_1 l0_1.length c0_1) := (blk_cell BK274.out 1).trans rfl
    have hcz12_2 : wc.cell? ⟨gb274, 2, none⟩ = some (.int .i64 a0_2) := (blk_cell BK274.out 2).trans rfl
    have hcz12_3 : wc.cell? ⟨gb274, 3, none⟩ = some (.slice A0_3 l0_3.length c0_3) := (blk_cell BK274.out 3).trans rfl
    have hfz12_0 := blk_frozen BK274.out 0
    have hfz12_1 := blk_frozen BK274.out 1
    have hfz12_2 := blk_frozen BK274.out 2
    have hfz12_3 := blk_frozen BK274.out 3
    go_wp2
    go_loopg [28] kj1 (fun kq v28 w' => ∃ (x28_2 : Int), v28 = .int .i64 x28_2 ∧ Aside0 (spec_l3ShapeOK.l0 kq l0_1 (l0_1.length : Int) x28_2 a0_0 l0_1 a0_2 l0_3 = some r) ∧ Aside0 (kq ≤ kj1) ∧ Aside0 (w'.heap[gb274]? = some (.cells #[.string a0_0, (.slice A0_1 l0_1.length c0_1), .int .i64 a0_2, (.slice A0_3 l0_3.length c0_3)] 41 (0, 0))) ∧ Aside0 (Below w.heap.size w w'))
    case atStart => exact ⟨(0), (by first | rfl | (simp; done) | (simp [*]; done)), H', ⟨Nat.le_refl _⟩, ⟨by (with_reducible repeat (first | refine blk_drewN ?_ _ | refine blk_drew ?_ | refine blk_alloc ?_ _)); exact BK274.out⟩, ⟨by repeat (first | (with_reducible first | exact HB.out | apply below_alloc | apply pw_below_drewN | apply below_drew1 | refine below_set ?_ GE274.out) | exact HB.out)⟩⟩
    case round =>
     clear H'
     try clear c1
     try clear p2
     try clear c3
     try clear c5
     try clear c7
     try clear c11
     try clear hcz10_0
     try clear hcz10_1
     try clear hcz10_2
     try clear hcz10_3
     try clear hcz12_0
     try clear hcz12_1
     try clear hcz12_2
     try clear hcz12_3
     try clear hcz8_0
     try clear hcz8_1
     try clear hcz8_2
     try clear hcz8_3
     try clear hcz9_0
     try clear hcz9_1
     try clear hcz9_2
     try clear hcz9_3
     try clear hfz10_0
     try clear hfz10_1
     try clear hfz10_2
     try clear hfz10_3
     try clear hfz12_0
     try clear hfz12_1
     try clear hfz12_2
     try clear hfz12_3
     try clear hfz8_0
     try clear hfz8_1
     try clear hfz8_2
     try clear hfz8_3
     try clear hfz9_0
     try clear hfz9_1
     try clear hfz9_2
     try clear hfz9_3
     try clear p2
     obtain ⟨x28_2, rfl, HA, HK2, BK274, HB⟩ := hrel
     cases gk with
     | zero => exact absurd HA.out (by simp [spec_l3ShapeOK.l0])
     | succ k2 =>
      have H := HA.out
      clear HA
      simp only [spec_l3ShapeOK.l0] at H
      by_cases c13 : x28_2 < (l0_1.length : Int)
      ·rw [if_pos c13] at H
       have c13b0 : decide (x28_2 < (l0_1.length : Int)) = true := decide_eq_true c13
       clear c13
       by_cases c14 : 0 ≤ x28_2
       ·rw [if_pos c14] at H
        have c14b0 : decide (0 ≤ x28_2) = true := decide_eq_true c14
        clear c14
        by_cases c15 : x28_2 < (l0_1.length : Int)
        ·rw [if_pos c15] at H
         have c15b0 : decide (x28_2 < (l0_1.length : Int)) = true := decide_eq_true c15
         clear c15
         replace H := Option.bind_eq_some_iff.mp H
         obtain ⟨t278, A160, H⟩ := H
         replace H : (if t278 = true then (spec_l3ShapeOK.l0 k2 l0_1 (l0_1.length : Int) (wrap64 (x28_2 + 1)) a0_0 l0_1 a0_2 l0_3) else (some false)) = some r := H
         have A16 := Aside0.mk A160
         clear A160
         by_cases c17 : t278 = true
         ·subst c17
          have H1 : (spec_l3ShapeOK.l0 k2 l0_1 (l0_1.length : Int) (wrap64 (x28_2 + 1)) a0_0 l0_1 a0_2 l0_3) = some r := by rw [if_pos rfl] at H; exact H
          clear H
          have H := H1
          clear H1
          have H' := Aside0.mk H
          clear H
          have p277 : 0 ≤ (x28_2 : Int) := of_decide_eq_true (by first | (with_reducible assumption) | assumption)
          have q277 : x28_2 < (l0_1.length : Int) := of_decide_eq_true (by first | (with_reducible assumption) | assumption)
          obtain ⟨ad277, e277, hx277_0⟩ := Kd.at_string HR0_1.out x28_2 p277 q277
          cases e277
          replace hx277_0 := (HB.out.cell (World.block_lt_of_cell? w _ hx277_0)).trans hx277_0
          replace p277 := eq_true p277
          replace q277 := eq_true q277
          go_wp2_with (first | ((with_reducible refine gate_callee (f := 54) rfl ?_); refine goesL_ (some 33) rfl rfl Tryd.func54 (by kernel_rfl) rfl #[.string (rdOf ByteArray.empty l0_1 x28_2)] rfl (by (try simp only [List.map_toArray, List.map_cons, List.map_nil]); first | done | rfl | (simp only [List.length_drop, List.length_take]; rfl)) ?_; (with_reducible refine (spec_l2Name.calls k2 (rdOf ByteArray.empty l0_1 x28_2) true _ A16.out).mono ?_); rintro e w' ⟨rfl, ⟨nd, rfl⟩⟩; refine ⟨_, rfl, ?_⟩))
          go_roundg k2
          case measure => have := HJ1.out; have := HK2.out; omega
          case rel => exact ⟨(wrap64 (x28_2 + 1)), (by first | rfl | (simp; done) | (simp [*]; done)), H', ⟨by have := HJ1.out; have := HK2.out; omega⟩, ⟨by (with_reducible repeat (first | refine blk_drewN ?_ _ | refine blk_drew ?_ | refine blk_alloc ?_ _)); exact BK274.out⟩, ⟨by repeat (first | (with_reducible first | exact HB.out | apply below_alloc | apply pw_below_drewN | apply below_drew1 | refine below_set ?_ GE274.out) | exact HB.out)⟩⟩
         ·replace c17 := Bool.eq_false_iff.mpr c17
          subst c17
          have H1 : (some false) = some r := by rw [if_neg (show ¬ (false = true) by decide)] at H; exact H
          clear H
          have H := H1
          clear H1
          obtain rfl := Option.some.inj H
          have p277 : 0 ≤ (x28_2 : Int) := of_decide_eq_true (by first | (with_reducible assumption) | assumption)
          have q277 : x28_2 < (l0_1.length : Int) := of_decide_eq_true (by first | (with_reducible assumption) | assumption)
          obtain ⟨ad277, e277, hx277_0⟩ := Kd.at_string HR0_1.out x28_2 p277 q277
          cases e277
          replace hx277_0 := (HB.out.cell (World.block_lt_of_cell? w _ hx277_0)).trans hx277_0
          replace p277 := eq_true p277
          replace q277 := eq_true q277
          go_wp2_with (first | ((with_reducible refine gate_callee (f := 54) rfl ?_); refine goesL_ (some 33) rfl rfl Tryd.func54 (by kernel_rfl) rfl #[.string (rdOf ByteArray.empty l0_1 x28_2)] rfl (by (try simp only [List.map_toArray, List.map_cons, List.map_nil]); first | done | rfl | (simp only [List.length_drop, List.length_take]; rfl)) ?_; (with_reducible refine (spec_l2Name.calls k2 (rdOf ByteArray.empty l0_1 x28_2) false _ A16.out).mono ?_); rintro e w' ⟨rfl, ⟨nd, rfl⟩⟩; refine ⟨_, rfl, ?_⟩))
          go_ret
          exact ⟨by first | rfl | (simp [errW_none, errW_some] <;> rfl) | (simp [*, errW_none, errW_some] <;> rfl), by repeat (first | (with_reducible first | exact HB.out | apply below_alloc | apply pw_below_drewN | apply below_drew1 | refine below_set ?_ GE274.out) | exact HB.out)⟩
        ·rw [if_neg c15] at H
         exact absurd H (by simp)
       ·rw [if_neg c14] at H
        exact absurd H (by simp)
      ·rw [if_neg c13] at H
       have c13b0 : decide (x28_2 < (l0_1.length : Int)) = false := decide_eq_false c13
       clear c13
       have H' := Aside0.mk H
       clear H
       have hcz18_0 : wr.cell? ⟨gb274, 0, none⟩ = some (.string a0_0) := (blk_cell BK274.out 0).trans rfl
       have hcz18_1 : wr.cell? ⟨gb274, 1, none⟩ = some (.slice A0_1 l0_1.length c0_1) := (blk_cell BK274.out 1).trans rfl
       have hcz18_2 : wr.cell? ⟨gb274, 2, none⟩ = some (.int .i64 a0_2) := (blk_cell BK274.out 2).trans rfl
       have hcz18_3 : wr.cell? ⟨gb274, 3, none⟩ = some (.slice A0_3 l0_3.length c0_3) := (blk_cell BK274.out 3).trans rfl
       have hfz18_0 := blk_frozen BK274.out 0
       have hfz18_1 := blk_frozen BK274.out 1
       have hfz18_2 := blk_frozen BK274.out 2
       have hfz18_3 := blk_frozen BK274.out 3
       go_wp2
       go_loopg [39] k2 (fun kq v39 w' => ∃ (x39_3 : Int), v39 = .int .i64 x39_3 ∧ Aside0 (spec_l3ShapeOK.l1 kq l0_3 (l0_3.length : Int) x39_3 = some r) ∧ Aside0 (kq ≤ k2) ∧ Aside0 (w'.heap[gb274]? = some (.cells #[.string a0_0, (.slice A0_1 l0_1.length c0_1), .int .i64 a0_2, (.slice A0_3 l0_3.length c0_3)] 41 (0, 0))) ∧ Aside0 (Below w.heap.size w w'))
       case atStart => exact ⟨(0), (by first | rfl | (simp; done) | (simp [*]; done)), H', ⟨Nat.le_refl _⟩, ⟨by (with_reducible repeat (first | refine blk_drewN ?_ _ | refine blk_drew ?_ | refine blk_alloc ?_ _)); exact BK274.out⟩, ⟨by repeat (first | (with_reducible first | exact HB.out | apply below_alloc | apply pw_below_drewN | apply below_drew1 | refine below_set ?_ GE274.out) | exact HB.out)⟩⟩
       case round =>
        clear H'
        try clear c1
        try clear p2
        try clear q2
        try clear hx2
        try clear c3
        try clear c5
        try clear p6
        try clear c7
        try clear c11
        try clear c13
        try clear c13b0
        try clear c14
        try clear c14b0
        try clear c15
        try clear c15b0
        try clear c17
        try clear hcz10_0
        try clear hcz10_1
        try clear hcz10_2
        try clear hcz10_3
        try clear hcz12_0
        try clear hcz12_1
        try clear hcz12_2
        try clear hcz12_3
        try clear hcz18_0
        try clear hcz18_1
        try clear hcz18_2
        try clear hcz18_3
        try clear hcz8_0
        try clear hcz8_1
        try clear hcz8_2
        try clear hcz8_3
        try clear hcz9_0
        try clear hcz9_1
        try clear hcz9_2
        try clear hcz9_3
        try clear hfz10_0
        try clear hfz10_1
        try clear hfz10_2
        try clear hfz10_3
        try clear hfz12_0
        try clear hfz12_1
        try clear hfz12_2
        try clear hfz12_3
        try clear hfz18_0
        try clear hfz18_1
        try clear hfz18_2
        try clear hfz18_3
        try clear hfz8_0
        try clear hfz8_1
        try clear hfz8_2
        try clear hfz8_3
        try clear hfz9_0
        try clear hfz9_1
        try clear hfz9_2
        try clear hfz9_3
        try clear hx277_0
        try clear p2
        try clear p277
        try clear q277
        obtain ⟨x39_3, rfl, HA, HK3, BK274, HB⟩ := hrel
        cases gk with
        | zero => exact absurd HA.out (by simp [spec_l3ShapeOK.l1])
        | succ k3 =>
         have H := HA.out
         clear HA
         simp only [spec_l3ShapeOK.l1] at H
         by_cases c19 : x39_3 < (l0_3.length : Int)
         ·rw [if_pos c19] at H
          have c19b0 : decide (x39_3 < (l0_3.length : Int)) = true := decide_eq_true c19
          clear c19
          by_cases c20 : 0 ≤ x39_3
          ·rw [if_pos c20] at H
           have c20b0 : decide (0 ≤ x39_3) = true := decide_eq_true c20
           clear c20
           by_cases c21 : x39_3 < (l0_3.length : Int)
           ·rw [if_pos c21] at H
            have c21b0 : decide (x39_3 < (l0_3.length : Int)) = true := decide_eq_true c21
            clear c21
            have HC22 := Aside0.mk H
            clear H
            have p279 : 0 ≤ (x39_3 : Int) := of_decide_eq_true (by first | (with_reducible assumption) | assumption)
            have q279 : x39_3 < (l0_3.length : Int) := of_decide_eq_true (by first | (with_reducible assumption) | assumption)
            obtain ⟨ad279, A279_1, c279_1, e279, hx279_0, hx279_1, hl279_1, hi279_1⟩ := at_T76 HR0_3.out x39_3 p279 q279
            cases e279
            replace hx279_0 := (HB.out.cell (World.block_lt_of_cell? w _ hx279_0)).trans hx279_0
            replace hx279_1 := (HB.out.cell (World.block_lt_of_cell? w _ hx279_1)).trans hx279_1
            have HR279_1 := Aside0.mk hi279_1
            have HC279_1 := Aside0.mk hl279_1
            clear hi279_1 hl279_1
            replace p279 := eq_true p279
            replace q279 := eq_true q279
            go_upto_region 12 with (first | ((with_reducible refine gate_dst (N := 6) rfl ?_); (try (refine gate_guard (by rfl) ?_; dsimp only)); refine box_event ?hg (N := 6) ?hd (cs := #[.string (⟨#[]⟩ : ByteArray), .slice none 0 0]) (t := 76) ?hr ?_; (case hd => rfl); (case hg => rfl); (case hr => first | (go_simp; done) | (go_simp; rfl)); intro gb280 hg w23 hbox hb; have n0_ := Aside0.mk (blk_below (g := gb274) (o := .cells #[.string a0_0, .slice A0_1 l0_1.length c0_1, .int .i64 a0_2, .slice (some ad279) l0_3.length c0_3] 41 (0, 0)) (by (with_reducible repeat (first | refine blk_drewN ?_ _ | refine blk_drew ?_ | refine blk_alloc ?_ _)); exact BK274.out) hb); have n1_ := Aside0.mk (below_step (by repeat (first | (with_reducible first | exact HB.out | apply below_alloc | apply pw_below_drewN | apply below_drew1 | refine below_set ?_ GE274.out) | exact HB.out)) hb); have n2_ := Aside0.mk (hbox); have n3_ := Aside0.mk ((by rw [hg]; exact (below_size (by repeat (first | (with_reducible first | exact HB.out | apply below_alloc | apply pw_below_drewN | apply below_drew1 | refine below_set ?_ GE274.out) | exact HB.out))) : w.heap.size ≤ gb280)); have n4_ := Aside0.mk ((by rw [hg]; exact (below_size (by repeat (first | (with_reducible first | exact HB.out | apply below_alloc | apply pw_below_drewN | apply below_drew1 | refine below_set ?_ GE274.out) | exact HB.out))) : w.heap.size ≤ gb280)); have n5_ := Aside0.mk ((by rw [hg]; exact Nat.ne_of_lt (blk_lt (g := gb274) (o := .cells #[.string a0_0, .slice A0_1 l0_1.length c0_1, .int .i64 a0_2, .slice (some ad279) l0_3.length c0_3] 41 (0, 0)) (by (with_reducible repeat (first | refine blk_drewN ?_ _ | refine blk_drew ?_ | refine blk_alloc ?_ _)); exact BK274.out)) : gb274 ≠ gb280)); have n6_ := Aside0.mk ((by rw [hg]; exact Nat.ne_of_gt (blk_lt (g := gb274) (o := .cells #[.string a0_0, .slice A0_1 l0_1.length c0_1, .int .i64 a0_2, .slice (some ad279) l0_3.length c0_3] 41 (0, 0)) (by (with_reducible repeat (first | refine blk_drewN ?_ _ | refine blk_drew ?_ | refine blk_alloc ?_ _)); exact BK274.out)) : gb280 ≠ gb274)); clear BK274; clear HB; have BK274 := n0_; have HB := n1_; have BK280 := n2_; have GW280 := n3_; have GE280 := n4_; have NB274_280 := n5_; have NB280_274 := n6_; clear n0_ n1_ n2_ n3_ n4_ n5_ n6_; clear hb hbox hg; have hnb24 := NB280_274.out; have hnc24 := NB274_280.out; have hcz25_0 : w23.cell? ⟨gb280, 0, none⟩ = some (.string (⟨#[]⟩ : ByteArray)) := (blk_cell BK280.out 0).trans rfl; have hcz25_1 : w23.cell? ⟨gb280, 1, none⟩ = some (.slice none 0 0) := (blk_cell BK280.out 1).trans rfl; have hfz25_0 := blk_frozen BK280.out 0; have hfz25_1 := blk_frozen BK280.out 1))
            (try simp only [Act.put, List.setIfInBounds_toArray, List.set_cons_zero, List.set_cons_succ])
            go_cut [52] (fun v52 wc => ∃ (kq : Nat) (x52_21 : Bool), v52 = .bool x52_21 ∧ Aside0 (spec_l3ShapeOK.j3 kq l0_3 (l0_3.length : Int) x39_3 x52_21 ((rd_T76 l0_3 x39_3).f0) ((rd_T76 l0_3 x39_3).f1) = some r) ∧ Aside0 (kq ≤ k3) ∧ Aside0 (wc.heap[gb274]? = some (.cells #[.string a0_0, (.slice A0_1 l0_1.length c0_1), .int .i64 a0_2, (.slice (some ad279) l0_3.length c0_3)] 41 (0, 0))) ∧ Aside0 (wc.heap[gb280]? = some (.cells #[.string ((rd_T76 l0_3 x39_3).f0), (.slice A279_1 ((rd_T76 l0_3 x39_3).f1).length c279_1)] 76 (0, 0))) ∧ Aside0 (Below w.heap.size w wc))
            case first =>
             have H := HC22.out
             clear HC22
             replace H := Option.bind_eq_some_iff.mp H
             obtain ⟨t281, A260, H⟩ := H
             replace H : (if t281 = true then (spec_l3ShapeOK.j3 k3 l0_3 (l0_3.length : Int) x39_3 (decide ((((rd_T76 l0_3 x39_3).f1).length : Int) < 1)) ((rd_T76 l0_3 x39_3).f0) ((rd_T76 l0_3 x39_3).f1)) else (spec_l3ShapeOK.j3 k3 l0_3 (l0_3.length : Int) x39_3 true ((rd_T76 l0_3 x39_3).f0) ((rd_T76 l0_3 x39_3).f1))) = some r := H
             have A26 := Aside0.mk A260
             clear A260
             by_cases c27 : t281 = true
             ·subst c27
              have H1 : (spec_l3ShapeOK.j3 k3 l0_3 (l0_3.length : Int) x39_3 (decide ((((rd_T76 l0_3 x39_3).f1).length : Int) < 1)) ((rd_T76 l0_3 x39_3).f0) ((rd_T76 l0_3 x39_3).f1)) = some r := by rw [if_pos rfl] at H; exact H
              clear H
              have H := H1
              clear H1
              have H' := Aside0.mk H
              clear H
              have hnb28 := NB280_274.out
              have hnc28 := NB274_280.out
              have hcz29_0 : w23.cell? ⟨gb280, 0, none⟩ = some (.string (⟨#[]⟩ : ByteArray)) := (blk_cell BK280.out 0).trans rfl
              have hcz29_1 : w23.cell? ⟨gb280, 1, none⟩ = some (.slice none 0 0) := (blk_cell BK280.out 1).trans rfl
              have hfz29_0 := blk_frozen BK280.out 0
              have hfz29_1 := blk_frozen BK280.out 1
              go_wp2_with (first | ((with_reducible refine gate_callee (f := 54) rfl ?_); refine goesL_ (some 45) rfl rfl Tryd.func54 (by kernel_rfl) rfl #[.string ((rd_T76 l0_3 x39_3).f0)] rfl (by (try simp only [List.map_toArray, List.map_cons, List.map_nil]); first | done | rfl | (simp only [List.length_drop, List.length_take]; rfl)) ?_; (with_reducible refine (spec_l2Name.calls k3 ((rd_T76 l0_3 x39_3).f0) true _ A26.out).mono ?_); rintro e w' ⟨rfl, ⟨nd, rfl⟩⟩; refine ⟨_, rfl, ?_⟩))
              go_meet
              case rel => exact ⟨_, (decide ((((rd_T76 l0_3 x39_3).f1).length : Int) < 1)), (by first | rfl | (simp; done) | (simp [*]; done)), H', ⟨by have := HJ1.out; have := HK2.out; have := HK3.out; first | omega | exact Nat.le_refl _⟩, ⟨by (with_reducible repeat (first | refine blk_drewN ?_ _ | refine blk_drew ?_ | refine blk_alloc ?_ _)); refine blk_far ?_ NB274_280.out _; (with_reducible repeat (first | refine blk_drewN ?_ _ | refine blk_drew ?_ | refine blk_alloc ?_ _)); refine blk_far ?_ NB274_280.out _; (with_reducible repeat (first | refine blk_drewN ?_ _ | refine blk_drew ?_ | refine blk_alloc ?_ _)); exact BK274.out⟩, ⟨by (with_reducible repeat (first | refine blk_drewN ?_ _ | refine blk_drew ?_ | refine blk_alloc ?_ _)); refine blk_put (cs := #[.string ((rd_T76 l0_3 x39_3).f0), .slice none 0 0]) ?_ 1 _ rfl; (with_reducible repeat (first | refine blk_drewN ?_ _ | refine blk_drew ?_ | refine blk_alloc ?_ _)); refine blk_put (cs := #[.string (⟨#[]⟩ : ByteArray), .slice none 0 0]) ?_ 0 _ rfl; (with_reducible repeat (first | refine blk_drewN ?_ _ | refine blk_drew ?_ | refine blk_alloc ?_ _)); exact BK280.out⟩, ⟨by repeat (first | (with_reducible first | exact HB.out | apply below_alloc | apply pw_below_drewN | apply below_drew1 | refine below_set ?_ GE274.out | refine below_set ?_ GE280.out) | exact HB.out)⟩⟩
             ·replace c27 := Bool.eq_false_iff.mpr c27
              subst c27
              have H1 : (spec_l3ShapeOK.j3 k3 l0_3 (l0_3.length : Int) x39_3 true ((rd_T76 l0_3 x39_3).f0) ((rd_T76 l0_3 x39_3).f1)) = some r := by rw [if_neg (show ¬ (false = true) by decide)] at H; exact H
              clear H
              have H := H1
              clear H1
              have H' := Aside0.mk H
              clear H
              have hnb30 := NB280_274.out
              have hnc30 := NB274_280.out
              have hcz31_0 : w23.cell? ⟨gb280, 0, none⟩ = some (.string (⟨#[]⟩ : ByteArray)) := (blk_cell BK280.out 0).trans rfl
              have hcz31_1 : w23.cell? ⟨gb280, 1, none⟩ = some (.slice none 0 0) := (blk_cell BK280.out 1).trans rfl
              have hfz31_0 := blk_frozen BK280.out 0
              have hfz31_1 := blk_frozen BK280.out 1
              go_wp2_with (first | ((with_reducible refine gate_callee (f := 54) rfl ?_); refine goesL_ (some 45) rfl rfl Tryd.func54 (by kernel_rfl) rfl #[.string ((rd_T76 l0_3 x39_3).f0)] rfl (by (try simp only [List.map_toArray, List.map_cons, List.map_nil]); first | done | rfl | (simp only [List.length_drop, List.length_take]; rfl)) ?_; (with_reducible refine (spec_l2Name.calls k3 ((rd_T76 l0_3 x39_3).f0) false _ A26.out).mono ?_); rintro e w' ⟨rfl, ⟨nd, rfl⟩⟩; refine ⟨_, rfl, ?_⟩))
              go_meet
              case rel => exact ⟨_, (true), (by first | rfl | (simp; done) | (simp [*]; done)), H', ⟨by have := HJ1.out; have := HK2.out; have := HK3.out; first | omega | exact Nat.le_refl _⟩, ⟨by (with_reducible repeat (first | refine blk_drewN ?_ _ | refine blk_drew ?_ | refine blk_alloc ?_ _)); refine blk_far ?_ NB274_280.out _; (with_reducible repeat (first | refine blk_drewN ?_ _ | refine blk_drew ?_ | refine blk_alloc ?_ _)); refine blk_far ?_ NB274_280.out _; (with_reducible repeat (first | refine blk_drewN ?_ _ | refine blk_drew ?_ | refine blk_alloc ?_ _)); exact BK274.out⟩, ⟨by (with_reducible repeat (first | refine blk_drewN ?_ _ | refine blk_drew ?_ | refine blk_alloc ?_ _)); refine blk_put (cs := #[.string ((rd_T76 l0_3 x39_3).f0), .slice none 0 0]) ?_ 1 _ rfl; (with_reducible repeat (first | refine blk_drewN ?_ _ | refine blk_drew ?_ | refine blk_alloc ?_ _)); refine blk_put (cs := #[.string (⟨#[]⟩ : ByteArray), .slice none 0 0]) ?_ 0 _ rfl; (with_reducible repeat (first | refine blk_drewN ?_ _ | refine blk_drew ?_ | refine blk_alloc ?_ _)); exact BK280.out⟩, ⟨by repeat (first | (with_reducible first | exact HB.out | apply below_alloc | apply pw_below_drewN | apply below_drew1 | refine below_set ?_ GE274.out | refine below_set ?_ GE280.out) | exact HB.out)⟩⟩
            case rest =>
             clear HC22
             try clear c1
             try clear c2
             try clear p2
             try clear q2
             try clear hx2
             try clear c3
             try clear c5
             try clear p6
             try clear c7
             try clear c11
             try clear c13
             try clear c13b0
             try clear c14
             try clear c14b0
             try clear c15
             try clear c15b0
             try clear c17
             try clear c19
             try clear c19b0
             try clear c20
             try clear c20b0
             try clear c21
             try clear c21b0
             try clear c24
             try clear c27
             try clear p27
             try clear q27
             try clear hx27
             try clear c28
             try clear c30
             try clear hcz10_0
             try clear hcz10_1
             try clear hcz10_2
             try clear hcz10_3
             try clear hcz12_0
             try clear hcz12_1
             try clear hcz12_2
             try clear hcz12_3
             try clear hcz18_0
             try clear hcz18_1
             try clear hcz18_2
             try clear hcz18_3
             try clear hcz25_0
             try clear hcz25_1
             try clear hcz29_0
             try clear hcz29_1
             try clear hcz31_0
             try clear hcz31_1
             try clear hcz8_0
             try clear hcz8_1
             try clear hcz8_2
             try clear hcz8_3
             try clear hcz9_0
             try clear hcz9_1
             try clear hcz9_2
             try clear hcz9_3
             try clear hfz10_0
             try clear hfz10_1
             try clear hfz10_2
             try clear hfz10_3
             try clear hfz12_0
             try clear hfz12_1
             try clear hfz12_2
             try clear hfz12_3
             try clear hfz18_0
             try clear hfz18_1
             try clear hfz18_2
             try clear hfz18_3
             try clear hfz25_0
             try clear hfz25_1
             try clear hfz29_0
             try clear hfz29_1
             try clear hfz31_0
             try clear hfz31_1
             try clear hfz8_0
             try clear hfz8_1
             try clear hfz8_2
             try clear hfz8_3
             try clear hfz9_0
             try clear hfz9_1
             try clear hfz9_2
             try clear hfz9_3
             try clear hx277_0
             try clear hx279_0
             try clear hx279_1
             try clear p2
             try clear p277
             try clear p279
             try clear p6
             try clear q2
             try clear q277
             try clear q279
             obtain ⟨kq, x52_21, rfl, HA, HJ21, BK274, BK280, HB⟩ := hcut
             cases kq with
             | zero => exact absurd HA.out (by simp [spec_l3ShapeOK.j3])
             | succ kj21 =>
              have H := HA.out
              clear HA
              simp only [spec_l3ShapeOK.j3] at H
              by_cases c32 : x52_21 = true
              ·subst c32
               have H1 : (some false) = some r := by rw [if_pos rfl] at H; exact H
               clear H
               have H := H1
               clear H1
               obtain rfl := Option.some.inj H
               go_wp2
               go_ret
               exact ⟨by first | rfl | (simp [errW_none, errW_some] <;> rfl) | (simp [*, errW_none, errW_some] <;> rfl), by repeat (first | (with_reducible first | exact HB.out | apply below_alloc | apply pw_below_drewN | apply below_drew1 | refine below_set ?_ GE274.out | refine below_set ?_ GE280.out) | exact HB.out)⟩
              ·replace c32 := Bool.eq_false_iff.mpr c32
               subst c32
               have H1 : (spec_l3ShapeOK.l2 kj21 l0_3 (l0_3.length : Int) x39_3 ((rd_T76 l0_3 x39_3).f1) (((rd_T76 l0_3 x39_3).f1).length : Int) 0) = some r := by rw [if_neg (show ¬ (false = true) by decide)] at H; exact H
               clear H
               have H := H1
               clear H1
               have H' := Aside0.mk H
               clear H
               have hnb33 := NB280_274.out
               have hnc33 := NB274_280.out
               have hcz34_0 : wc.cell? ⟨gb280, 0, none⟩ = some (.string ((rd_T76 l0_3 x39_3).f0)) := (blk_cell BK280.out 0).trans rfl
               have hcz34_1 : wc.cell? ⟨gb280, 1, none⟩ = some (.slice A279_1 ((rd_T76 l0_3 x39_3).f1).length c279_1) := (blk_cell BK280.out 1).trans rfl
               have hfz34_0 := blk_frozen BK280.out 0
               have hfz34_1 := blk_frozen BK280.out 1
               go_wp2
               go_loopg [56] kj21 (fun kq v56 w' => ∃ (x56_5 : Int), v56 = .int .i64 x56_5 ∧ Aside0 (spec_l3ShapeOK.l2 kq l0_3 (l0_3.length : Int) x39_3 ((rd_T76 l0_3 x39_3).f1) (((rd_T76 l0_3 x39_3).f1).length : Int) x56_5 = some r) ∧ Aside0 (kq ≤ kj21) ∧ Aside0 (w'.heap[gb274]? = some (.cells #[.string a0_0, (.slice A0_1 l0_1.length c0_1), .int .i64 a0_2, (.slice (some ad279) l0_3.length c0_3)] 41 (0, 0))) ∧ Aside0 (w'.heap[gb280]? = some (.cells #[.string ((rd_T76 l0_3 x39_3).f0), (.slice A279_1 ((rd_T76 l0_3 x39_3).f1).length c279_1)] 76 (0, 0))) ∧ Aside0 (Below w.heap.size w w'))
               case atStart => exact ⟨(0), (by first | rfl | (simp; done) | (simp [*]; done)), H', ⟨Nat.le_refl _⟩, ⟨by (with_reducible repeat (first | refine blk_drewN ?_ _ | refine blk_drew ?_ | refine blk_alloc ?_ _)); exact BK274.out⟩, ⟨by (with_reducible repeat (first | refine blk_drewN ?_ _ | refine blk_drew ?_ | refine blk_alloc ?_ _)); exact BK280.out⟩, ⟨by repeat (first | (with_reducible first | exact HB.out | apply below_alloc | apply pw_below_drewN | apply below_drew1 | refine below_set ?_ GE274.out | refine below_set ?_ GE280.out) | exact HB.out)⟩⟩
               case round =>
                clear H'
                try clear c1
                try clear c2
                try clear p2
                try clear q2
                try clear hx2
                try clear c3
                try clear c5
                try clear p6
                try clear c7
                try clear c11
                try clear c13
                try clear c13b0
                try clear c14
                try clear c14b0
                try clear c15
                try clear c15b0
                try clear c17
                try clear c19
                try clear c19b0
                try clear c20
                try clear c20b0
                try clear c21
                try clear c21b0
                try clear c24
                try clear c27
                try clear p27
                try clear q27
                try clear hx27
                try clear c28
                try clear c30
                try clear c32
                try clear c33
                try clear hcz10_0
                try clear hcz10_1
                try clear hcz10_2
                try clear hcz10_3
                try clear hcz12_0
                try clear hcz12_1
                try clear hcz12_2
                try clear hcz12_3
                try clear hcz18_0
                try clear hcz18_1
                try clear hcz18_2
                try clear hcz18_3
                try clear hcz25_0
                try clear hcz25_1
                try clear hcz29_0
                try clear hcz29_1
                try clear hcz31_0
                try clear hcz31_1
                try clear hcz34_0
                try clear hcz34_1
                try clear hcz8_0
                try clear hcz8_1
                try clear hcz8_2
                try clear hcz8_3
                try clear hcz9_0
                try clear hcz9_1
                try clear hcz9_2
                try clear hcz9_3
                try clear hfz10_0
                try clear hfz10_1
                try clear hfz10_2
                try clear hfz10_3
                try clear hfz12_0
                try clear hfz12_1
                try clear hfz12_2
                try clear hfz12_3
                try clear hfz18_0
                try clear hfz18_1
                try clear hfz18_2
                try clear hfz18_3
                try clear hfz25_0
                try clear hfz25_1
                try clear hfz29_0
                try clear hfz29_1
                try clear hfz31_0
                try clear hfz31_1
                try clear hfz34_0
                try clear hfz34_1
                try clear hfz8_0
                try clear hfz8_1
                try clear hfz8_2
                try clear hfz8_3
                try clear hfz9_0
                try clear hfz9_1
                try clear hfz9_2
                try clear hfz9_3
                try clear hx277_0
                try clear hx279_0
                try clear hx279_1
                try clear p2
                try clear p27
                try clear p277
                try clear p279
                try clear p6
                try clear q2
                try clear q27
                try clear q277
                try clear q279
                obtain ⟨x56_5, rfl, HA, HK5, BK274, BK280, HB⟩ := hrel
                cases gk with
                | zero => exact absurd HA.out (by simp [spec_l3ShapeOK.l2])
                | succ k5 =>
                 have H := HA.out
                 clear HA
                 simp only [spec_l3ShapeOK.l2] at H
                 by_cases c35 : x56_5 < (((rd_T76 l0_3 x39_3).f1).length : Int)
                 ·rw [if_pos c35] at H
                  have c35b0 : decide (x56_5 < (((rd_T76 l0_3 x39_3).f1).length : Int)) = true := decide_eq_true c35
                  clear c35
                  by_cases c36 : 0 ≤ x56_5
                  ·rw [if_pos c36] at H
                   have c36b0 : decide (0 ≤ x56_5) = true := decide_eq_true c36
                   clear c36
                   by_cases c37 : x56_5 < (((rd_T76 l0_3 x39_3).f1).length : Int)
                   ·rw [if_pos c37] at H
                    have c37b0 : decide (x56_5 < (((rd_T76 l0_3 x39_3).f1).length : Int)) = true := decide_eq_true c37
                    clear c37
                    have HC38 := Aside0.mk H
                    clear H
                    have p282 : 0 ≤ (x56_5 : Int) := of_decide_eq_true (by first | (with_reducible assumption) | assumption)
                    have q282 : x56_5 < (((rd_T76 l0_3 x39_3).f1).length : Int) := of_decide_eq_true (by first | (with_reducible assumption) | assumption)
                    obtain ⟨ad282, e282, hx282_0, hx282_1⟩ := at_T78 HR279_1.out x56_5 p282 q282
                    cases e282
                    replace hx282_0 := (HB.out.cell (World.block_lt_of_cell? w _ hx282_0)).trans hx282_0
                    replace hx282_1 := (HB.out.cell (World.block_lt_of_cell? w _ hx282_1)).trans hx282_1
                    replace p282 := eq_true p282
                    replace q282 := eq_true q282
                    go_upto_region 17 with (first | ((with_reducible refine gate_dst (N := 8) rfl ?_); (try (refine gate_guard (by rfl) ?_; dsimp only)); refine box_event ?hg (N := 8) ?hd (cs := #[.string (⟨#[]⟩ : ByteArray), .int .i64 0]) (t := 78) ?hr ?_; (case hd => rfl); (case hg => rfl); (case hr => first | (go_simp; done) | (go_simp; rfl)); intro gb283 hg w39 hbox hb; have n0_ := Aside0.mk (blk_below (g := gb274) (o := .cells #[.string a0_0, .slice A0_1 l0_1.length c0_1, .int .i64 a0_2, .slice (some ad279) l0_3.length c0_3] 41 (0, 0)) (by (with_reducible repeat (first | refine blk_drewN ?_ _ | refine blk_drew ?_ | refine blk_alloc ?_ _)); exact BK274.out) hb); have n1_ := Aside0.mk (blk_below (g := gb280) (o := .cells #[.string ((rd_T76 l0_3 x39_3).f0), .slice (some ad282) ((rd_T76 l0_3 x39_3).f1).length c279_1] 76 (0, 0)) (by (with_reducible repeat (first | refine blk_drewN ?_ _ | refine blk_drew ?_ | refine blk_alloc ?_ _)); exact BK280.out) hb); have n2_ := Aside0.mk (below_step (by repeat (first | (with_reducible first | exact HB.out | apply below_alloc | apply pw_below_drewN | apply below_drew1 | refine below_set ?_ GE274.out | refine below_set ?_ GE280.out) | exact HB.out)) hb); have n3_ := Aside0.mk (hbox); have n4_ := Aside0.mk ((by rw [hg]; exact (below_size (by repeat (first | (with_reducible first | exact HB.out | apply below_alloc | apply pw_below_drewN | apply below_drew1 | refine below_set ?_ GE274.out | refine below_set ?_ GE280.out) | exact HB.out))) : w.heap.size ≤ gb283)); have n5_ := Aside0.mk ((by rw [hg]; exact (below_size (by repeat (first | (with_reducible first | exact HB.out | apply below_alloc | apply pw_below_drewN | apply below_drew1 | refine below_set ?_ GE274.out | refine below_set ?_ GE280.out) | exact HB.out))) : w.heap.size ≤ gb283)); have n6_ := Aside0.mk ((by rw [hg]; exact Nat.ne_of_lt (blk_lt (g := gb274) (o := .cells #[.string a0_0, .slice A0_1 l0_1.length c0_1, .int .i64 a0_2, .slice (some ad279) l0_3.length c0_3] 41 (0, 0)) (by (with_reducible repeat (first | refine blk_drewN ?_ _ | refine blk_drew ?_ | refine blk_alloc ?_ _)); exact BK274.out)) : gb274 ≠ gb283)); have n7_ := Aside0.mk ((by rw [hg]; exact Nat.ne_of_gt (blk_lt (g := gb274) (o := .cells #[.string a0_0, .slice A0_1 l0_1.length c0_1, .int .i64 a0_2, .slice (some ad279) l0_3.length c0_3] 41 (0, 0)) (by (with_reducible repeat (first | refine blk_drewN ?_ _ | refine blk_drew ?_ | refine blk_alloc ?_ _)); exact BK274.out)) : gb283 ≠ gb274)); have n8_ := Aside0.mk ((by rw [hg]; exact Nat.ne_of_lt (blk_lt (g := gb280) (o := .cells #[.string ((rd_T76 l0_3 x39_3).f0), .slice (some ad282) ((rd_T76 l0_3 x39_3).f1).length c279_1] 76 (0, 0)) (by (with_reducible repeat (first | refine blk_drewN ?_ _ | refine blk_drew ?_ | refine blk_alloc ?_ _)); exact BK280.out)) : gb280 ≠ gb283)); have n9_ := Aside0.mk ((by rw [hg]; exact Nat.ne_of_gt (blk_lt (g := gb280) (o := .cells #[.string ((rd_T76 l0_3 x39_3).f0), .slice (some ad282) ((rd_T76 l0_3 x39_3).f1).length c279_1] 76 (0, 0)) (by (with_reducible repeat (first | refine blk_drewN ?_ _ | refine blk_drew ?_ | refine blk_alloc ?_ _)); exact BK280.out)) : gb283 ≠ gb280)); clear BK274; clear BK280; clear HB; have BK274 := n0_; have BK280 := n1_; have HB := n2_; have BK283 := n3_; have GW283 := n4_; have GE283 := n5_; have NB274_283 := n6_; have NB283_274 := n7_; have NB280_283 := n8_; have NB283_280 := n9_; clear n0_ n1_ n2_ n3_ n4_ n5_ n6_ n7_ n8_ n9_; clear hb hbox hg; have hnb40 := NB283_274.out; have hnc40 := NB274_283.out; have hnb41 := NB283_280.out; have hnc41 := NB280_283.out; have hcz42_0 : w39.cell? ⟨gb283, 0, none⟩ = some (.string (⟨#[]⟩ : ByteArray)) := (blk_cell BK283.out 0).trans rfl; have hcz42_1 : w39.cell? ⟨gb283, 1, none⟩ = some (.int .i64 0) := (blk_cell BK283.out 1).trans rfl; have hfz42_0 := blk_frozen BK283.out 0; have hfz42_1 := blk_frozen BK283.out 1))
                    (try simp only [Act.put, List.setIfInBounds_toArray, List.set_cons_zero, List.set_cons_succ])
                    go_cut [73] (fun v73 wc => ∃ (kq : Nat) (x73_37 : Bool), v73 = .bool x73_37 ∧ Aside0 (spec_l3ShapeOK.j5 kq l0_3 (l0_3.length : Int) x39_3 ((rd_T76 l0_3 x39_3).f1) (((rd_T76 l0_3 x39_3).f1).length : Int) x56_5 x73_37 ((rd_T78 ((rd_T76 l0_3 x39_3).f1) x56_5).f0) ((rd_T78 ((rd_T76 l0_3 x39_3).f1) x56_5).f1) = some r) ∧ Aside0 (kq ≤ k5) ∧ Aside0 (wc.heap[gb274]? = some (.cells #[.string a0_0, (.slice A0_1 l0_1.length c0_1), .int .i64 a0_2, (.slice (some ad279) l0_3.length c0_3)] 41 (0, 0))) ∧ Aside0 (wc.heap[gb280]? = some (.cells #[.string ((rd_T76 l0_3 x39_3).f0), (.slice (some ad282) ((rd_T76 l0_3 x39_3).f1).length c279_1)] 76 (0, 0))) ∧ Aside0 (wc.heap[gb283]? = some (.cells #[.string ((rd_T78 ((rd_T76 l0_3 x39_3).f1) x56_5).f0), .int .i64 ((rd_T78 ((rd_T76 l0_3 x39_3).f1) x56_5).f1)] 78 (0, 0))) ∧ Aside0 (Below w.heap.size w wc))
                    case first =>
                     have H := HC38.out
                     clear HC38
                     by_cases c43 : ((rd_T78 ((rd_T76 l0_3 x39_3).f1) x56_5).f0).toList = ([] : List UInt8)
                     ·rw [if_pos c43] at H
                      have c43b0 : (((rd_T78 ((rd_T76 l0_3 x39_3).f1) x56_5).f0).toList == ([] : List UInt8)) = true := beq_iff_eq.mpr c43
                      have c43b1 : (((rd_T78 ((rd_T76 l0_3 x39_3).f1) x56_5).f0).toList != ([] : List UInt8)) = false := bne_eq_false_iff_eq.mpr c43
                      clear c43
                      (first | rw [c43b0] | (simp only [i64_w, i32_w]; rw [c43b0]) | skip)
                      have H' := Aside0.mk H
                      clear H
                      have hnb44 := NB283_274.out
                      have hnc44 := NB274_283.out
                      have hnb45 := NB283_280.out
                      have hnc45 := NB280_283.out
                      have hcz46_0 : w39.cell? ⟨gb283, 0, none⟩ = some (.string (⟨#[]⟩ : ByteArray)) := (blk_cell BK283.out 0).trans rfl
                      have hcz46_1 : w39.cell? ⟨gb283, 1, none⟩ = some (.int .i64 0) := (blk_cell BK283.out 1).trans rfl
                      have hfz46_0 := blk_frozen BK283.out 0
                      have hfz46_1 := blk_frozen BK283.out 1
                      go_wp2
                      go_meet
                      case rel => exact ⟨_, (false), (by first | rfl | (simp; done) | (simp [*]; done)), H', ⟨by have := HJ1.out; have := HK2.out; have := HK3.out; have := HJ21.out; have := HK5.out; first | omega | exact Nat.le_refl _⟩, ⟨by (with_reducible repeat (first | refine blk_drewN ?_ _ | refine blk_drew ?_ | refine blk_alloc ?_ _)); refine blk_far ?_ NB274_283.out _; (with_reducible repeat (first | refine blk_drewN ?_ _ | refine blk_drew ?_ | refine blk_alloc ?_ _)); refine blk_far ?_ NB274_283.out _; (with_reducible repeat (first | refine blk_drewN ?_ _ | refine blk_drew ?_ | refine blk_alloc ?_ _)); exact BK274.out⟩, ⟨by (with_reducible repeat (first | refine blk_drewN ?_ _ | refine blk_drew ?_ | refine blk_alloc ?_ _)); refine blk_far ?_ NB280_283.out _; (with_reducible repeat (first | refine blk_drewN ?_ _ | refine blk_drew ?_ | refine blk_alloc ?_ _)); refine blk_far ?_ NB280_283.out _; (with_reducible repeat (first | refine blk_drewN ?_ _ | refine blk_drew ?_ | refine blk_alloc ?_ _)); exact BK280.out⟩, ⟨by (with_reducible repeat (first | refine blk_drewN ?_ _ | refine blk_drew ?_ | refine blk_alloc ?_ _)); refine blk_put (cs := #[.string ((rd_T78 ((rd_T76 l0_3 x39_3).f1) x56_5).f0), .int .i64 0]) ?_ 1 _ rfl; (with_reducible repeat (first | refine blk_drewN ?_ _ | refine blk_drew ?_ | refine blk_alloc ?_ _)); refine blk_put (cs := #[.string (⟨#[]⟩ : ByteArray), .int .i64 0]) ?_ 0 _ rfl; (with_reducible repeat (first | refine blk_drewN ?_ _ | refine blk_drew ?_ | refine blk_alloc ?_ _)); exact BK283.out⟩, ⟨by repeat (first | (with_reducible first | exact HB.out | apply below_alloc | apply pw_below_drewN | apply below_drew1 | refine below_set ?_ GE274.out | refine below_set ?_ GE280.out | refine below_set ?_ GE283.out) | exact HB.out)⟩⟩
                     ·rw [if_neg c43] at H
                      have c43b0 : (((rd_T78 ((rd_T76 l0_3 x39_3).f1) x56_5).f0).toList == ([] : List UInt8)) = false := beq_eq_false_iff_ne.mpr c43
                      have c43b1 : (((rd_T78 ((rd_T76 l0_3 x39_3).f1) x56_5).f0).toList != ([] : List UInt8)) = true := bne_iff_ne.mpr c43
                      (first | rw [c43b0] | (simp only [i64_w, i32_w]; rw [c43b0]) | skip)
                      replace H := Option.bind_eq_some_iff.mp H
                      obtain ⟨t284, A470, H⟩ := H
                      replace H : (if t284 = true then (spec_l3ShapeOK.j5 k5 l0_3 (l0_3.length : Int) x39_3 ((rd_T76 l0_3 x39_3).f1) (((rd_T76 l0_3 x39_3).f1).length : Int) x56_5 (((rd_T78 ((rd_T76 l0_3 x39_3).f1) x56_5).f1) != 0) ((rd_T78 ((rd_T76 l0_3 x39_3).f1) x56_5).f0) ((rd_T78 ((rd_T76 l0_3 x39_3).f1) x56_5).f1)) else (spec_l3ShapeOK.j5 k5 l0_3 (l0_3.length : Int) x39_3 ((rd_T76 l0_3 x39_3).f1) (((rd_T76 l0_3 x39_3).f1).length : Int) x56_5 true ((rd_T78 ((rd_T76 l0_3 x39_3).f1) x56_5).f0) ((rd_T78 ((rd_T76 l0_3 x39_3).f1) x56_5).f1))) = some r := H
                      have A47 := Aside0.mk A470
                      clear A470
                      by_cases c48 : t284 = true
                      ·subst c48
                       have H1 : (spec_l3ShapeOK.j5 k5 l0_3 (l0_3.length : Int) x39_3 ((rd_T76 l0_3 x39_3).f1) (((rd_T76 l0_3 x39_3).f1).length : Int) x56_5 (((rd_T78 ((rd_T76 l0_3 x39_3).f1) x56_5).f1) != 0) ((rd_T78 ((rd_T76 l0_3 x39_3).f1) x56_5).f0) ((rd_T78 ((rd_T76 l0_3 x39_3).f1) x56_5).f1)) = some r := by rw [if_pos rfl] at H; exact H
                       clear H
                       have H := H1
                       clear H1
                       have H' := Aside0.mk H
                       clear H
                       have hnb49 := NB283_274.out
                       have hnc49 := NB274_283.out
                       have hnb50 := NB283_280.out
                       have hnc50 := NB280_283.out
                       have hcz51_0 : w39.cell? ⟨gb283, 0, none⟩ = some (.string (⟨#[]⟩ : ByteArray)) := (blk_cell BK283.out 0).trans rfl
                       have hcz51_1 : w39.cell? ⟨gb283, 1, none⟩ = some (.int .i64 0) := (blk_cell BK283.out 1).trans rfl
                       have hfz51_0 := blk_frozen BK283.out 0
                       have hfz51_1 := blk_frozen BK283.out 1
                       go_wp2_with (first | (go_at_call 54; (with_reducible refine (spec_l2Name.calls k5 ((rd_T78 ((rd_T76 l0_3 x39_3).f1) x56_5).f0) true _ A47.out).mono ?_); rintro e w' ⟨rfl, ⟨nd, rfl⟩⟩))
                       go_meet
                       case rel => exact ⟨_, ((((rd_T78 ((rd_T76 l0_3 x39_3).f1) x56_5).f1) != 0)), (by first | rfl | (simp; done) | (simp [*]; done)), H', ⟨by have := HJ1.out; have := HK2.out; have := HK3.out; have := HJ21.out; have := HK5.out; first | omega | exact Nat.le_refl _⟩, ⟨by (with_reducible repeat (first | refine blk_drewN ?_ _ | refine blk_drew ?_ | refine blk_alloc ?_ _)); refine blk_far ?_ NB274_283.out _; (with_reducible repeat (first | refine blk_drewN ?_ _ | refine blk_drew ?_ | refine blk_alloc ?_ _)); refine blk_far ?_ NB274_283.out _; (with_reducible repeat (first | refine blk_drewN ?_ _ | refine blk_drew ?_ | refine blk_alloc ?_ _)); exact BK274.out⟩, ⟨by (with_reducible repeat (first | refine blk_drewN ?_ _ | refine blk_drew ?_ | refine blk_alloc ?_ _)); refine blk_far ?_ NB280_283.out _; (with_reducible repeat (first | refine blk_drewN ?_ _ | refine blk_drew ?_ | refine blk_alloc ?_ _)); refine blk_far ?_ NB280_283.out _; (with_reducible repeat (first | refine blk_drewN ?_ _ | refine blk_drew ?_ | refine blk_alloc ?_ _)); exact BK280.out⟩, ⟨by (with_reducible repeat (first | refine blk_drewN ?_ _ | refine blk_drew ?_ | refine blk_alloc ?_ _)); refine blk_put (cs := #[.string ((rd_T78 ((rd_T76 l0_3 x39_3).f1) x56_5).f0), .int .i64 0]) ?_ 1 _ rfl; (with_reducible repeat (first | refine blk_drewN ?_ _ | refine blk_drew ?_ | refine blk_alloc ?_ _)); refine blk_put (cs := #[.string (⟨#[]⟩ : ByteArray), .int .i64 0]) ?_ 0 _ rfl; (with_reducible repeat (first | refine blk_drewN ?_ _ | refine blk_drew ?_ | refine blk_alloc ?_ _)); exact BK283.out⟩, ⟨by repeat (first | (with_reducible first | exact HB.out | apply below_alloc | apply pw_below_drewN | apply below_drew1 | refine below_set ?_ GE274.out | refine below_set ?_ GE280.out | refine below_set ?_ GE283.out) | exact HB.out)⟩⟩
                      ·replace c48 := Bool.eq_false_iff.mpr c48
                       subst c48
                       have H1 : (spec_l3ShapeOK.j5 k5 l0_3 (l0_3.length : Int) x39_3 ((rd_T76 l0_3 x39_3).f1) (((rd_T76 l0_3 x39_3).f1).length : Int) x56_5 true ((rd_T78 ((rd_T76 l0_3 x39_3).f1) x56_5).f0) ((rd_T78 ((rd_T76 l0_3 x39_3).f1) x56_5).f1)) = some r := by rw [if_neg (show ¬ (false = true) by decide)] at H; exact H
                       clear H
                       have H := H1
                       clear H1
                       have H' := Aside0.mk H
                       clear H
                       have hnb52 := NB283_274.out
                       have hnc52 := NB274_283.out
                       have hnb53 := NB283_280.out
                       have hnc53 := NB280_283.out
                       have hcz54_0 : w39.cell? ⟨gb283, 0, none⟩ = some (.string (⟨#[]⟩ : ByteArray)) := (blk_cell BK283.out 0).trans rfl
                       have hcz54_1 : w39.cell? ⟨gb283, 1, none⟩ = some (.int .i64 0) := (blk_cell BK283.out 1).trans rfl
                       have hfz54_0 := blk_frozen BK283.out 0
                       have hfz54_1 := blk_frozen BK283.out 1
                       go_wp2_with (first | (go_at_call 54; (with_reducible refine (spec_l2Name.calls k5 ((rd_T78 ((rd_T76 l0_3 x39_3).f1) x56_5).f0) false _ A47.out).mono ?_); rintro e w' ⟨rfl, ⟨nd, rfl⟩⟩))
                       go_meet
                       case rel => exact ⟨_, (true), (by first | rfl | (simp; done) | (simp [*]; done)), H', ⟨by have := HJ1.out; have := HK2.out; have := HK3.out; have := HJ21.out; have := HK5.out; first | omega | exact Nat.le_refl _⟩, ⟨by (with_reducible repeat (first | refine blk_drewN ?_ _ | refine blk_drew ?_ | refine blk_alloc ?_ _)); refine blk_far ?_ NB274_283.out _; (with_reducible repeat (first | refine blk_drewN ?_ _ | refine blk_drew ?_ | refine blk_alloc ?_ _)); refine blk_far ?_ NB274_283.out _; (with_reducible repeat (first | refine blk_drewN ?_ _ | refine blk_drew ?_ | refine blk_alloc ?_ _)); exact BK274.out⟩, ⟨by (with_reducible repeat (first | refine blk_drewN ?_ _ | refine blk_drew ?_ | refine blk_alloc ?_ _)); refine blk_far ?_ NB280_283.out _; (with_reducible repeat (first | refine blk_drewN ?_ _ | refine blk_drew ?_ | refine blk_alloc ?_ _)); refine blk_far ?_ NB280_283.out _; (with_reducible repeat (first | refine blk_drewN ?_ _ | refine blk_drew ?_ | refine blk_alloc ?_ _)); exact BK280.out⟩, ⟨by (with_reducible repeat (first | refine blk_drewN ?_ _ | refine blk_drew ?_ | refine blk_alloc ?_ _)); refine blk_put (cs := #[.string ((rd_T78 ((rd_T76 l0_3 x39_3).f1) x56_5).f0), .int .i64 0]) ?_ 1 _ rfl; (with_reducible repeat (first | refine blk_drewN ?_ _ | refine blk_drew ?_ | refine blk_alloc ?_ _)); refine blk_put (cs := #[.string (⟨#[]⟩ : ByteArray), .int .i64 0]) ?_ 0 _ rfl; (with_reducible repeat (first | refine blk_drewN ?_ _ | refine blk_drew ?_ | refine blk_alloc ?_ _)); exact BK283.out⟩, ⟨by repeat (first | (with_reducible first | exact HB.out | apply below_alloc | apply pw_below_drewN | apply below_drew1 | refine below_set ?_ GE274.out | refine below_set ?_ GE280.out | refine below_set ?_ GE283.out) | exact HB.out)⟩⟩
                    case rest =>
                     clear HC38
                     try clear c1
                     try clear c2
                     try clear p2
                     try clear q2
                     try clear hx2
                     try clear c3
                     try clear c4
                     try clear c5
                     try clear p6
                     try clear c7
                     try clear c11
                     try clear c13
                     try clear c13b0
                     try clear c14
                     try clear c14b0
                     try clear c15
                     try clear c15b0
                     try clear c17
                     try clear c19
                     try clear c19b0
                     try clear c20
                     try clear c20b0
                     try clear c21
                     try clear c21b0
                     try clear c24
                     try clear c27
                     try clear p27
                     try clear q27
                     try clear hx27
                     try clear c28
                     try clear p28
                     try clear q28
                     try clear hx28
                     try clear c30
                     try clear c32
                     try clear c33
                     try clear c35
                     try clear c35b0
                     try clear c36
                     try clear c36b0
                     try clear c37
                     try clear c37b0
                     try clear c40
                     try clear c41
                     try clear c43
                     try clear c43b0
                     try clear c43b1
                     try clear c44
                     try clear c45
                     try clear c48
                     try clear c49
                     try clear c50
                     try clear c52
                     try clear c53
                     try clear c54
                     try clear hcz10_0
                     try clear hcz10_1
                     try clear hcz10_2
                     try clear hcz10_3
                     try clear hcz12_0
                     try clear hcz12_1
                     try clear hcz12_2
                     try clear hcz12_3
                     try clear hcz18_0
                     try clear hcz18_1
                     try clear hcz18_2
                     try clear hcz18_3
                     try clear hcz25_0
                     try clear hcz25_1
                     try clear hcz29_0
                     try clear hcz29_1
                     try clear hcz31_0
                     try clear hcz31_1
                     try clear hcz34_0
                     try clear hcz34_1
                     try clear hcz42_0
                     try clear hcz42_1
                     try clear hcz46_0
                     try clear hcz46_1
                     try clear hcz51_0
                     try clear hcz51_1
                     try clear hcz54_0
                     try clear hcz54_1
                     try clear hcz8_0
                     try clear hcz8_1
                     try clear hcz8_2
                     try clear hcz8_3
                     try clear hcz9_0
                     try clear hcz9_1
                     try clear hcz9_2
                     try clear hcz9_3
                     try clear hfz10_0
                     try clear hfz10_1
                     try clear hfz10_2
                     try clear hfz10_3
                     try clear hfz12_0
                     try clear hfz12_1
                     try clear hfz12_2
                     try clear hfz12_3
                     try clear hfz18_0
                     try clear hfz18_1
                     try clear hfz18_2
                     try clear hfz18_3
                     try clear hfz25_0
                     try clear hfz25_1
                     try clear hfz29_0
                     try clear hfz29_1
                     try clear hfz31_0
                     try clear hfz31_1
                     try clear hfz34_0
                     try clear hfz34_1
                     try clear hfz42_0
                     try clear hfz42_1
                     try clear hfz46_0
                     try clear hfz46_1
                     try clear hfz51_0
                     try clear hfz51_1
                     try clear hfz54_0
                     try clear hfz54_1
                     try clear hfz8_0
                     try clear hfz8_1
                     try clear hfz8_2
                     try clear hfz8_3
                     try clear hfz9_0
                     try clear hfz9_1
                     try clear hfz9_2
                     try clear hfz9_3
                     try clear hx277_0
                     try clear hx279_0
                     try clear hx279_1
                     try clear hx282_0
                     try clear hx282_1
                     try clear p2
                     try clear p27
                     try clear p277
                     try clear p279
                     try clear p282
                     try clear p6
                     try clear q2
                     try clear q27
                     try clear q277
                     try clear q279
                     try clear q282
                     obtain ⟨kq, x73_37, rfl, HA, HJ37, BK274, BK280, BK283, HB⟩ := hcut
                     cases kq with
                     | zero => exact absurd HA.out (by simp [spec_l3ShapeOK.j5])
                     | succ kj37 =>
                      have H := HA.out
                      clear HA
                      simp only [spec_l3ShapeOK.j5] at H
                      by_cases c55 : x73_37 = true
                      ·subst c55
                       have H1 : (some false) = some r := by rw [if_pos rfl] at H; exact H
                       clear H
                       have H := H1
                       clear H1
                       obtain rfl := Option.some.inj H
                       go_wp2
                       go_ret
                       exact ⟨by first | rfl | (simp [errW_none, errW_some] <;> rfl) | (simp [*, errW_none, errW_some] <;> rfl), by repeat (first | (with_reducible first | exact HB.out | apply below_alloc | apply pw_below_drewN | apply below_drew1 | refine below_set ?_ GE274.out | refine below_set ?_ GE280.out | refine below_set ?_ GE283.out) | exact HB.out)⟩
                      ·replace c55 := Bool.eq_false_iff.mpr c55
                       subst c55
                       have H1 : ((spec_l1Between.f ((rd_T78 ((rd_T76 l0_3 x39_3).f1) x56_5).f1) 0 1000000).bind fun t285 => (if t285 = true then (spec_l3ShapeOK.l2 kj37 l0_3 (l0_3.length : Int) x39_3 ((rd_T76 l0_3 x39_3).f1) (((rd_T76 l0_3 x39_3).f1).length : Int) (wrap64 (x56_5 + 1))) else (some false))) = some r := by rw [if_neg (show ¬ (false = true) by decide)] at H; exact H
                       clear H
                       have H := H1
                       clear H1
                       replace H := Option.bind_eq_some_iff.mp H
                       obtain ⟨t285, A560, H⟩ := H
                       replace H : (if t285 = true then (spec_l3ShapeOK.l2 kj37 l0_3 (l0_3.length : Int) x39_3 ((rd_T76 l0_3 x39_3).f1) (((rd_T76 l0_3 x39_3).f1).length : Int) (wrap64 (x56_5 + 1))) else (some false)) = some r := H
                       have A56 := Aside0.mk A560
                       clear A560
                       by_cases c57 : t285 = true
                       ·subst c57
                        have H1 : (spec_l3ShapeOK.l2 kj37 l0_3 (l0_3.length : Int) x39_3 ((rd_T76 l0_3 x39_3).f1) (((rd_T76 l0_3 x39_3).f1).length : Int) (wrap64 (x56_5 + 1))) = some r := by rw [if_pos rfl] at H; exact H
                        clear H
                        have H := H1
                        clear H1
                        have H' := Aside0.mk H
                        clear H
                        have hnb58 := NB283_274.out
                        have hnc58 := NB274_283.out
                        have hnb59 := NB283_280.out
                        have hnc59 := NB280_283.out
                        have hcz60_0 : wc.cell? ⟨gb283, 0, none⟩ = some (.string ((rd_T78 ((rd_T76 l0_3 x39_3).f1) x56_5).f0)) := (blk_cell BK283.out 0).trans rfl
                        have hcz60_1 : wc.cell? ⟨gb283, 1, none⟩ = some (.int .i64 ((rd_T78 ((rd_T76 l0_3 x39_3).f1) x56_5).f1)) := (blk_cell BK283.out 1).trans rfl
                        have hfz60_0 := blk_frozen BK283.out 0
                        have hfz60_1 := blk_frozen BK283.out 1
                        go_wp2_with (first | ((with_reducible refine gate_callee (f := 55) rfl ?_); refine goesL_ (some 76) rfl rfl Tryd.func55 (by kernel_rfl) rfl #[.int .i64 ((rd_T78 ((rd_T76 l0_3 x39_3).f1) x56_5).f1), .int .i64 0, .int .i64 1000000] rfl (by (try simp only [List.map_toArray, List.map_cons, List.map_nil]); first | done | rfl | (simp only [List.length_drop, List.length_take]; rfl)) ?_; (with_reducible refine (spec_l1Between.calls ((rd_T78 ((rd_T76 l0_3 x39_3).f1) x56_5).f1) 0 1000000 true _ A56.out).mono ?_); rintro e w' ⟨rfl, ⟨nd, rfl⟩⟩; refine ⟨_, rfl, ?_⟩))
                        go_roundg kj37
                        case measure => have := HJ1.out; have := HK2.out; have := HK3.out; have := HJ21.out; have := HK5.out; have := HJ37.out; omega
                        case rel => exact ⟨(wrap64 (x56_5 + 1)), (by first | rfl | (simp; done) | (simp [*]; done)), H', ⟨by have := HJ1.out; have := HK2.out; have := HK3.out; have := HJ21.out; have := HK5.out; have := HJ37.out; omega⟩, ⟨by (with_reducible repeat (first | refine blk_drewN ?_ _ | refine blk_drew ?_ | refine blk_alloc ?_ _)); exact BK274.out⟩, ⟨by (with_reducible repeat (first | refine blk_drewN ?_ _ | refine blk_drew ?_ | refine blk_alloc ?_ _)); exact BK280.out⟩, ⟨by repeat (first | (with_reducible first | exact HB.out | apply below_alloc | apply pw_below_drewN | apply below_drew1 | refine below_set ?_ GE274.out | refine below_set ?_ GE280.out | refine below_set ?_ GE283.out) | exact HB.out)⟩⟩
                       ·replace c57 := Bool.eq_false_iff.mpr c57
                        subst c57
                        have H1 : (some false) = some r := by rw [if_neg (show ¬ (false = true) by decide)] at H; exact H
                        clear H
                        have H := H1
                        clear H1
                        obtain rfl := Option.some.inj H
                        have hnb61 := NB283_274.out
                        have hnc61 := NB274_283.out
                        have hnb62 := NB283_280.out
                        have hnc62 := NB280_283.out
                        have hcz63_0 : wc.cell? ⟨gb283, 0, none⟩ = some (.string ((rd_T78 ((rd_T76 l0_3 x39_3).f1) x56_5).f0)) := (blk_cell BK283.out 0).trans rfl
                        have hcz63_1 : wc.cell? ⟨gb283, 1, none⟩ = some (.int .i64 ((rd_T78 ((rd_T76 l0_3 x39_3).f1) x56_5).f1)) := (blk_cell BK283.out 1).trans rfl
                        have hfz63_0 := blk_frozen BK283.out 0
                        have hfz63_1 := blk_frozen BK283.out 1
                        go_wp2_with (first | ((with_reducible refine gate_callee (f := 55) rfl ?_); refine goesL_ (some 76) rfl rfl Tryd.func55 (by kernel_rfl) rfl #[.int .i64 ((rd_T78 ((rd_T76 l0_3 x39_3).f1) x56_5).f1), .int .i64 0, .int .i64 1000000] rfl (by (try simp only [List.map_toArray, List.map_cons, List.map_nil]); first | done | rfl | (simp only [List.length_drop, List.length_take]; rfl)) ?_; (with_reducible refine (spec_l1Between.calls ((rd_T78 ((rd_T76 l0_3 x39_3).f1) x56_5).f1) 0 1000000 false _ A56.out).mono ?_); rintro e w' ⟨rfl, ⟨nd, rfl⟩⟩; refine ⟨_, rfl, ?_⟩))
                        go_ret
                        exact ⟨by first | rfl | (simp [errW_none, errW_some] <;> rfl) | (simp [*, errW_none, errW_some] <;> rfl), by repeat (first | (with_reducible first | exact HB.out | apply below_alloc | apply pw_below_drewN | apply below_drew1 | refine below_set ?_ GE274.out | refine below_set ?_ GE280.out | refine below_set ?_ GE283.out) | exact HB.out)⟩
                   ·rw [if_neg c37] at H
                    exact absurd H (by simp)
                  ·rw [if_neg c36] at H
                   exact absurd H (by simp)
                 ·rw [if_neg c35] at H
                  have c35b0 : decide (x56_5 < (((rd_T76 l0_3 x39_3).f1).length : Int)) = false := decide_eq_false c35
                  clear c35
                  have H' := Aside0.mk H
                  clear H
                  go_wp2
                  go_roundg k5
                  case measure => have := HJ1.out; have := HK2.out; have := HK3.out; have := HJ21.out; have := HK5.out; omega
                  case rel => exact ⟨(wrap64 (x39_3 + 1)), (by first | rfl | (simp; done) | (simp [*]; done)), H', ⟨by have := HJ1.out; have := HK2.out; have := HK3.out; have := HJ21.out; have := HK5.out; omega⟩, ⟨by (with_reducible repeat (first | refine blk_drewN ?_ _ | refine blk_drew ?_ | refine blk_alloc ?_ _)); exact BK274.out⟩, ⟨by repeat (first | (with_reducible first | exact HB.out | apply below_alloc | apply pw_below_drewN | apply below_drew1 | refine below_set ?_ GE274.out | refine below_set ?_ GE280.out) | exact HB.out)⟩⟩
           ·rw [if_neg c21] at H
            exact absurd H (by simp)
          ·rw [if_neg c20] at H
           exact absurd H (by simp)
         ·rw [if_neg c19] at H
          have c19b0 : decide (x39_3 < (l0_3.length : Int)) = false := decide_eq_false c19
          clear c19
          obtain rfl := Option.some.inj H
          go_wp2
          go_ret
          exact ⟨by first | rfl | (simp [errW_none, errW_some] <;> rfl) | (simp [*, errW_none, errW_some] <;> rfl), by repeat (first | (with_reducible first | exact HB.out | apply below_alloc | apply pw_below_drewN | apply below_drew1 | refine below_set ?_ GE274.out) | exact HB.out)⟩
end Go.Proofs.YtjlglimikbfgmaaDoor.P
namespace Go.Proofs.YtjlglimikbfgmaaDoor.PT
open Go.RowKit Go.Proofs.YtjlglimikbfgmaaDoor.P Go.Proofs.YtjlglimikbfgmaaDoorW.PrintWords Go.Proofs.YtjlglimikbfgmaaDoorW.PrintLast Go.Proofs.YtjlglimikbfgmaaDoor.EvKit
set_option linter.unusedSimpArgs false
set_option linter.unusedVariables false
abbrev Tm := S78
abbrev At := S76
abbrev LTm := S184
abbrev LAt := S117
theorem rdOf_at {l : List ByteArray} {i : Nat} (h : i < l.length) : rdOf ByteArray.empty l (i : Int) = l[i] := getD_at _ h
noncomputable def termB (t : Tm) : Bool := inV t.f1 && (decide (t.f0.size = 0) || (nameb t.f0 && t.f1 == 0))
noncomputable def atomB (a : At) : Bool := nameb a.f0 && decide (a.f1.length ≠ 0) && a.f1.all termB
noncomputable def shapeB (name : ByteArray) (head : List ByteArray) (ring : Int) (l : List At) : Bool := nameb name && decide (l.length ≠ 0) && decide (0 ≤ ring ∧ ring ≤ 3) && (head.all nameb && l.all atomB)
theorem termOk_ev (t : Tm) : Ev (fun k => impl_Term_ok.f k t.f0 t.f1) (termB t) := by
  unfold impl_Term_ok.f termB
  refine Ev.val (within_V _) ?_
  cases h : inV t.f1 with
  | false => exact Ev.neg (by simp) (Ev.now _)
  | true =>
    refine Ev.pos rfl ?_
    by_cases h0 : t.f0.size = 0
    · exact Ev.to (Ev.pos ((toList_nil _).2 h0) (Ev.now _)) (by simp [h0])
    · refine Ev.neg (fun e => h0 ((toList_nil _).1 e)) (Ev.bind (isName_ev _) ?_)
      simp only [h0, decide_false, Bool.false_or, Bool.true_and]
      cases h2 : nameb t.f0 with
      | false => exact Ev.neg (by simp) (Ev.now _)
      | true => exact Ev.pos rfl (Ev.now _)
theorem shape1_ev (t : Tm) : Ev (fun k => impl_Query_shape_1.f k t.f0 t.f1) (!termB t) := by
  unfold impl_Query_shape_1.f
  exact Ev.bind (termOk_ev t) (Ev.now _)
def idxv (p : Tm → Bool) : List Tm → Nat → Int
  | [], _ => -1
  | t :: r, i => if p t = true then i else idxv p r (i + 1)
theorem idxv_iff (p : Tm → Bool) : ∀ (l : List Tm) (i : Nat), 0 ≤ idxv (fun t => !p t) l i ↔ ¬ l.all p = true
  | [], i => by simp [idxv]
  | t :: r, i => by
    by_cases h : p t = true
    · have e : idxv (fun t => !p t) (t :: r) i = idxv (fun t => !p t) r (i + 1) := if_neg (by simp [h])
      rw [e, idxv_iff p r (i + 1), List.all_cons, h, Bool.true_and]
    · have e : idxv (fun t => !p t) (t :: r) i = (i : Int) := if_pos (by simpa using h)
      rw [e, List.all_cons]
      simp [h]
theorem idxv_all (p : Tm → Bool) (l : List Tm) (i : Nat) : decide (0 ≤ idxv (fun t => !p t) l i) = !l.all p := by
  rw [Bool.eq_iff_iff, decide_eq_true_iff, idxv_iff]
  simp
theorem idxTerm_ev : ∀ (l : List Tm) (i : Nat), Ev (fun k => idxTerm (impl_Query_shape_1.f k) i l) (idxv (fun t => !termB t) l i)
  | [], i => Ev.now _
  | t :: r, i => by
    simp only [idxTerm, idxv]
    refine Ev.bind (shape1_ev t) ?_
    by_cases h : termB t = true
    · have h2 : ¬ (!termB t) = true := by simp [h]
      rw [if_neg h2]
      exact Ev.neg h2 (idxTerm_ev r (i + 1))
    · have h2 : (!termB t) = true := by simp [h]
      rw [if_pos h2]
      exact Ev.pos h2 (Ev.now _)
theorem containsTerm_ev (l : List Tm) : Ev (fun k => slices_ContainsFunc_Simpl_Term_impl_Term.f k l) (!l.all termB) := by
  unfold slices_ContainsFunc_Simpl_Term_impl_Term.f
  exact Ev.bind (idxTerm_ev l 0) (Ev.to (Ev.now _) (idxv_all termB l 0))
theorem shape_l1 (l : List At) (hl : l.length ≤ 9223372036854775806) : Ev (fun k => impl_Query_shape.l1 k l (l.length : Int) 0) (l.all atomB) := by
  refine Ev.to (Ev.all l atomB (g := fun k i => impl_Query_shape.l1 k l (l.length : Int) (i : Int)) (R := true) (fun _ => Ev.succ ?_) ?_ ?_) (by simp)
  · simp only [impl_Query_shape.l1]
    exact Ev.neg (by omega) (Ev.now _)
  · intro i hi hp R' ih
    have hx : rd_T76 l (i : Int) = l[i] := getD_at _ hi
    unfold atomB at hp
    simp only [Bool.and_eq_true, decide_eq_true_eq] at hp
    refine Ev.succ ?_
    simp only [impl_Query_shape.l1, hx, w64n (show i ≤ 9223372036854775806 by omega)]
    refine Ev.pos (by omega) (Ev.pos (by omega) (Ev.pos (by omega) (Ev.bind (isName_ev _) (Ev.pos hp.1.1 (Ev.neg (by omega) (Ev.bind (containsTerm_ev _) (Ev.neg ?_ ih)))))))
    rw [hp.2]; simp
  · intro i hi hp
    have hx : rd_T76 l (i : Int) = l[i] := getD_at _ hi
    unfold atomB at hp
    refine Ev.succ ?_
    simp only [impl_Query_shape.l1, hx]
    refine Ev.pos (by omega) (Ev.pos (by omega) (Ev.pos (by omega) (Ev.bind (isName_ev _) ?_)))
    cases h1 : nameb l[i].f0 with
    | false => exact Ev.neg (by simp) (Ev.now _)
    | true =>
      refine Ev.pos rfl ?_
      by_cases h2 : l[i].f1.length = 0
      · exact Ev.pos (by omega) (Ev.now _)
      · refine Ev.neg (by omega) (Ev.bind (containsTerm_ev _) (Ev.pos ?_ (Ev.now _)))
        rw [h1] at hp; simp [h2] at hp
        simpa using hp
theorem shape_l0 (name : ByteArray) (head : List ByteArray) (ring : Int) (l : List At) (hh : head.length ≤ 9223372036854775806) (hl : l.length ≤ 9223372036854775806) :
    Ev (fun k => impl_Query_shape.l0 k head (head.length : Int) 0 name head ring l) (head.all nameb && l.all atomB) := by
  refine Ev.all head nameb (g := fun k i => impl_Query_shape.l0 k head (head.length : Int) (i : Int) name head ring l) (fun _ => Ev.succ ?_) ?_ ?_
  · simp only [impl_Query_shape.l0]
    exact Ev.neg (by omega) (shape_l1 l hl)
  · intro i hi hp R' ih
    refine Ev.succ ?_
    simp only [impl_Query_shape.l0, rdOf_at hi, w64n (show i ≤ 9223372036854775806 by omega)]
    exact Ev.pos (by omega) (Ev.pos (by omega) (Ev.pos (by omega) (Ev.bind (isName_ev _) (Ev.pos hp ih))))
  · intro i hi hp
    refine Ev.succ ?_
    simp only [impl_Query_shape.l0, rdOf_at hi]
    exact Ev.pos (by omega) (Ev.pos (by omega) (Ev.pos (by omega) (Ev.bind (isName_ev _) (Ev.neg (by simp [hp]) (Ev.now _)))))
theorem shape_ev (name : ByteArray) (head : List ByteArray) (ring : Int) (l : List At) (hh : head.length ≤ 9223372036854775806) (hl : l.length ≤ 9223372036854775806) :
    Ev (fun k => impl_Query_shape.f k name head ring l) (shapeB name head ring l) := by
  unfold impl_Query_shape.f shapeB
  have hj : Ev (fun k => impl_Query_shape.j0 k true name head ring l) false := Ev.succ (by simp only [impl_Query_shape.j0, if_true]; exact Ev.now _)
  refine Ev.bind (isName_ev _) ?_
  cases h1 : nameb name with
  | false => exact Ev.neg (by simp) hj
  | true =>
    refine Ev.pos rfl ?_
    by_cases h2 : l.length = 0
    · exact Ev.to (Ev.pos (by omega) hj) (by simp [h2])
    · refine Ev.neg (by omega) (Ev.val (within_v _ _ _) ?_)
      by_cases h3 : 0 ≤ ring ∧ ring ≤ 3
      · simp only [h2, h3, ne_eq, not_false_eq_true, and_self, decide_true, Bool.and_self, Bool.true_and, Bool.not_true]
        refine Ev.succ ?_
        simp only [impl_Query_shape.j0, Bool.false_eq_true, if_false]
        exact shape_l0 name head ring l hh hl
      · simp only [decide_eq_false h3, Bool.not_false, Bool.and_false, Bool.false_and]
        exact hj
theorem sshape_l2 (l : List At) (n x : Int) (ts : List Tm) (hts : ts.length ≤ 9223372036854775806) (R : Bool) (h : ts.all termB = true → Ev (fun k => spec_l3ShapeOK.l1 k l n (wrap64 (x + 1))) R) :
    Ev (fun k => spec_l3ShapeOK.l2 k l n x ts (ts.length : Int) 0) (ts.all termB && R) := by
  refine Ev.all ts termB (g := fun k i => spec_l3ShapeOK.l2 k l n x ts (ts.length : Int) (i : Int)) (fun ha => Ev.succ ?_) ?_ ?_
  · simp only [spec_l3ShapeOK.l2]
    exact Ev.neg (by omega) (h ha)
  · intro i hi hp R' ih
    have hx : rd_T78 ts (i : Int) = ts[i] := getD_at _ hi
    unfold termB at hp
    simp only [Bool.and_eq_true, Bool.or_eq_true, decide_eq_true_eq, beq_iff_eq] at hp
    have hj : Ev (fun k => spec_l3ShapeOK.j5 k l n x ts (ts.length : Int) (i : Int) false ts[i].f0 ts[i].f1) R' := Ev.succ (by
      simp only [spec_l3ShapeOK.j5, Bool.false_eq_true, if_false, w64n (show i ≤ 9223372036854775806 by omega)]
      exact Ev.val (between_V _) (Ev.pos hp.1 ih))
    refine Ev.succ ?_
    simp only [spec_l3ShapeOK.l2, hx]
    refine Ev.pos (by omega) (Ev.pos (by omega) (Ev.pos (by omega) ?_))
    by_cases h0 : ts[i].f0.size = 0
    · exact Ev.pos ((toList_nil _).2 h0) hj
    · have hp2 := hp.2.resolve_left h0
      refine Ev.neg (fun e => h0 ((toList_nil _).1 e)) (Ev.bind (l2Name_ev _) (Ev.pos hp2.1 ?_))
      rw [hp2.2]; rw [hp2.2] at hj; exact hj
  · intro i hi hp
    have hx : rd_T78 ts (i : Int) = ts[i] := getD_at _ hi
    have hj : Ev (fun k => spec_l3ShapeOK.j5 k l n x ts (ts.length : Int) (i : Int) true ts[i].f0 ts[i].f1) false := Ev.succ (by simp only [spec_l3ShapeOK.j5, if_true]; exact Ev.now _)
    have hj2 : inV ts[i].f1 = false → Ev (fun k => spec_l3ShapeOK.j5 k l n x ts (ts.length : Int) (i : Int) false ts[i].f0 ts[i].f1) false := fun hv => Ev.succ (by
      simp only [spec_l3ShapeOK.j5, Bool.false_eq_true, if_false]
      exact Ev.val (between_V _) (Ev.neg (by simp [hv]) (Ev.now _)))
    refine Ev.succ ?_
    simp only [spec_l3ShapeOK.l2, hx]
    refine Ev.pos (by omega) (Ev.pos (by omega) (Ev.pos (by omega) ?_))
    unfold termB at hp
    by_cases h0 : ts[i].f0.size = 0
    · refine Ev.pos ((toList_nil _).2 h0) (hj2 ?_)
      simpa [h0] using hp
    · refine Ev.neg (fun e => h0 ((toList_nil _).1 e)) (Ev.bind (l2Name_ev _) ?_)
      cases h1 : nameb ts[i].f0 with
      | false => exact Ev.neg (by simp) hj
      | true =>
        refine Ev.pos rfl ?_
        by_cases h2 : ts[i].f1 = 0
        · have hb : (ts[i].f1 != 0) = false := by simp [h2]
          rw [hb]
          refine hj2 ?_
          rw [h1, h2] at hp
          rw [h2]; simpa [h0] using hp
        · have hb : (ts[i].f1 != 0) = true := by simp [h2]
          rw [hb]; exact hj
theorem sshape_l1 (l : List At) (hl : l.length ≤ 9223372036854775806) (hts : ∀ a, a ∈ l → a.f1.length ≤ 9223372036854775806) : Ev (fun k => spec_l3ShapeOK.l1 k l (l.length : Int) 0) (l.all atomB) := by
  refine Ev.to (Ev.all l atomB (g := fun k i => spec_l3ShapeOK.l1 k l (l.length : Int) (i : Int)) (R := true) (fun _ => Ev.succ ?_) ?_ ?_) (by simp)
  · simp only [spec_l3ShapeOK.l1]
    exact Ev.neg (by omega) (Ev.now _)
  · intro i hi hp R' ih
    have hx : rd_T76 l (i : Int) = l[i] := getD_at _ hi
    unfold atomB at hp
    simp only [Bool.and_eq_true, decide_eq_true_eq] at hp
    refine Ev.succ ?_
    simp only [spec_l3ShapeOK.l1, hx]
    refine Ev.pos (by omega) (Ev.pos (by omega) (Ev.pos (by omega) (Ev.bind (l2Name_ev _) (Ev.pos hp.1.1 ?_))))
    rw [show decide ((l[i].f1.length : Int) < 1) = false from decide_eq_false (by omega)]
    refine Ev.succ ?_
    simp only [spec_l3ShapeOK.j3, Bool.false_eq_true, if_false]
    refine Ev.to (sshape_l2 l (l.length : Int) (i : Int) l[i].f1 (hts _ (List.getElem_mem _)) R' (fun _ => ?_)) (by rw [hp.2]; rfl)
    rw [w64n (show i ≤ 9223372036854775806 by omega)]; exact ih
  · intro i hi hp
    have hx : rd_T76 l (i : Int) = l[i] := getD_at _ hi
    have hj : Ev (fun k => spec_l3ShapeOK.j3 k l (l.length : Int) (i : Int) true l[i].f0 l[i].f1) false := Ev.succ (by simp only [spec_l3ShapeOK.j3, if_true]; exact Ev.now _)
    unfold atomB at hp
    refine Ev.succ ?_
    simp only [spec_l3ShapeOK.l1, hx]
    refine Ev.pos (by omega) (Ev.pos (by omega) (Ev.pos (by omega) (Ev.bind (l2Name_ev _) ?_)))
    cases h1 : nameb l[i].f0 with
    | false => exact Ev.neg (by simp) hj
    | true =>
      refine Ev.pos rfl ?_
      by_cases h2 : l[i].f1.length = 0
      · rw [show decide ((l[i].f1.length : Int) < 1) = true from decide_eq_true (by omega)]; exact hj
      · rw [show decide ((l[i].f1.length : Int) < 1) = false from decide_eq_false (by omega)]
        refine Ev.succ ?_
        simp only [spec_l3ShapeOK.j3, Bool.false_eq_true, if_false]
        have hall : l[i].f1.all termB = false := by
          rw [h1] at hp; simp [h2] at hp
          simpa using hp
        exact Ev.to (sshape_l2 l (l.length : Int) (i : Int) l[i].f1 (hts _ (List.getElem_mem _)) true (fun h => by rw [h] at hall; cases hall)) (by rw [hall]; rfl)
theorem sshape_l0 (name : ByteArray) (head : List ByteArray) (ring : Int) (l : List At) (hh : head.length ≤ 9223372036854775806) (hl : l.length ≤ 9223372036854775806) (hts : ∀ a, a ∈ l → a.f1.length ≤ 9223372036854775806) :
    Ev (fun k => spec_l3ShapeOK.l0 k head (head.length : Int) 0 name head ring l) (head.all nameb && l.all atomB) := by
  refine Ev.all head nameb (g := fun k i => spec_l3ShapeOK.l0 k head (head.length : Int) (i : Int) name head ring l) (fun _ => Ev.succ ?_) ?_ ?_
  · simp only [spec_l3ShapeOK.l0]
    exact Ev.neg (by omega) (sshape_l1 l hl hts)
  · intro i hi hp R' ih
    refine Ev.succ ?_
    simp only [spec_l3ShapeOK.l0, rdOf_at hi, w64n (show i ≤ 9223372036854775806 by omega)]
    exact Ev.pos (by omega) (Ev.pos (by omega) (Ev.pos (by omega) (Ev.bind (l2Name_ev _) (Ev.pos hp ih))))
  · intro i hi hp
    refine Ev.succ ?_
    simp only [spec_l3ShapeOK.l0, rdOf_at hi]
    exact Ev.pos (by omega) (Ev.pos (by omega) (Ev.pos (by omega) (Ev.bind (l2Name_ev _) (Ev.neg (by simp [hp]) (Ev.now _)))))
theorem sshape_ev (name : ByteArray) (head : List ByteArray) (ring : Int) (l : List At) (hh : head.length ≤ 9223372036854775806) (hl : l.length ≤ 9223372036854775806) (hts : ∀ a, a ∈ l → a.f1.length ≤ 9223372036854775806) :
    Ev (fun k => spec_l3ShapeOK.f k name head ring l) (shapeB name head ring l) := by
  unfold spec_l3ShapeOK.f shapeB
  have hj : Ev (fun k => spec_l3ShapeOK.j0 k true name head ring l) false := Ev.succ (by simp only [spec_l3ShapeOK.j0, if_true]; exact Ev.now _)
  refine Ev.bind (l2Name_ev _) ?_
  cases h1 : nameb name with
  | false => exact Ev.neg (by simp) hj
  | true =>
    refine Ev.pos rfl (Ev.val (between_v _ _ _) ?_)
    by_cases h3 : 0 ≤ ring ∧ ring ≤ 3
    · refine Ev.pos (by simp [h3]) ?_
      by_cases h2 : l.length = 0
      · rw [show decide ((l.length : Int) < 1) = true from decide_eq_true (by omega)]
        exact Ev.to hj (by simp [h2])
      · rw [show decide ((l.length : Int) < 1) = false from decide_eq_false (by omega)]
        simp only [h2, h3, ne_eq, not_false_eq_true, and_self, decide_true, Bool.and_self, Bool.true_and]
        refine Ev.succ ?_
        simp only [spec_l3ShapeOK.j0, Bool.false_eq_true, if_false]
        exact sshape_l0 name head ring l hh hl hts
    · refine Ev.to (Ev.neg (by simp [h3]) hj) ?_
      simp only [decide_eq_false h3, Bool.and_false, Bool.false_and]
end Go.Proofs.YtjlglimikbfgmaaDoor.PT
namespace Go.Proofs.YtjlglimikbfgmaaDoor.PT
open Go.RowKit Go.Proofs.YtjlglimikbfgmaaDoor.P Go.Proofs.YtjlglimikbfgmaaDoorW.PrintWords Go.Proofs.YtjlglimikbfgmaaDoorW.PrintLast Go.Proofs.YtjlglimikbfgmaaDoor.EvKit
set_option linter.unusedSimpArgs false
set_option linter.unusedVariables false
def GStr (s : ByteArray) : Prop := s.size ≤ 9223372036854775807
def SStr (s : ByteArray) : Prop := s.size ≤ 1048576
def GL {α : Type} (G : α → Prop) (l : List α) : Prop := l.length ≤ 9223372036854775807 ∧ ∀ x, x ∈ l → G x
def SL {α : Type} (S : α → Prop) (l : List α) : Prop := l.length ≤ 1048576 ∧ ∀ x, x ∈ l → S x
theorem szStr_le {s : ByteArray} {a : Int} (ha : a ≤ 1048576) (h : 0 ≤ szStr1 s a) : SStr s ∧ szStr1 s a ≤ a ∧ 0 ≤ a := szStr1_le s a ha h
theorem w64s {s : ByteArray} {a : Int} (g : GStr s) (h0 : 0 ≤ a) (h1 : a ≤ 1048576) : wrap64 (a - (s.size : Int)) = a - s.size := w64 (by unfold GStr at g; omega) (by omega)
theorem w64l {α : Type} {l : List α} {a : Int} (g : l.length ≤ 9223372036854775807) (h0 : 0 ≤ a) (h1 : a ≤ 1048576) : wrap64 (a - (l.length : Int)) = a - l.length := w64 (by omega) (by omega)
theorem szHd_ev {α : Type} {l : List α} {s : α → Int → Int} {a : Int} {A : Nat → Option Int} (g : l.length ≤ 9223372036854775807) (h0 : 0 ≤ a) (h1 : a ≤ 1048576) (h : ¬ a - l.length < 0 → Ev A (szL s (a - l.length) l)) :
    Ev (fun k => if (wrap64 (a - (l.length : Int))) < 0 then some (-1) else A k) (szHd s l a) := by
  rw [w64l g h0 h1]
  unfold szHd
  by_cases c : a - l.length < 0
  · rw [if_pos c]; exact Ev.pos c (Ev.now _)
  · rw [if_neg c]; exact Ev.neg c (h c)
theorem szStringS_ev (l : List ByteArray) (a : Int) (g : GL GStr l) (h0 : 0 ≤ a) (h1 : a ≤ 1048576) : Ev (fun k => laws_szStringS.f k l a) (szHd szStr1 l a) := by
  unfold laws_szStringS.f
  refine szHd_ev g.1 h0 h1 (fun c => ?_)
  rw [w64l g.1 h0 h1]
  refine Ev.szS l szStr1 (S := SStr) (fun x a => szStr_le) (g := fun k b i => laws_szStringS.l0 k l b (i : Int)) (fun a => Ev.succ ?_) (fun i hi b R hb0 hb1 hp hn => Ev.succ ?_) _ (by omega) (by omega)
  · simp only [laws_szStringS.l0]
    exact Ev.neg (by omega) (Ev.now _)
  · have hle := g.1
    simp only [laws_szStringS.l0, rdOf_at hi, w64n (show i ≤ 9223372036854775806 by omega), w64s (g.2 _ (List.getElem_mem hi)) hb0 hb1]
    refine Ev.pos (by omega) (Ev.pos (by omega) ?_)
    unfold szStr1 at hp hn
    by_cases c : b - l[i].size < 0
    · rw [if_pos c] at hn; rw [hn (by omega)]; exact Ev.pos c (Ev.now _)
    · rw [if_neg c] at hp; exact Ev.neg c (hp (by omega))
def szTm (t : LTm) (a : Int) : Int := szStr1 t.f0 a
def GTm (t : LTm) : Prop := GStr t.f0
def STm (t : LTm) : Prop := SStr t.f0
theorem szTerm_v (t : LTm) (a : Int) (g : GTm t) (h0 : 0 ≤ a) (h1 : a ≤ 1048576) : laws_szTerm.f t.f0 t.f1 a = some (szTm t a) := by
  unfold laws_szTerm.f szTm szStr1
  rw [w64s g h0 h1]
  by_cases c : a - t.f0.size < 0
  · rw [if_pos c, if_pos c]
  · rw [if_neg c, if_neg c]
theorem szTermS_ev (l : List LTm) (a : Int) (g : GL GTm l) (h0 : 0 ≤ a) (h1 : a ≤ 1048576) : Ev (fun k => laws_szTermS.f k l a) (szHd szTm l a) := by
  unfold laws_szTermS.f
  refine szHd_ev g.1 h0 h1 (fun c => ?_)
  rw [w64l g.1 h0 h1]
  refine Ev.szS l szTm (S := STm) (fun x a => szStr_le) (g := fun k b i => laws_szTermS.l0 k l b (i : Int)) (fun a => Ev.succ ?_) (fun i hi b R hb0 hb1 hp hn => Ev.succ ?_) _ (by omega) (by omega)
  · simp only [laws_szTermS.l0]
    exact Ev.neg (by omega) (Ev.now _)
  · have hle := g.1
    have hx : rd_T184 l (i : Int) = l[i] := getD_at _ hi
    simp only [laws_szTermS.l0, hx, w64n (show i ≤ 9223372036854775806 by omega)]
    refine Ev.pos (by omega) (Ev.pos (by omega) (Ev.val (szTerm_v _ _ (g.2 _ (List.getElem_mem hi)) hb0 hb1) ?_))
    by_cases c : szTm l[i] b < 0
    · rw [hn c]; exact Ev.pos c (Ev.now _)
    · exact Ev.neg c (hp (by omega))
def szAt (x : LAt) (a : Int) : Int := if szStr1 x.f0 a < 0 then -1 else if szHd szTm x.f1 (szStr1 x.f0 a) < 0 then -1 else szHd szTm x.f1 (szStr1 x.f0 a)
def GAt (x : LAt) : Prop := GStr x.f0 ∧ GL GTm x.f1
def SAt (x : LAt) : Prop := SStr x.f0 ∧ SL STm x.f1
theorem szAt_le {x : LAt} {a : Int} (ha : a ≤ 1048576) (h : 0 ≤ szAt x a) : SAt x ∧ szAt x a ≤ a ∧ 0 ≤ a := by
  unfold szAt at h ⊢
  by_cases c1 : szStr1 x.f0 a < 0
  · rw [if_pos c1] at h; omega
  · rw [if_neg c1] at h ⊢
    obtain ⟨p1, p2, p3⟩ := szStr_le ha (Int.not_lt.1 c1)
    by_cases c2 : szHd szTm x.f1 (szStr1 x.f0 a) < 0
    · rw [if_pos c2] at h; omega
    · rw [if_neg c2]
      obtain ⟨q1, q2, q3⟩ := szHd_le (s := szTm) (S := STm) (fun _ _ => szStr_le) x.f1 _ (by omega) (Int.not_lt.1 c2)
      exact ⟨⟨p1, q1⟩, by omega, by omega⟩
theorem szFront {A : Int → Nat → Option Int} {s : ByteArray} {a : Int} {F : Int → Int} (g : GStr s) (h0 : 0 ≤ a) (h1 : a ≤ 1048576) (h : 0 ≤ szStr1 s a → szStr1 s a ≤ 1048576 → Ev (A (szStr1 s a)) (F (szStr1 s a))) :
    Ev (fun k => if (wrap64 (a - (s.size : Int))) < 0 then some (-1) else A (wrap64 (a - (s.size : Int))) k) (if szStr1 s a < 0 then -1 else F (szStr1 s a)) := by
  rw [w64s g h0 h1]
  by_cases c : a - s.size < 0
  · have e : szStr1 s a = -1 := if_pos c
    rw [e, if_pos (by omega)]; exact Ev.pos c (Ev.now _)
  · have e : szStr1 s a = a - s.size := if_neg c
    rw [e] at h ⊢
    rw [if_neg c]; exact Ev.neg c (h (by omega) (by omega))
theorem Ev.left {g : Nat → Option Int} {z : Int} {A : Int → Nat → Option Int} {R : Int} (h : Ev g z) (hA : 0 ≤ z → Ev (A z) R) : Ev (fun k => (g k).bind fun t => if t < 0 then some (-1) else A t k) (if z < 0 then -1 else R) := by
  refine Ev.bind h ?_
  by_cases c : z < 0
  · rw [if_pos c]; exact Ev.pos c (Ev.now _)
  · rw [if_neg c]; exact Ev.neg c (hA (by omega))
theorem szAtom_ev (x : LAt) (a : Int) (g : GAt x) (h0 : 0 ≤ a) (h1 : a ≤ 1048576) : Ev (fun k => laws_szAtom.f k x.f0 x.f1 a) (szAt x a) := by
  unfold laws_szAtom.f szAt
  exact szFront (F := fun b => if szHd szTm x.f1 b < 0 then -1 else szHd szTm x.f1 b) (A := fun b k => (laws_szTermS.f k x.f1 b).bind fun t => if t < 0 then some (-1) else some t) g.1 h0 h1 (fun p1 p2 => Ev.left (szTermS_ev x.f1 _ g.2 p1 p2) (fun _ => Ev.now _))
theorem szAtomS_ev (l : List LAt) (a : Int) (g : GL GAt l) (h0 : 0 ≤ a) (h1 : a ≤ 1048576) : Ev (fun k => laws_szAtomS.f k l a) (szHd szAt l a) := by
  unfold laws_szAtomS.f
  refine szHd_ev g.1 h0 h1 (fun c => ?_)
  rw [w64l g.1 h0 h1]
  refine Ev.szS l szAt (S := SAt) (fun x a => szAt_le) (g := fun k b i => laws_szAtomS.l0 k l b (i : Int)) (fun a => Ev.succ ?_) (fun i hi b R hb0 hb1 hp hn => Ev.succ ?_) _ (by omega) (by omega)
  · simp only [laws_szAtomS.l0]
    exact Ev.neg (by omega) (Ev.now _)
  · have hle := g.1
    have hx : rd_T117 l (i : Int) = l[i] := getD_at _ hi
    simp only [laws_szAtomS.l0, hx, w64n (show i ≤ 9223372036854775806 by omega)]
    refine Ev.pos (by omega) (Ev.pos (by omega) (Ev.bind (szAtom_ev _ _ (g.2 _ (List.getElem_mem hi)) hb0 hb1) ?_))
    by_cases c : szAt l[i] b < 0
    · rw [hn c]; exact Ev.pos c (Ev.now _)
    · exact Ev.neg c (hp (by omega))
def szQ (nm : ByteArray) (hd : List ByteArray) (l : List LAt) (a : Int) : Int :=
  if szStr1 nm a < 0 then -1 else if szHd szStr1 hd (szStr1 nm a) < 0 then -1 else if szHd szAt l (szHd szStr1 hd (szStr1 nm a)) < 0 then -1 else szHd szAt l (szHd szStr1 hd (szStr1 nm a))
theorem szQ_le {nm : ByteArray} {hd : List ByteArray} {l : List LAt} {a : Int} (ha : a ≤ 1048576) (h : 0 ≤ szQ nm hd l a) : SStr nm ∧ SL SStr hd ∧ SL SAt l ∧ szQ nm hd l a ≤ a ∧ 0 ≤ a := by
  unfold szQ at h ⊢
  by_cases c1 : szStr1 nm a < 0
  · rw [if_pos c1] at h; omega
  · rw [if_neg c1] at h ⊢
    obtain ⟨p1, p2, p3⟩ := szStr_le ha (Int.not_lt.1 c1)
    by_cases c2 : szHd szStr1 hd (szStr1 nm a) < 0
    · rw [if_pos c2] at h; omega
    · rw [if_neg c2] at h ⊢
      obtain ⟨q1, q2, q3⟩ := szHd_le (s := szStr1) (S := SStr) (fun _ _ => szStr_le) hd _ (by omega) (Int.not_lt.1 c2)
      by_cases c3 : szHd szAt l (szHd szStr1 hd (szStr1 nm a)) < 0
      · rw [if_pos c3] at h; omega
      · rw [if_neg c3]
        obtain ⟨r1, r2, r3⟩ := szHd_le (s := szAt) (S := SAt) (fun _ _ => szAt_le) l _ (by omega) (Int.not_lt.1 c3)
        exact ⟨p1, q1, r1, by omega, by omega⟩
theorem szQuery_ev (nm : ByteArray) (hd : List ByteArray) (rg : Int) (l : List LAt) (a : Int) (g1 : GStr nm) (g2 : GL GStr hd) (g3 : GL GAt l) (h0 : 0 ≤ a) (h1 : a ≤ 1048576) : Ev (fun k => laws_szQuery.f k nm hd rg l a) (szQ nm hd l a) := by
  unfold laws_szQuery.f szQ
  refine szFront (F := fun b => if szHd szStr1 hd b < 0 then -1 else if szHd szAt l (szHd szStr1 hd b) < 0 then -1 else szHd szAt l (szHd szStr1 hd b))
    (A := fun b k => (laws_szStringS.f k hd b).bind fun t => if t < 0 then some (-1) else (laws_szAtomS.f k l t).bind fun u => if u < 0 then some (-1) else some u) g1 h0 h1 (fun p1 p2 => ?_)
  refine Ev.left (A := fun t k => (laws_szAtomS.f k l t).bind fun u => if u < 0 then some (-1) else some u) (szStringS_ev hd _ g2 p1 p2) (fun q1 => ?_)
  have q2 := (szHd_le (s := szStr1) (S := SStr) (fun _ _ => szStr_le) hd _ p2 q1).2.1
  exact Ev.left (szAtomS_ev l _ g3 q1 (by omega)) (fun _ => Ev.now _)
def toTm (t : LTm) : Tm := ⟨t.f0, t.f1⟩
def toAt (x : LAt) : At := ⟨x.f0, x.f1.map toTm⟩
theorem toStringS_ev (l : List ByteArray) (hl : l.length ≤ 1048576) : Ev (fun k => laws_toStringS.f k l) l := by
  unfold laws_toStringS.f
  refine Ev.pos (by omega) (Ev.pos (by omega) ?_)
  simp only [Int.toNat_natCast]
  have h := Ev.mapS l (fun x => x) (⟨#[]⟩ : ByteArray) (g := fun k acc i => laws_toStringS.l0 k l acc (i : Int)) (fun acc _ => Ev.succ (by simp only [laws_toStringS.l0]; exact Ev.neg (by omega) (Ev.now _))) (fun i hi acc R ha ih => Ev.succ ?_)
  · rw [List.map_id'] at h; exact h
  · simp only [laws_toStringS.l0, rdOf_at hi, w64n (show i ≤ 9223372036854775806 by omega), Int.toNat_natCast]
    exact Ev.pos (by omega) (Ev.pos (by omega) (Ev.pos (by omega) ih))
theorem toTermS_ev (l : List LTm) (hl : l.length ≤ 1048576) : Ev (fun k => laws_toTermS.f k l) (l.map toTm) := by
  unfold laws_toTermS.f
  refine Ev.pos (by omega) (Ev.pos (by omega) ?_)
  simp only [Int.toNat_natCast]
  refine Ev.mapS l toTm z78 (g := fun k acc i => laws_toTermS.l0 k l acc (i : Int)) (fun acc _ => Ev.succ (by simp only [laws_toTermS.l0]; exact Ev.neg (by omega) (Ev.now _))) (fun i hi acc R ha ih => Ev.succ ?_)
  have hx : rd_T184 l (i : Int) = l[i] := getD_at _ hi
  simp only [laws_toTermS.l0, hx, w64n (show i ≤ 9223372036854775806 by omega), laws_toTerm.f, Option.bind_some, Int.toNat_natCast]
  exact Ev.pos (by omega) (Ev.pos (by omega) (Ev.pos (by omega) ih))
theorem toAtomS_ev (l : List LAt) (hl : SL SAt l) : Ev (fun k => laws_toAtomS.f k l) (l.map toAt) := by
  unfold laws_toAtomS.f
  have hl1 := hl.1
  refine Ev.pos (by omega) (Ev.pos (by omega) ?_)
  simp only [Int.toNat_natCast]
  refine Ev.mapS l toAt z76 (g := fun k acc i => laws_toAtomS.l0 k l acc (i : Int)) (fun acc _ => Ev.succ (by simp only [laws_toAtomS.l0]; exact Ev.neg (by omega) (Ev.now _))) (fun i hi acc R ha ih => Ev.succ ?_)
  have hx : rd_T117 l (i : Int) = l[i] := getD_at _ hi
  simp only [laws_toAtomS.l0, hx, w64n (show i ≤ 9223372036854775806 by omega), Int.toNat_natCast]
  refine Ev.pos (by omega) (Ev.pos (by omega) (Ev.bind (a := (l[i].f0, l[i].f1.map toTm)) ?_ (Ev.pos (by omega) ih)))
  unfold laws_toAtom.f
  exact Ev.bind (toTermS_ev _ (hl.2 _ (List.getElem_mem hi)).2.1) (Ev.now _)
theorem toQuery_ev (nm : ByteArray) (hd : List ByteArray) (rg : Int) (l : List LAt) (h2 : SL SStr hd) (h3 : SL SAt l) : Ev (fun k => laws_toQuery.f k nm hd rg l) (nm, hd, rg, l.map toAt) := by
  unfold laws_toQuery.f
  exact Ev.bind (toStringS_ev hd h2.1) (Ev.bind (toAtomS_ev l h3) (Ev.now _))
theorem eqStringS_ev (l : List ByteArray) (hl : l.length ≤ 1048576) : Ev (fun k => laws_eqStringS.f k l l) true := by
  unfold laws_eqStringS.f
  refine Ev.pos rfl (Ev.to (Ev.all l (fun _ => true) (g := fun k i => laws_eqStringS.l0 k l l (i : Int)) (R := true) (fun _ => Ev.succ ?_) ?_ ?_) (by simp))
  · simp only [laws_eqStringS.l0]
    exact Ev.neg (by omega) (Ev.now _)
  · intro i hi _ R' ih
    refine Ev.succ ?_
    simp only [laws_eqStringS.l0, rdOf_at hi, w64n (show i ≤ 9223372036854775806 by omega)]
    exact Ev.pos (by omega) (Ev.pos (by omega) (Ev.pos (by omega) (Ev.pos trivial ih)))
  · intro i hi hp; simp at hp
theorem eqTermS_ev (l : List Tm) (hl : l.length ≤ 1048576) : Ev (fun k => laws_eqTermS.f k l l) true := by
  unfold laws_eqTermS.f
  refine Ev.pos rfl (Ev.to (Ev.all l (fun _ => true) (g := fun k i => laws_eqTermS.l0 k l l (i : Int)) (R := true) (fun _ => Ev.succ ?_) ?_ ?_) (by simp))
  · simp only [laws_eqTermS.l0]
    exact Ev.neg (by omega) (Ev.now _)
  · intro i hi _ R' ih
    have hx : rd_T78 l (i : Int) = l[i] := getD_at _ hi
    refine Ev.succ ?_
    simp only [laws_eqTermS.l0, hx, w64n (show i ≤ 9223372036854775806 by omega), laws_eqTerm.f, if_true, Option.bind_some]
    exact Ev.pos (by omega) (Ev.pos (by omega) (Ev.pos (by omega) ih))
  · intro i hi hp; simp at hp
theorem eqAtomS_ev (l : List At) (hl : l.length ≤ 1048576) (h : ∀ x, x ∈ l → x.f1.length ≤ 1048576) : Ev (fun k => laws_eqAtomS.f k l l) true := by
  unfold laws_eqAtomS.f
  refine Ev.pos rfl (Ev.to (Ev.all l (fun _ => true) (g := fun k i => laws_eqAtomS.l0 k l l (i : Int)) (R := true) (fun _ => Ev.succ ?_) ?_ ?_) (by simp))
  · simp only [laws_eqAtomS.l0]
    exact Ev.neg (by omega) (Ev.now _)
  · intro i hi _ R' ih
    have hx : rd_T76 l (i : Int) = l[i] := getD_at _ hi
    refine Ev.succ ?_
    simp only [laws_eqAtomS.l0, hx, w64n (show i ≤ 9223372036854775806 by omega)]
    refine Ev.pos (by omega) (Ev.pos (by omega) (Ev.pos (by omega) (Ev.bind (a := true) ?_ (Ev.pos rfl ih))))
    unfold laws_eqAtom.f
    exact Ev.pos rfl (Ev.bind (eqTermS_ev _ (h _ (List.getElem_mem hi))) (Ev.pos rfl (Ev.now _)))
  · intro i hi hp; simp at hp
theorem eqQuery_ev (nm : ByteArray) (hd : List ByteArray) (rg : Int) (l : List At) (h2 : hd.length ≤ 1048576) (hl : l.length ≤ 1048576) (h : ∀ x, x ∈ l → x.f1.length ≤ 1048576) : Ev (fun k => laws_eqQuery.f k nm hd rg l nm hd rg l) true := by
  unfold laws_eqQuery.f
  exact Ev.pos rfl (Ev.bind (eqStringS_ev hd h2) (Ev.pos rfl (Ev.pos rfl (Ev.bind (eqAtomS_ev l hl h) (Ev.pos rfl (Ev.now _))))))
theorem toAt_len {l : List LAt} (h : SL SAt l) : (l.map toAt).length ≤ 1048576 ∧ ∀ x, x ∈ l.map toAt → x.f1.length ≤ 1048576 := by
  refine ⟨by simpa using h.1, fun x hx => ?_⟩
  obtain ⟨y, hy, rfl⟩ := List.mem_map.1 hx
  have := (h.2 y hy).2.1
  simpa [toAt] using this
end Go.Proofs.YtjlglimikbfgmaaDoor.PT
namespace Go.Proofs.YtjlglimikbfgmaaDoor.PT
open Go.RowKit Go.Proofs.YtjlglimikbfgmaaDoor.P Go.Proofs.YtjlglimikbfgmaaDoorW.PrintWords Go.Proofs.YtjlglimikbfgmaaDoorW.PrintLast Go.Proofs.YtjlglimikbfgmaaDoor.EvKit
set_option linter.unusedSimpArgs false
set_option linter.unusedVariables false
def bl (s : ByteArray) : List UInt8 := s.data.toList
def ba (l : List UInt8) : ByteArray := ⟨l.toArray⟩
theorem bl_ba (l : List UInt8) : bl (ba l) = l := rfl
theorem ba_bl (s : ByteArray) : ba (bl s) = s := by obtain ⟨⟨l⟩⟩ := s; rfl
theorem bl_append (a b : ByteArray) : bl (a ++ b) = bl a ++ bl b := by
  simp [bl, ByteArray.data_append]
theorem ba_append (a b : List UInt8) : ba a ++ ba b = ba (a ++ b) := by
  rw [← ba_bl (ba a ++ ba b), bl_append, bl_ba, bl_ba]
theorem bl_len (s : ByteArray) : (bl s).length = s.size := by simp [bl]
theorem ba_size (l : List UInt8) : (ba l).size = l.length := by rw [← bl_len, bl_ba]
theorem bl_inj {a b : ByteArray} (h : bl a = bl b) : a = b := by rw [← ba_bl a, h, ba_bl]
def jn (l : List (List UInt8)) : List UInt8 := Lib.join l [44, 32]
theorem jn_nil : jn [] = [] := rfl
theorem jn_snoc (l : List (List UInt8)) (x : List UInt8) : jn (l ++ [x]) = jn l ++ ((if l.length = 0 then [] else [44, 32]) ++ x) := by
  cases l with
  | nil => simp [jn, Lib.join_one, Lib.join_nil]
  | cons y r =>
    simp [jn, Lib.join_cons, Lib.joinTail]
theorem jn_take {α : Type} (f : α → List UInt8) (l : List α) (i : Nat) (h : i < l.length) : jn ((l.take (i + 1)).map f) = jn ((l.take i).map f) ++ ((if i = 0 then [] else [44, 32]) ++ f l[i]) := by
  rw [List.take_succ_eq_append_getElem h, List.map_append, List.map_singleton, jn_snoc]
  have : ((l.take i).map f).length = i := by simp; omega
  rw [this]
theorem jn_length (l : List (List UInt8)) (c : Nat) (h : ∀ x, x ∈ l → x.length ≤ c) : (jn l).length ≤ l.length * (c + 2) := by
  induction l with
  | nil => simp [jn_nil]
  | cons x r ih =>
    have h1 := ih (fun y hy => h y (by simp [hy]))
    have h0 := h x (by simp)
    cases r with
    | nil => simp [jn, Lib.join_one]; omega
    | cons y r =>
      have : jn (x :: y :: r) = x ++ ([44, 32] ++ jn (y :: r)) := by simp [jn, Lib.join_cons, Lib.joinTail]
      rw [this]
      simp only [List.length_append, List.length_cons, List.length_nil] at h1 ⊢
      rw [Nat.add_mul (r.length + 1)]
      omega
theorem jn_take_len {α : Type} (f : α → List UInt8) (l : List α) (c : Nat) (h : ∀ x, x ∈ l → (f x).length ≤ c) (i : Nat) (hi : i ≤ l.length) : (jn ((l.take i).map f)).length ≤ i * (c + 2) := by
  have h1 := jn_length ((l.take i).map f) c (fun x hx => by
    obtain ⟨y, hy, rfl⟩ := List.mem_map.1 hx
    exact h y (List.mem_of_mem_take hy))
  have : ((l.take i).map f).length = i := by simp; omega
  rwa [this] at h1
noncomputable def termT (t : Tm) : List UInt8 := if t.f0.size = 0 then Lib.itoa t.f1 else bl t.f0
noncomputable def atomT (a : At) : List UInt8 := bl a.f0 ++ ([40] ++ (jn (a.f1.map termT) ++ [41]))
def ringT (r : Int) : List UInt8 := if r = 1 then [99, 111, 117, 110, 116] else if r = 2 then [115, 117, 109] else [109, 105, 110]
def ringT2 (r : Int) : List UInt8 := if 0 < r then [59, 32] ++ ringT r else []
def frontT (nm : ByteArray) (hd : List ByteArray) : List UInt8 := bl nm ++ ([40] ++ jn (hd.map bl))
noncomputable def queryT (nm : ByteArray) (hd : List ByteArray) (rg : Int) (l : List At) : List UInt8 :=
  frontT nm hd ++ (ringT2 rg ++ ([41, 32, 58, 45, 32] ++ (jn (l.map atomT) ++ [46])))
noncomputable def printQ (nm : ByteArray) (hd : List ByteArray) (rg : Int) (l : List At) : ByteArray := if shapeB nm hd rg l = true then ba (queryT nm hd rg l) else ⟨#[]⟩
theorem ringT2_len (r : Int) : (ringT2 r).length ≤ 7 := by unfold ringT2 ringT; split <;> (try split) <;> (try split) <;> simp
theorem nameb_len {s : ByteArray} (h : nameb s = true) : 1 ≤ s.size ∧ s.size ≤ 30 := by
  unfold nameb at h
  simp only [Bool.and_eq_true, decide_eq_true_eq] at h
  exact ⟨h.1.1.1, h.1.1.2⟩
theorem termT_len {t : Tm} (h : termB t = true) : (termT t).length ≤ 30 := by
  unfold termB inV at h
  simp only [Bool.and_eq_true, Bool.or_eq_true, decide_eq_true_eq] at h
  unfold termT
  split
  · exact Nat.le_trans (Lib.itoa_length_le _ (by omega) (by omega)) (by omega)
  · rename_i h0
    rw [bl_len]
    exact (nameb_len (h.2.resolve_left h0).1).2
theorem atomT_len {a : At} (h : atomB a = true) (hl : a.f1.length ≤ 1048576) : (atomT a).length ≤ 33554464 := by
  unfold atomB at h
  simp only [Bool.and_eq_true, decide_eq_true_eq, List.all_eq_true] at h
  have h1 := jn_take_len termT a.f1 30 (fun t ht => termT_len (h.2 t ht)) a.f1.length (Nat.le_refl _)
  rw [List.take_length] at h1
  have h2 := (nameb_len h.1.1).2
  unfold atomT
  simp only [List.length_append, bl_len, List.length_cons, List.length_nil]
  omega
theorem frontT_len {nm : ByteArray} {hd : List ByteArray} (h0 : nm.size ≤ 30) (h : ∀ x, x ∈ hd → x.size ≤ 30) (hl : hd.length ≤ 1048576) : (frontT nm hd).length ≤ 33554463 := by
  have h1 := jn_take_len bl hd 30 (fun t ht => by rw [bl_len]; exact h t ht) hd.length (Nat.le_refl _)
  rw [List.take_length] at h1
  unfold frontT
  simp only [List.length_append, bl_len, List.length_cons, List.length_nil]
  omega
theorem shape_parts {nm : ByteArray} {hd : List ByteArray} {rg : Int} {l : List At} (h : shapeB nm hd rg l = true) :
    nm.size ≤ 30 ∧ (∀ x, x ∈ hd → x.size ≤ 30) ∧ (0 ≤ rg ∧ rg ≤ 3) ∧ (∀ a, a ∈ l → atomB a = true) := by
  unfold shapeB at h
  simp only [Bool.and_eq_true, decide_eq_true_eq, List.all_eq_true] at h
  exact ⟨(nameb_len h.1.1.1).2, fun x hx => (nameb_len (h.2.1 x hx)).2, h.1.2, h.2.2⟩
end Go.Proofs.YtjlglimikbfgmaaDoor.PT
namespace Go.Proofs.YtjlglimikbfgmaaDoor.PT
open Go.RowKit Go.Proofs.YtjlglimikbfgmaaDoor.P Go.Proofs.YtjlglimikbfgmaaDoorW.PrintWords Go.Proofs.YtjlglimikbfgmaaDoorW.PrintLast Go.Proofs.YtjlglimikbfgmaaDoor.EvKit
set_option linter.unusedSimpArgs false
set_option linter.unusedVariables false
def spT (l : List Int) : List UInt8 := (l.map (fun v => 32 :: Lib.itoa v)).flatten
theorem spT_nil : spT [] = [] := rfl
theorem spT_snoc (l : List Int) (v : Int) : spT (l ++ [v]) = spT l ++ ([32] ++ Lib.itoa v) := by simp [spT]
theorem spT_take (l : List Int) (i : Nat) (h : i < l.length) : spT (l.take (i + 1)) = spT (l.take i) ++ ([32] ++ Lib.itoa l[i]) := by
  rw [List.take_succ_eq_append_getElem h, spT_snoc]
def I64 (v : Int) : Prop := -9223372036854775808 ≤ v ∧ v ≤ 9223372036854775807
theorem spT_len (l : List Int) (h : ∀ v, v ∈ l → I64 v) : (spT l).length ≤ l.length * 22 := by
  induction l with
  | nil => simp [spT_nil]
  | cons x r ih =>
    have h1 := ih (fun y hy => h y (by simp [hy]))
    have h0 := h x (by simp)
    have h2 := Lib.itoa_length_le x h0.1 h0.2
    have : spT (x :: r) = (32 :: Lib.itoa x) ++ spT r := by simp [spT]
    rw [this]
    simp only [List.length_append, List.length_cons]
    omega
def rowT (nm : ByteArray) (row : List Int) (v : Int) : List UInt8 := bl nm ++ (spT (row ++ [v]) ++ [10])
def rowsT (nm : ByteArray) (rows : List (List Int)) (ws : List Int) (n : Nat) : List UInt8 := ((List.range n).map (fun i => rowT nm (rows.getD i []) (ws.getD i 0))).flatten
theorem rowsT_zero (nm : ByteArray) (rows : List (List Int)) (ws : List Int) : rowsT nm rows ws 0 = [] := rfl
theorem rowsT_succ (nm : ByteArray) (rows : List (List Int)) (ws : List Int) (n : Nat) : rowsT nm rows ws (n + 1) = rowsT nm rows ws n ++ rowT nm (rows.getD n []) (ws.getD n 0) := by
  unfold rowsT
  rw [List.range_succ, List.map_append, List.flatten_append]
  simp
def relHd (r : Rel) : List UInt8 := [114, 101, 108, 32] ++ (bl r.f0 ++ (spT [r.f1] ++ [10]))
def relT (r : Rel) : List UInt8 := relHd r ++ rowsT r.f0 r.f2 r.f3 r.f2.length
def dataT (l : List Rel) : List UInt8 := (l.map relT).flatten
theorem dataT_take (l : List Rel) (i : Nat) (h : i < l.length) : dataT (l.take (i + 1)) = dataT (l.take i) ++ relT l[i] := by
  unfold dataT
  rw [List.take_succ_eq_append_getElem h, List.map_append, List.flatten_append]
  simp
noncomputable def printD (l : List Rel) : ByteArray := if dataOKb l = true then ba (dataT l) else ⟨#[]⟩
def Sm (v : Int) : Prop := -1000000 ≤ v ∧ v ≤ 1000000
structure RelS (r : Rel) : Prop where
  nm : r.f0.size ≤ 30
  ar : 1 ≤ r.f1 ∧ r.f1 ≤ 3
  rows : r.f2.length ≤ 2000
  ws : r.f3.length = r.f2.length
  len : ∀ j, ∀ h : j < r.f2.length, (r.f2[j].length : Int) = r.f1
  vals : ∀ x, x ∈ r.f2 → ∀ v, v ∈ x → I64 v
  wv : ∀ v, v ∈ r.f3 → I64 v
  vals2 : ∀ x, x ∈ r.f2 → ∀ v, v ∈ x → Sm v
  wv2 : ∀ v, v ∈ r.f3 → Sm v
theorem relS_of {r : Rel} (h : relOk r = true) : RelS r := by
  unfold relOk relV at h
  simp only [Bool.and_eq_true, decide_eq_true_eq, List.all_eq_true] at h
  obtain ⟨⟨⟨⟨⟨⟨h1, h2⟩, h3⟩, h4⟩, h5⟩, h6⟩, h7, h8⟩ := h
  have h6' := @of_decide_eq_true _ (Classical.propDecidable _) (by unfold rowsR at h6; exact h6)
  refine ⟨(nameb_len h1).2, h3, h4, h5, fun j hj => (h6' j (Nat.zero_le _) hj).1, fun x hx v hv => ?_, fun v hv => ?_, fun x hx v hv => ?_, fun v hv => ?_⟩
  · have := h7 x hx v hv
    unfold inV at this
    have := of_decide_eq_true this
    unfold I64; omega
  · have := h8 v hv
    unfold inW at this
    have := of_decide_eq_true this
    unfold I64; omega
  · have := h7 x hx v hv
    unfold inV at this
    have := of_decide_eq_true this
    unfold Sm; omega
  · have := h8 v hv
    unfold inW at this
    have := of_decide_eq_true this
    unfold Sm; omega
theorem dataR_all : ∀ (l : List Rel) (ns : List ByteArray), dataR ns l = true → ∀ r, r ∈ l → RelS r
  | [], _, _, r, hr => by simp at hr
  | a :: rest, ns, h, r, hr => by
    simp only [dataR, Bool.and_eq_true] at h
    rcases List.mem_cons.1 hr with e | e
    · subst e; exact relS_of h.1.2
    · exact dataR_all rest _ h.2 r e
theorem data_parts {l : List Rel} (h : dataOKb l = true) : l.length ≤ 50 ∧ ∀ r, r ∈ l → RelS r := by
  unfold dataOKb at h
  simp only [Bool.and_eq_true, decide_eq_true_eq] at h
  exact ⟨h.1, dataR_all l [] h.2⟩
theorem getD_mem {α : Type} (l : List α) (d : α) (i : Nat) (h : i < l.length) : l.getD i d = l[i] := by simp [List.getD_eq_getElem?_getD, h]
theorem row_len {r : Rel} (h : RelS r) (i : Nat) (hi : i < r.f2.length) : (rowT r.f0 (r.f2.getD i []) (r.f3.getD i 0)).length ≤ 200 := by
  have hw := h.ws
  have e1 := getD_mem r.f2 [] i hi
  have e2 := getD_mem r.f3 0 i (by omega)
  have h1 := spT_len (r.f2.getD i [] ++ [r.f3.getD i 0]) (fun v hv => by
    rcases List.mem_append.1 hv with hv | hv
    · rw [e1] at hv; exact h.vals _ (List.getElem_mem hi) v hv
    · rw [e2] at hv; simp at hv; subst hv; exact h.wv _ (List.getElem_mem _))
  have h2 := h.len i hi
  have h3 := h.ar
  have h4 := h.nm
  have h5 : (r.f2.getD i []).length ≤ 3 := by rw [e1]; omega
  unfold rowT
  simp only [List.length_append, bl_len, List.length_cons, List.length_nil] at h1 ⊢
  omega
theorem rows_len {r : Rel} (h : RelS r) : ∀ n, n ≤ r.f2.length → (rowsT r.f0 r.f2 r.f3 n).length ≤ n * 200
  | 0, _ => by simp [rowsT_zero]
  | n + 1, hn => by
    have h1 := rows_len h n (by omega)
    have h2 := row_len h n (by omega)
    rw [rowsT_succ, List.length_append]; omega
theorem relHd_len {r : Rel} (h : RelS r) : (relHd r).length ≤ 60 := by
  have h3 := h.ar
  have h4 := h.nm
  have h1 := spT_len [r.f1] (fun v hv => by simp at hv; subst hv; unfold I64; omega)
  unfold relHd
  simp only [List.length_append, bl_len, List.length_cons, List.length_nil] at h1 ⊢
  omega
theorem relT_len {r : Rel} (h : RelS r) : (relT r).length ≤ 400060 := by
  have h1 := relHd_len h
  have h2 := rows_len h r.f2.length (Nat.le_refl _)
  have h3 := h.rows
  unfold relT
  rw [List.length_append]
  omega
theorem dataT_len {l : List Rel} (h : ∀ r, r ∈ l → RelS r) : ∀ i, i ≤ l.length → (dataT (l.take i)).length ≤ i * 400060
  | 0, _ => by simp [dataT]
  | i + 1, hi => by
    have h1 := dataT_len h i (by omega)
    have h2 := relT_len (h l[i] (List.getElem_mem _))
    rw [dataT_take l i (by omega), List.length_append]; omega
end Go.Proofs.YtjlglimikbfgmaaDoor.PT
namespace Go.Proofs.YtjlglimikbfgmaaDoor.PT
open Go.RowKit
set_option linter.unusedVariables false
def laidD {H : Type} : List (String × DataW H) := [("math/bits.deBruijn32tab", Rows.laid_math_bits_deBruijn32tab), ("math/bits.deBruijn64tab", Rows.laid_math_bits_deBruijn64tab), ("internal/strconv.uint64pow10", Rows.laid_internal_strconv_uint64pow10)]
def laidQ {H : Type} : List (String × DataW H) := [("math/bits.deBruijn32tab", Rows.laid_math_bits_deBruijn32tab), ("math/bits.deBruijn64tab", Rows.laid_math_bits_deBruijn64tab), ("internal/strconv.uint64pow10", Rows.laid_internal_strconv_uint64pow10), ("loop.example/s01205/impl.ringWords", Rows.laid_loop_example_s01205_impl_ringWords)]
abbrev Pow10 (w : World) : Prop := Lib.TabIs Tryd.prog w "internal/strconv.uint64pow10" .u64 Lib.pow10Tab
theorem pow10_tab {H : Type} : (Rows.laid_internal_strconv_uint64pow10 : DataW H) = Lib.tabData .u64 Lib.pow10Tab := rfl
theorem Pow10.below {w w' : World} (h : Pow10 w) (hb : Below w.heap.size w w') : Pow10 w' := by
  unfold Pow10 Lib.TabIs World.var? at *
  cases hg : Tryd.prog.globalNamed "internal/strconv.uint64pow10" with
  | none => simp [hg] at h
  | some g =>
    simp only [hg, Option.bind_some] at h ⊢
    have hlt : g < w.heap.size := by
      rcases Nat.lt_or_ge g w.heap.size with h' | h'
      · exact h'
      · rw [Array.getElem?_eq_none h'] at h; simp at h
    rw [hb.block g hlt]
    exact h
theorem laid_tail {P : Program} {x : String × DataW Unit} {r : List (String × DataW Unit)} {w : World} (h : laidMet P (x :: r) w) : laidMet P r w := by
  obtain ⟨ps, hv, hnd, hrows⟩ := h
  obtain ⟨n, d⟩ := x
  obtain ⟨g, t, cs, fuel, p, q, _, _, _, _, hq, rfl⟩ := hv
  exact ⟨q, hq, List.Nodup.sublist (List.sublist_append_right _ _) hnd, fun b off hm => hrows b off (List.mem_append_right _ hm)⟩
theorem pow10_of {H : List (String × DataW Unit)} {W : World} (h : laidMet Tryd.prog (("math/bits.deBruijn32tab", Rows.laid_math_bits_deBruijn32tab) :: ("math/bits.deBruijn64tab", Rows.laid_math_bits_deBruijn64tab) :: ("internal/strconv.uint64pow10", Rows.laid_internal_strconv_uint64pow10) :: H) W) : Pow10 W := by
  have h3 := laid_tail (laid_tail h)
  rw [pow10_tab] at h3
  exact Lib.tabIs_of_head (g := 6) (by kernel_rfl) (by kernel_rfl) Tryd.underlying198 Tryd.underlying190 (by kernel_rfl) (by kernel_rfl) h3
def Rings (w : World) : Prop := w.cell? ⟨0, 0, none⟩ = some (.string ⟨#[]⟩) ∧ w.cell? ⟨0, 1, none⟩ = some (.string ⟨#[99, 111, 117, 110, 116]⟩) ∧ w.cell? ⟨0, 2, none⟩ = some (.string ⟨#[115, 117, 109]⟩) ∧ w.cell? ⟨0, 3, none⟩ = some (.string ⟨#[109, 105, 110]⟩)
theorem Rings.below {w w' : World} (h : Rings w) (hb : Below w.heap.size w w') : Rings w' :=
  ⟨(hb.cell (World.block_lt_of_cell? w _ h.1)).trans h.1, (hb.cell (World.block_lt_of_cell? w _ h.2.1)).trans h.2.1, (hb.cell (World.block_lt_of_cell? w _ h.2.2.1)).trans h.2.2.1, (hb.cell (World.block_lt_of_cell? w _ h.2.2.2)).trans h.2.2.2⟩
theorem bytes_of (s : ByteArray) (l : List UInt8) (h : s.data.toList = l) : s = ⟨l.toArray⟩ := by
  obtain ⟨⟨x⟩⟩ := s
  simp at h
  rw [h]
theorem cells_of_strs {H : Type} {enc : TypeId × Value → H} {P : Program} {w : World} {base : Nat} {sp : Nat → Bool} {held : Bool} {fuel : Nat} {t e : TypeId} {n : Nat} {cs : List Value} {zs : List (List UInt8)} {p : List MemPlace}
    (ht : P.underlying t = some (.array n e)) (he : P.underlying e = some .string) (hce : P.cellsOf e = 1) (hct : P.cellsOf t = n)
    (h : DataW.trod enc P w base sp held fuel t cs = some (.agg (zs.map fun z => .lit (.string z)), p)) : cs = zs.map fun z => Value.string ⟨z.toArray⟩ := by
  cases fuel with
  | zero => simp [DataW.trod] at h
  | succ fuel =>
    simp only [DataW.trod, ht, hce, hct, Nat.mul_one] at h
    split at h
    · rename_i hl
      obtain ⟨xs, hm, hx⟩ := Option.map_eq_some_iff.1 h
      have hxs : xs.map (·.1) = zs.map fun z => (DataW.lit (.string z) : DataW H) := by
        have := congrArg Prod.fst hx
        simpa using this
      have hxl : xs.length = n := by simpa using Lib.mapM_length hm
      have hzl : zs.length = n := by
        have := congrArg List.length hxs
        simp at this
        omega
      apply List.ext_getElem?
      intro i
      by_cases hi : i < n
      · obtain ⟨b, hb, hf⟩ := Lib.mapM_at hm i i (by simp [hi])
        obtain ⟨z, hc, rfl, _⟩ := DataW.trod_string he hf
        have h1 : cs[i]? = some (.string z) := by
          have := congrArg (·[0]?) hc
          simpa [List.getElem?_take, List.getElem?_drop] using this
        have h2 : (xs.map (·.1))[i]? = some (DataW.lit (.string z.data.toList) : DataW H) := by simp [hb]
        rw [hxs] at h2
        simp only [List.getElem?_map, Option.map_eq_some_iff, DataW.lit.injEq, Lit.string.injEq] at h2
        obtain ⟨z', hz', e2⟩ := h2
        rw [h1, List.getElem?_map, hz', bytes_of z z' e2.symm]
        rfl
      · rw [List.getElem?_eq_none (by omega), List.getElem?_eq_none (by simp; omega)]
    · cases h
theorem rings_of {W : World} (h : laidMet Tryd.prog (laidQ (H := Unit)) W) : Rings W := by
  have h4 := laid_tail (laid_tail (laid_tail h))
  obtain ⟨ps, ⟨g0, t0, cs0, f0, p0, q0, hg0, ht0, hv0, hd0, _, _⟩, _⟩ := h4
  obtain rfl := Option.some.inj ((show Tryd.prog.globalNamed "loop.example/s01205/impl.ringWords" = some 0 by kernel_rfl).symm.trans hg0)
  obtain rfl := Option.some.inj ((show (Tryd.prog.globals[0]?).map (·.type) = some 85 by kernel_rfl).symm.trans ht0)
  have hc := cells_of_strs (zs := [[], [99, 111, 117, 110, 116], [115, 117, 109], [109, 105, 110]]) Tryd.underlying85 Tryd.underlying9 (by kernel_rfl) (by kernel_rfl) hd0
  have key : ∀ i : Nat, W.cell? ⟨0, i, none⟩ = cs0[i]? := fun i => World.var?_cell hg0 hv0 i
  obtain ⟨l⟩ := cs0
  simp only at hc
  subst hc
  exact ⟨key 0, key 1, key 2, key 3⟩
end Go.Proofs.YtjlglimikbfgmaaDoor.PT
