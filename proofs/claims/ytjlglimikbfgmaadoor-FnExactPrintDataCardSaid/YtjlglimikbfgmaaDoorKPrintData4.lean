/-
  Part 4 of the proof of this: The law FnExactPrintData answers true at every argument.
-/
import Derived.Test.YtjlglimikbfgmaaDoorKPrintData2
import Derived.Test.YtjlglimikbfgmaaDoorKPrintData3
namespace Go.Proofs.YtjlglimikbfgmaaDoor.P
open Go.RowKit Go.Proofs.YtjlglimikbfgmaaDoorW.PrintWords Go.Proofs.YtjlglimikbfgmaaDoorW.PrintLast Go.Proofs.YtjlglimikbfgmaaDoorW.PrintMore
attribute [local go_sem] max2_int min2_int max_two min_two max_three min_three max_four min_four
set_option linter.unusedVariables false
set_option linter.unusedSimpArgs false
mutual
def spec_DataOK.l0 : Nat → List (S55) → Int → Int → List (S55) → Option (Bool)
 | 0, _, _, _, _ => none
 | k + 1, x18, x19, x20, x121000 => if x20 < x19 then (if 0 ≤ x20 then (if x20 < (x18.length : Int) then ((spec_l2Name.f k ((rd_T55 x18 x20).f0)).bind fun t123 => (if t123 = true then (if ((rd_T55 x18 x20).f0).toList = ([114, 101, 108] : List UInt8) then (spec_DataOK.j1 k x20 x18 x19 x20 true x121000 ((rd_T55 x18 x20).f0) ((rd_T55 x18 x20).f1) ((rd_T55 x18 x20).f2) ((rd_T55 x18 x20).f3)) else ((spec_l1Between.f ((rd_T55 x18 x20).f1) 1 3).bind fun t124 => (if t124 = true then (spec_DataOK.j1 k x20 x18 x19 x20 (decide ((((rd_T55 x18 x20).f2).length : Int) > 2000)) x121000 ((rd_T55 x18 x20).f0) ((rd_T55 x18 x20).f1) ((rd_T55 x18 x20).f2) ((rd_T55 x18 x20).f3)) else (spec_DataOK.j1 k x20 x18 x19 x20 true x121000 ((rd_T55 x18 x20).f0) ((rd_T55 x18 x20).f1) ((rd_T55 x18 x20).f2) ((rd_T55 x18 x20).f3))))) else (spec_DataOK.j1 k x20 x18 x19 x20 true x121000 ((rd_T55 x18 x20).f0) ((rd_T55 x18 x20).f1) ((rd_T55 x18 x20).f2) ((rd_T55 x18 x20).f3)))) else (none)) else (none)) else (some true)
def spec_DataOK.j1 : Nat → Int → List (S55) → Int → Int → Bool → List (S55) → ByteArray → Int → List (List Int) → List Int → Option (Bool)
 | 0, _, _, _, _, _, _, _, _, _, _ => none
 | k + 1, x3, x18, x19, x20, x45, x121000, x123000, x123001, x123002, x123003 => if x45 = true then (some false) else (if 0 ≤ x3 then (if x3 ≤ (x121000.length : Int) then ((some (x121000.take (x3 : Int).toNat : List (S55))).bind fun y125 => (spec_DataOK.l1 k x18 x19 x20 y125 (y125.length : Int) 0 x121000 x123000 x123001 x123002 x123003)) else (none)) else (none))
def spec_DataOK.l1 : Nat → List (S55) → Int → Int → List (S55) → Int → Int → List (S55) → ByteArray → Int → List (List Int) → List Int → Option (Bool)
 | 0, _, _, _, _, _, _, _, _, _, _, _ => none
 | k + 1, x18, x19, x20, x49, x50, x51, x121000, x123000, x123001, x123002, x123003 => if x51 < x50 then (if 0 ≤ x51 then (if x51 < (x49.length : Int) then (if ((rd_T55 x49 x51).f0).toList = x123000.toList then (some false) else (spec_DataOK.l1 k x18 x19 x20 x49 x50 (wrap64 (x51 + 1)) x121000 x123000 x123001 x123002 x123003)) else (none)) else (none)) else ((spec_l2SortedRows.f k x123002 x123001).bind fun t131 => (if t131 = true then (spec_DataOK.j3 k x18 x19 x20 ((x123003.length : Int) != (x123002.length : Int)) x121000 x123000 x123001 x123002 x123003) else (spec_DataOK.j3 k x18 x19 x20 true x121000 x123000 x123001 x123002 x123003)))
def spec_DataOK.j3 : Nat → List (S55) → Int → Int → Bool → List (S55) → ByteArray → Int → List (List Int) → List Int → Option (Bool)
 | 0, _, _, _, _, _, _, _, _, _ => none
 | k + 1, x18, x19, x20, x75, x121000, x123000, x123001, x123002, x123003 => if x75 = true then (some false) else (spec_DataOK.l2 k x18 x19 x20 x123002 (x123002.length : Int) 0 x121000 x123000 x123001 x123002 x123003)
def spec_DataOK.l2 : Nat → List (S55) → Int → Int → List (List Int) → Int → Int → List (S55) → ByteArray → Int → List (List Int) → List Int → Option (Bool)
 | 0, _, _, _, _, _, _, _, _, _, _, _ => none
 | k + 1, x18, x19, x20, x77, x78, x79, x121000, x123000, x123001, x123002, x123003 => if x79 < x78 then (if 0 ≤ x79 then (if x79 < (x77.length : Int) then (spec_DataOK.l3 k x18 x19 x20 x77 x78 x79 (rd_L1 x77 x79) ((rd_L1 x77 x79).length : Int) 0 x121000 x123000 x123001 x123002 x123003) else (none)) else (none)) else (spec_DataOK.l4 k x18 x19 x20 x123003 (x123003.length : Int) 0 x121000)
def spec_DataOK.l3 : Nat → List (S55) → Int → Int → List (List Int) → Int → Int → List Int → Int → Int → List (S55) → ByteArray → Int → List (List Int) → List Int → Option (Bool)
 | 0, _, _, _, _, _, _, _, _, _, _, _, _, _, _ => none
 | k + 1, x18, x19, x20, x77, x78, x79, x83, x84, x85, x121000, x123000, x123001, x123002, x123003 => if x85 < x84 then (if 0 ≤ x85 then (if x85 < (x83.length : Int) then ((spec_l1Between.f (rd x83 x85) 0 1000000).bind fun t134 => (if t134 = true then (spec_DataOK.l3 k x18 x19 x20 x77 x78 x79 x83 x84 (wrap64 (x85 + 1)) x121000 x123000 x123001 x123002 x123003) else (some false))) else (none)) else (none)) else (spec_DataOK.l2 k x18 x19 x20 x77 x78 (wrap64 (x79 + 1)) x121000 x123000 x123001 x123002 x123003)
def spec_DataOK.l4 : Nat → List (S55) → Int → Int → List Int → Int → Int → List (S55) → Option (Bool)
 | 0, _, _, _, _, _, _, _ => none
 | k + 1, x18, x19, x20, x95, x96, x97, x121000 => if x97 < x96 then (if 0 ≤ x97 then (if x97 < (x95.length : Int) then ((spec_l1Between.f (rd x95 x97) (-1000000) 1000000).bind fun t136 => (if t136 = true then (spec_DataOK.l4 k x18 x19 x20 x95 x96 (wrap64 (x97 + 1)) x121000) else (some false))) else (none)) else (none)) else (spec_DataOK.l0 k x18 x19 (wrap64 (x20 + 1)) x121000)
end
def spec_DataOK.f (k : Nat) (l0_0 : List (S55)) : Option (Bool) := if (l0_0.length : Int) > 50 then (some false) else (spec_DataOK.l0 k l0_0 (l0_0.length : Int) 0 l0_0)
theorem spec_DataOK.mono_l : ∀ k, (∀ y0 y1 y2 y3, LeO (spec_DataOK.l0 k y0 y1 y2 y3) (spec_DataOK.l0 (k + 1) y0 y1 y2 y3)) ∧ (∀ y0 y1 y2 y3 y4 y5 y6 y7 y8 y9, LeO (spec_DataOK.j1 k y0 y1 y2 y3 y4 y5 y6 y7 y8 y9) (spec_DataOK.j1 (k + 1) y0 y1 y2 y3 y4 y5 y6 y7 y8 y9)) ∧ (∀ y0 y1 y2 y3 y4 y5 y6 y7 y8 y9 y10, LeO (spec_DataOK.l1 k y0 y1 y2 y3 y4 y5 y6 y7 y8 y9 y10) (spec_DataOK.l1 (k + 1) y0 y1 y2 y3 y4 y5 y6 y7 y8 y9 y10)) ∧ (∀ y0 y1 y2 y3 y4 y5 y6 y7 y8, LeO (spec_DataOK.j3 k y0 y1 y2 y3 y4 y5 y6 y7 y8) (spec_DataOK.j3 (k + 1) y0 y1 y2 y3 y4 y5 y6 y7 y8)) ∧ (∀ y0 y1 y2 y3 y4 y5 y6 y7 y8 y9 y10, LeO (spec_DataOK.l2 k y0 y1 y2 y3 y4 y5 y6 y7 y8 y9 y10) (spec_DataOK.l2 (k + 1) y0 y1 y2 y3 y4 y5 y6 y7 y8 y9 y10)) ∧ (∀ y0 y1 y2 y3 y4 y5 y6 y7 y8 y9 y10 y11 y12 y13, LeO (spec_DataOK.l3 k y0 y1 y2 y3 y4 y5 y6 y7 y8 y9 y10 y11 y12 y13) (spec_DataOK.l3 (k + 1) y0 y1 y2 y3 y4 y5 y6 y7 y8 y9 y10 y11 y12 y13)) ∧ (∀ y0 y1 y2 y3 y4 y5 y6, LeO (spec_DataOK.l4 k y0 y1 y2 y3 y4 y5 y6) (spec_DataOK.l4 (k + 1) y0 y1 y2 y3 y4 y5 y6))
 | 0 => ⟨fun _ _ _ _ r h => by simp [spec_DataOK.l0] at h, fun _ _ _ _ _ _ _ _ _ _ r h => by simp [spec_DataOK.j1] at h, fun _ _ _ _ _ _ _ _ _ _ _ r h => by simp [spec_DataOK.l1] at h, fun _ _ _ _ _ _ _ _ _ r h => by simp [spec_DataOK.j3] at h, fun _ _ _ _ _ _ _ _ _ _ _ r h => by simp [spec_DataOK.l2] at h, fun _ _ _ _ _ _ _ _ _ _ _ _ _ _ r h => by simp [spec_DataOK.l3] at h, fun _ _ _ _ _ _ _ r h => by simp [spec_DataOK.l4] at h⟩
 | k + 1 => by
  obtain ⟨ih0, ih1, ih2, ih3, ih4, ih5, ih6⟩ := spec_DataOK.mono_l k
  refine ⟨?_, ?_, ?_, ?_, ?_, ?_, ?_⟩
  ·intro y0 y1 y2 y3
   unfold spec_DataOK.l0
   repeat' first
   | (with_reducible exact ih0 _ _ _ _)
   | (with_reducible exact ih1 _ _ _ _ _ _ _ _ _ _)
   | (with_reducible exact ih2 _ _ _ _ _ _ _ _ _ _ _)
   | (with_reducible exact ih3 _ _ _ _ _ _ _ _ _)
   | (with_reducible exact ih4 _ _ _ _ _ _ _ _ _ _ _)
   | (with_reducible exact ih5 _ _ _ _ _ _ _ _ _ _ _ _ _ _)
   | (with_reducible exact ih6 _ _ _ _ _ _ _)
   | (with_reducible exact spec_l2Name.mono _ _)
   | (with_reducible exact spec_l2SortedRows.mono _ _ _)
   | (with_reducible exact LeO.refl _)
   | (with_reducible exact LeO.none _)
   | (with_reducible refine LeO.ite ?_ ?_)
   | (with_reducible refine LeO.bind ?_ (fun _ => ?_))
   | exact ih0 _ _ _ _
   | exact ih1 _ _ _ _ _ _ _ _ _ _
   | exact ih2 _ _ _ _ _ _ _ _ _ _ _
   | exact ih3 _ _ _ _ _ _ _ _ _
   | exact ih4 _ _ _ _ _ _ _ _ _ _ _
   | exact ih5 _ _ _ _ _ _ _ _ _ _ _ _ _ _
   | exact ih6 _ _ _ _ _ _ _
   | exact spec_l2Name.mono _ _
   | exact spec_l2SortedRows.mono _ _ _
   | exact LeO.none _
   | refine LeO.ite ?_ ?_
   | refine LeO.bind ?_ (fun _ => ?_)
  ·intro y0 y1 y2 y3 y4 y5 y6 y7 y8 y9
   unfold spec_DataOK.j1
   repeat' first
   | (with_reducible exact ih0 _ _ _ _)
   | (with_reducible exact ih1 _ _ _ _ _ _ _ _ _ _)
   | (with_reducible exact ih2 _ _ _ _ _ _ _ _ _ _ _)
   | (with_reducible exact ih3 _ _ _ _ _ _ _ _ _)
   | (with_reducible exact ih4 _ _ _ _ _ _ _ _ _ _ _)
   | (with_reducible exact ih5 _ _ _ _ _ _ _ _ _ _ _ _ _ _)
   | (with_reducible exact ih6 _ _ _ _ _ _ _)
   | (with_reducible exact spec_l2Name.mono _ _)
   | (with_reducible exact spec_l2SortedRows.mono _ _ _)
   | (with_reducible exact LeO.refl _)
   | (with_reducible exact LeO.none _)
   | (with_reducible refine LeO.ite ?_ ?_)
   | (with_reducible refine LeO.bind ?_ (fun _ => ?_))
   | exact ih0 _ _ _ _
   | exact ih1 _ _ _ _ _ _ _ _ _ _
   | exact ih2 _ _ _ _ _ _ _ _ _ _ _
   | exact ih3 _ _ _ _ _ _ _ _ _
   | exact ih4 _ _ _ _ _ _ _ _ _ _ _
   | exact ih5 _ _ _ _ _ _ _ _ _ _ _ _ _ _
   | exact ih6 _ _ _ _ _ _ _
   | exact spec_l2Name.mono _ _
   | exact spec_l2SortedRows.mono _ _ _
   | exact LeO.none _
   | refine LeO.ite ?_ ?_
   | refine LeO.bind ?_ (fun _ => ?_)
  ·intro y0 y1 y2 y3 y4 y5 y6 y7 y8 y9 y10
   unfold spec_DataOK.l1
   repeat' first
   | (with_reducible exact ih0 _ _ _ _)
   | (with_reducible exact ih1 _ _ _ _ _ _ _ _ _ _)
   | (with_reducible exact ih2 _ _ _ _ _ _ _ _ _ _ _)
   | (with_reducible exact ih3 _ _ _ _ _ _ _ _ _)
   | (with_reducible exact ih4 _ _ _ _ _ _ _ _ _ _ _)
   | (with_reducible exact ih5 _ _ _ _ _ _ _ _ _ _ _ _ _ _)
   | (with_reducible exact ih6 _ _ _ _ _ _ _)
   | (with_reducible exact spec_l2Name.mono _ _)
   | (with_reducible exact spec_l2SortedRows.mono _ _ _)
   | (with_reducible exact LeO.refl _)
   | (with_reducible exact LeO.none _)
   | (with_reducible refine LeO.ite ?_ ?_)
   | (with_reducible refine LeO.bind ?_ (fun _ => ?_))
   | exact ih0 _ _ _ _
   | exact ih1 _ _ _ _ _ _ _ _ _ _
   | exact ih2 _ _ _ _ _ _ _ _ _ _ _
   | exact ih3 _ _ _ _ _ _ _ _ _
   | exact ih4 _ _ _ _ _ _ _ _ _ _ _
   | exact ih5 _ _ _ _ _ _ _ _ _ _ _ _ _ _
   | exact ih6 _ _ _ _ _ _ _
   | exact spec_l2Name.mono _ _
   | exact spec_l2SortedRows.mono _ _ _
   | exact LeO.none _
   | refine LeO.ite ?_ ?_
   | refine LeO.bind ?_ (fun _ => ?_)
  ·intro y0 y1 y2 y3 y4 y5 y6 y7 y8
   unfold spec_DataOK.j3
   repeat' first
   | (with_reducible exact ih0 _ _ _ _)
   | (with_reducible exact ih1 _ _ _ _ _ _ _ _ _ _)
   | (with_reducible exact ih2 _ _ _ _ _ _ _ _ _ _ _)
   | (with_reducible exact ih3 _ _ _ _ _ _ _ _ _)
   | (with_reducible exact ih4 _ _ _ _ _ _ _ _ _ _ _)
   | (with_reducible exact ih5 _ _ _ _ _ _ _ _ _ _ _ _ _ _)
   | (with_reducible exact ih6 _ _ _ _ _ _ _)
   | (with_reducible exact spec_l2Name.mono _ _)
   | (with_reducible exact spec_l2SortedRows.mono _ _ _)
   | (with_reducible exact LeO.refl _)
   | (with_reducible exact LeO.none _)
   | (with_reducible refine LeO.ite ?_ ?_)
   | (with_reducible refine LeO.bind ?_ (fun _ => ?_))
   | exact ih0 _ _ _ _
   | exact ih1 _ _ _ _ _ _ _ _ _ _
   | exact ih2 _ _ _ _ _ _ _ _ _ _ _
   | exact ih3 _ _ _ _ _ _ _ _ _
   | exact ih4 _ _ _ _ _ _ _ _ _ _ _
   | exact ih5 _ _ _ _ _ _ _ _ _ _ _ _ _ _
   | exact ih6 _ _ _ _ _ _ _
   | exact spec_l2Name.mono _ _
   | exact spec_l2SortedRows.mono _ _ _
   | exact LeO.none _
   | refine LeO.ite ?_ ?_
   | refine LeO.bind ?_ (fun _ => ?_)
  ·intro y0 y1 y2 y3 y4 y5 y6 y7 y8 y9 y10
   unfold spec_DataOK.l2
   repeat' first
   | (with_reducible exact ih0 _ _ _ _)
   | (with_reducible exact ih1 _ _ _ _ _ _ _ _ _ _)
   | (with_reducible exact ih2 _ _ _ _ _ _ _ _ _ _ _)
   | (with_reducible exact ih3 _ _ _ _ _ _ _ _ _)
   | (with_reducible exact ih4 _ _ _ _ _ _ _ _ _ _ _)
   | (with_reducible exact ih5 _ _ _ _ _ _ _ _ _ _ _ _ _ _)
   | (with_reducible exact ih6 _ _ _ _ _ _ _)
   | (with_reducible exact spec_l2Name.mono _ _)
   | (with_reducible exact spec_l2SortedRows.mono _ _ _)
   | (with_reducible exact LeO.refl _)
   | (with_reducible exact LeO.none _)
   | (with_reducible refine LeO.ite ?_ ?_)
   | (with_reducible refine LeO.bind ?_ (fun _ => ?_))
   | exact ih0 _ _ _ _
   | exact ih1 _ _ _ _ _ _ _ _ _ _
   | exact ih2 _ _ _ _ _ _ _ _ _ _ _
   | exact ih3 _ _ _ _ _ _ _ _ _
   | exact ih4 _ _ _ _ _ _ _ _ _ _ _
   | exact ih5 _ _ _ _ _ _ _ _ _ _ _ _ _ _
   | exact ih6 _ _ _ _ _ _ _
   | exact spec_l2Name.mono _ _
   | exact spec_l2SortedRows.mono _ _ _
   | exact LeO.none _
   | refine LeO.ite ?_ ?_
   | refine LeO.bind ?_ (fun _ => ?_)
  ·intro y0 y1 y2 y3 y4 y5 y6 y7 y8 y9 y10 y11 y12 y13
   unfold spec_DataOK.l3
   repeat' first
   | (with_reducible exact ih0 _ _ _ _)
   | (with_reducible exact ih1 _ _ _ _ _ _ _ _ _ _)
   | (with_reducible exact ih2 _ _ _ _ _ _ _ _ _ _ _)
   | (with_reducible exact ih3 _ _ _ _ _ _ _ _ _)
   | (with_reducible exact ih4 _ _ _ _ _ _ _ _ _ _ _)
   | (with_reducible exact ih5 _ _ _ _ _ _ _ _ _ _ _ _ _ _)
   | (with_reducible exact ih6 _ _ _ _ _ _ _)
   | (with_reducible exact spec_l2Name.mono _ _)
   | (with_reducible exact spec_l2SortedRows.mono _ _ _)
   | (with_reducible exact LeO.refl _)
   | (with_reducible exact LeO.none _)
   | (with_reducible refine LeO.ite ?_ ?_)
   | (with_reducible refine LeO.bind ?_ (fun _ => ?_))
   | exact ih0 _ _ _ _
   | exact ih1 _ _ _ _ _ _ _ _ _ _
   | exact ih2 _ _ _ _ _ _ _ _ _ _ _
   | exact ih3 _ _ _ _ _ _ _ _ _
   | exact ih4 _ _ _ _ _ _ _ _ _ _ _
   | exact ih5 _ _ _ _ _ _ _ _ _ _ _ _ _ _
   | exact ih6 _ _ _ _ _ _ _
   | exact spec_l2Name.mono _ _
   | exact spec_l2SortedRows.mono _ _ _
   | exact LeO.none _
   | refine LeO.ite ?_ ?_
   | refine LeO.bind ?_ (fun _ => ?_)
  ·intro y0 y1 y2 y3 y4 y5 y6
   unfold spec_DataOK.l4
   repeat' first
   | (with_reducible exact ih0 _ _ _ _)
   | (with_reducible exact ih1 _ _ _ _ _ _ _ _ _ _)
   | (with_reducible exact ih2 _ _ _ _ _ _ _ _ _ _ _)
   | (with_reducible exact ih3 _ _ _ _ _ _ _ _ _)
   | (with_reducible exact ih4 _ _ _ _ _ _ _ _ _ _ _)
   | (with_reducible exact ih5 _ _ _ _ _ _ _ _ _ _ _ _ _ _)
   | (with_reducible exact ih6 _ _ _ _ _ _ _)
   | (with_reducible exact spec_l2Name.mono _ _)
   | (with_reducible exact spec_l2SortedRows.mono _ _ _)
   | (with_reducible exact LeO.refl _)
   | (with_reducible exact LeO.none _)
   | (with_reducible refine LeO.ite ?_ ?_)
   | (with_reducible refine LeO.bind ?_ (fun _ => ?_))
   | exact ih0 _ _ _ _
   | exact ih1 _ _ _ _ _ _ _ _ _ _
   | exact ih2 _ _ _ _ _ _ _ _ _ _ _
   | exact ih3 _ _ _ _ _ _ _ _ _
   | exact ih4 _ _ _ _ _ _ _ _ _ _ _
   | exact ih5 _ _ _ _ _ _ _ _ _ _ _ _ _ _
   | exact ih6 _ _ _ _ _ _ _
   | exact spec_l2Name.mono _ _
   | exact spec_l2SortedRows.mono _ _ _
   | exact LeO.none _
   | refine LeO.ite ?_ ?_
   | refine LeO.bind ?_ (fun _ => ?_)
theorem spec_DataOK.mono : ∀ a0 k, LeO (spec_DataOK.f k a0) (spec_DataOK.f (k + 1) a0) := by
 intro a0 k
 obtain ⟨ih0, ih1, ih2, ih3, ih4, ih5, ih6⟩ := spec_DataOK.mono_l k
 unfold spec_DataOK.f
 repeat' first
   | (with_reducible exact ih0 _ _ _ _)
   | (with_reducible exact ih1 _ _ _ _ _ _ _ _ _ _)
   | (with_reducible exact ih2 _ _ _ _ _ _ _ _ _ _ _)
   | (with_reducible exact ih3 _ _ _ _ _ _ _ _ _)
   | (with_reducible exact ih4 _ _ _ _ _ _ _ _ _ _ _)
   | (with_reducible exact ih5 _ _ _ _ _ _ _ _ _ _ _ _ _ _)
   | (with_reducible exact ih6 _ _ _ _ _ _ _)
   | (with_reducible exact spec_l2Name.mono _ _)
   | (with_reducible exact spec_l2SortedRows.mono _ _ _)
   | (with_reducible exact LeO.refl _)
   | (with_reducible exact LeO.none _)
   | (with_reducible refine LeO.ite ?_ ?_)
   | (with_reducible refine LeO.bind ?_ (fun _ => ?_))
   | exact ih0 _ _ _ _
   | exact ih1 _ _ _ _ _ _ _ _ _ _
   | exact ih2 _ _ _ _ _ _ _ _ _ _ _
   | exact ih3 _ _ _ _ _ _ _ _ _
   | exact ih4 _ _ _ _ _ _ _ _ _ _ _
   | exact ih5 _ _ _ _ _ _ _ _ _ _ _ _ _ _
   | exact ih6 _ _ _ _ _ _ _
   | exact spec_l2Name.mono _ _
   | exact spec_l2SortedRows.mono _ _ _
   | exact LeO.none _
   | refine LeO.ite ?_ ?_
   | refine LeO.bind ?_ (fun _ => ?_)
set_option maxHeartbeats 8000000 in
set_option maxRecDepth 100000 in
theorem spec_DataOK.calls (k : Nat) (A0_0 : Option Addr) (c0_0 : Nat) (l0_0 : List (S55)) (r : Bool) (w : World) (hr0_0 : Kd.C k55 w A0_0 l0_0.length l0_0) (hc0_0 : l0_0.length ≤ c0_0) (h : spec_DataOK.f k l0_0 = some r) :
  Calls Tryd.prog 21 #[.agg #[.slice A0_0 l0_0.length c0_0]] w fun e w' => e = .returned (.bool r) ∧ Below w.heap.size w w' := by
 have hu29 := Tryd.underlying29
 have hu55 := Tryd.underlying55
 have HR0_0 := Aside0.mk hr0_0
 have HC0_0 := Aside0.mk hc0_0
 clear hr0_0 hc0_0
 have HB := Aside0.mk (Below.refl w.heap.size w)
 have H : (if (l0_0.length : Int) > 50 then (some false) else (spec_DataOK.l0 k l0_0 (l0_0.length : Int) 0 l0_0)) = some r := h
 clear h
 by_cases c2 : (l0_0.length : Int) > 50
 ·rw [if_pos c2] at H
  have c2b0 : decide (50 < (l0_0.length : Int)) = true := decide_eq_true c2
  have c2b1 : decide (50 < l0_0.length) = true := decide_eq_true (by omega)
  clear c2
  obtain rfl := Option.some.inj H
  go_enter Tryd.func21, Tryd.ntmps21
  go_wp2_with (first | ((with_reducible refine gate_dst (N := 1) rfl ?_); (try (refine gate_guard (by rfl) ?_; dsimp only)); refine box_event ?hg (N := 1) ?hd (cs := #[.slice A0_0 l0_0.length c0_0]) (t := 29) ?hr ?_; (case hd => rfl); (case hg => rfl); (case hr => first | (go_simp; done) | (go_simp; rfl)); intro gb120 hg w3 hbox hb; have n0_ := Aside0.mk (below_step (by repeat (first | (with_reducible first | exact HB.out | apply below_alloc | apply pw_below_drewN | apply below_drew1) | exact HB.out)) hb); have n1_ := Aside0.mk (hbox); have n2_ := Aside0.mk ((by rw [hg]; exact (below_size (by repeat (first | (with_reducible first | exact HB.out | apply below_alloc | apply pw_below_drewN | apply below_drew1) | exact HB.out))) : w.heap.size ≤ gb120)); have n3_ := Aside0.mk ((by rw [hg]; exact (below_size (by repeat (first | (with_reducible first | exact HB.out | apply below_alloc | apply pw_below_drewN | apply below_drew1) | exact HB.out))) : w.heap.size ≤ gb120)); clear HB; have HB := n0_; have BK120 := n1_; have GW120 := n2_; have GE120 := n3_; clear n0_ n1_ n2_ n3_; clear hb hbox hg; have hcz4_0 : w3.cell? ⟨gb120, 0, none⟩ = some (.slice A0_0 l0_0.length c0_0) := (blk_cell BK120.out 0).trans rfl; have hfz4_0 := blk_frozen BK120.out 0))
  go_ret
  exact ⟨by first | rfl | (simp [errW_none, errW_some] <;> rfl) | (simp [*, errW_none, errW_some] <;> rfl), by repeat (first | (with_reducible first | exact HB.out | apply below_alloc | apply pw_below_drewN | apply below_drew1 | refine below_set ?_ GE120.out) | exact HB.out)⟩
 ·rw [if_neg c2] at H
  have c2b0 : decide (50 < (l0_0.length : Int)) = false := decide_eq_false c2
  have c2b1 : decide (50 < l0_0.length) = false := decide_eq_false (by omega)
  clear c2
  have H' := Aside0.mk H
  clear H
  go_enter Tryd.func21, Tryd.ntmps21
  go_wp2_with (first | ((with_reducible refine gate_dst (N := 1) rfl ?_); (try (refine gate_guard (by rfl) ?_; dsimp only)); refine box_event ?hg (N := 1) ?hd (cs := #[.slice A0_0 l0_0.length c0_0]) (t := 29) ?hr ?_; (case hd => rfl); (case hg => rfl); (case hr => first | (go_simp; done) | (go_simp; rfl)); intro gb120 hg w5 hbox hb; have n0_ := Aside0.mk (below_step (by repeat (first | (with_reducible first | exact HB.out | apply below_alloc | apply pw_below_drewN | apply below_drew1) | exact HB.out)) hb); have n1_ := Aside0.mk (hbox); have n2_ := Aside0.mk ((by rw [hg]; exact (below_size (by repeat (first | (with_reducible first | exact HB.out | apply below_alloc | apply pw_below_drewN | apply below_drew1) | exact HB.out))) : w.heap.size ≤ gb120)); have n3_ := Aside0.mk ((by rw [hg]; exact (below_size (by repeat (first | (with_reducible first | exact HB.out | apply below_alloc | apply pw_below_drewN | apply below_drew1) | exact HB.out))) : w.heap.size ≤ gb120)); clear HB; have HB := n0_; have BK120 := n1_; have GW120 := n2_; have GE120 := n3_; clear n0_ n1_ n2_ n3_; clear hb hbox hg; have hcz6_0 : w5.cell? ⟨gb120, 0, none⟩ = some (.slice A0_0 l0_0.length c0_0) := (blk_cell BK120.out 0).trans rfl; have hfz6_0 := blk_frozen BK120.out 0))
  go_loopg [20] k (fun kq v20 w' => ∃ (x20_1 : Int), v20 = .int .i64 x20_1 ∧ Aside0 (spec_DataOK.l0 kq l0_0 (l0_0.length : Int) x20_1 l0_0 = some r) ∧ Aside0 (kq ≤ k) ∧ Aside0 (w'.heap[gb120]? = some (.cells #[(.slice A0_0 l0_0.length c0_0)] 29 (0, 0))) ∧ Aside0 (Below w.heap.size w w'))
  case atStart => exact ⟨(0), (by first | rfl | (simp; done) | (simp [*]; done)), H', ⟨Nat.le_refl _⟩, ⟨by (with_reducible repeat (first | refine blk_drewN ?_ _ | refine blk_drew ?_ | refine blk_alloc ?_ _)); exact BK120.out⟩, ⟨by repeat (first | (with_reducible first | exact HB.out | apply below_alloc | apply pw_below_drewN | apply below_drew1 | refine below_set ?_ GE120.out) | exact HB.out)⟩⟩
  case round =>
   clear H'
   try clear c2
   try clear c2b0
   try clear c2b1
   try clear p2
   try clear hcz4_0
   try clear hcz6_0
   try clear hfz4_0
   try clear hfz6_0
   obtain ⟨x20_1, rfl, HA, HK1, BK120, HB⟩ := hrel
   cases gk with
   | zero => exact absurd HA.out (by simp [spec_DataOK.l0])
   | succ k1 =>
    have H := HA.out
    clear HA
    simp only [spec_DataOK.l0] at H
    by_cases c7 : x20_1 < (l0_0.length : Int)
    ·rw [if_pos c7] at H
     have c7b0 : decide (x20_1 < (l0_0.length : Int)) = true := decide_eq_true c7
     clear c7
     by_cases c8 : 0 ≤ x20_1
     ·rw [if_pos c8] at H
      have c8b0 : decide (0 ≤ x20_1) = true := decide_eq_true c8
      clear c8
      by_cases c9 : x20_1 < (l0_0.length : Int)
      ·rw [if_pos c9] at H
       have c9b0 : decide (x20_1 < (l0_0.length : Int)) = true := decide_eq_true c9
       clear c9
       have HC10 := Aside0.mk H
       clear H
       have p121 : 0 ≤ (x20_1 : Int) := of_decide_eq_true (by first | (with_reducible assumption) | assumption)
       have q121 : x20_1 < (l0_0.length : Int) := of_decide_eq_true (by first | (with_reducible assumption) | assumption)
       obtain ⟨ad121, A121_2, c121_2, A121_3, c121_3, e121, hx121_0, hx121_1, hx121_2, hx121_3, hl121_2, hi121_2, hl121_3, hi121_3⟩ := at_T55 HR0_0.out x20_1 p121 q121
       cases e121
       replace hx121_0 := (HB.out.cell (World.block_lt_of_cell? w _ hx121_0)).trans hx121_0
       replace hx121_1 := (HB.out.cell (World.block_lt_of_cell? w _ hx121_1)).trans hx121_1
       replace hx121_2 := (HB.out.cell (World.block_lt_of_cell? w _ hx121_2)).trans hx121_2
       replace hx121_3 := (HB.out.cell (World.block_lt_of_cell? w _ hx121_3)).trans hx121_3
       have HR121_2 := Aside0.mk hi121_2
       have HC121_2 := Aside0.mk hl121_2
       clear hi121_2 hl121_2
       have HR121_3 := Aside0.mk hi121_3
       have HC121_3 := Aside0.mk hl121_3
       clear hi121_3 hl121_3
       replace p121 := eq_true p121
       replace q121 := eq_true q121
       go_upto_region 6 with (first | ((with_reducible refine gate_dst (N := 4) rfl ?_); (try (refine gate_guard (by rfl) ?_; dsimp only)); refine box_event ?hg (N := 4) ?hd (cs := #[.string (⟨#[]⟩ : ByteArray), .int .i64 0, .slice none 0 0, .slice none 0 0]) (t := 55) ?hr ?_; (case hd => rfl); (case hg => rfl); (case hr => first | (go_simp; done) | (go_simp; rfl)); intro gb122 hg w11 hbox hb; have n0_ := Aside0.mk (blk_below (g := gb120) (o := .cells #[.slice (some ad121) l0_0.length c0_0] 29 (0, 0)) (by (with_reducible repeat (first | refine blk_drewN ?_ _ | refine blk_drew ?_ | refine blk_alloc ?_ _)); exact BK120.out) hb); have n1_ := Aside0.mk (below_step (by repeat (first | (with_reducible first | exact HB.out | apply below_alloc | apply pw_below_drewN | apply below_drew1 | refine below_set ?_ GE120.out) | exact HB.out)) hb); have n2_ := Aside0.mk (hbox); have n3_ := Aside0.mk ((by rw [hg]; exact (below_size (by repeat (first | (with_reducible first | exact HB.out | apply below_alloc | apply pw_below_drewN | apply below_drew1 | refine below_set ?_ GE120.out) | exact HB.out))) : w.heap.size ≤ gb122)); have n4_ := Aside0.mk ((by rw [hg]; exact (below_size (by repeat (first | (with_reducible first | exact HB.out | apply below_alloc | apply pw_below_drewN | apply below_drew1 | refine below_set ?_ GE120.out) | exact HB.out))) : w.heap.size ≤ gb122)); have n5_ := Aside0.mk ((by rw [hg]; exact Nat.ne_of_lt (blk_lt (g := gb120) (o := .cells #[.slice (some ad121) l0_0.length c0_0] 29 (0, 0)) (by (with_reducible repeat (first | refine blk_drewN ?_ _ | refine blk_drew ?_ | refine blk_alloc ?_ _)); exact BK120.out)) : gb120 ≠ gb122)); have n6_ := Aside0.mk ((by rw [hg]; exact Nat.ne_of_gt (blk_lt (g := gb120) (o := .cells #[.slice (some ad121) l0_0.length c0_0] 29 (0, 0)) (by (with_reducible repeat (first | refine blk_drewN ?_ _ | refine blk_drew ?_ | refine blk_alloc ?_ _)); exact BK120.out)) : gb122 ≠ gb120)); clear BK120; clear HB; have BK120 := n0_; have HB := n1_; have BK122 := n2_; have GW122 := n3_; have GE122 := n4_; have NB120_122 := n5_; have NB122_120 := n6_; clear n0_ n1_ n2_ n3_ n4_ n5_ n6_; clear hb hbox hg; have hnb12 := NB122_120.out; have hnc12 := NB120_122.out; have hcz13_0 : w11.cell? ⟨gb122, 0, none⟩ = some (.string (⟨#[]⟩ : ByteArray)) := (blk_cell BK122.out 0).trans rfl; have hcz13_1 : w11.cell? ⟨gb122, 1, none⟩ = some (.int .i64 0) := (blk_cell BK122.out 1).trans rfl; have hcz13_2 : w11.cell? ⟨gb122, 2, none⟩ = some (.slice none 0 0) := (blk_cell BK122.out 2).trans rfl; have hcz13_3 : w11.cell? ⟨gb122, 3, none⟩ = some (.slice none 0 0) := (blk_cell BK122.out 3).trans rfl; have hfz13_0 := blk_frozen BK122.out 0; have hfz13_1 := blk_frozen BK122.out 1; have hfz13_2 := blk_frozen BK122.out 2; have hfz13_3 := blk_frozen BK122.out 3))
       (try simp only [Act.put, List.setIfInBounds_toArray, List.set_cons_zero, List.set_cons_succ])
       go_cut [45] (fun v45 wc => ∃ (kq : Nat) (x45_9 : Bool), v45 = .bool x45_9 ∧ Aside0 (spec_DataOK.j1 kq x20_1 l0_0 (l0_0.length : Int) x20_1 x45_9 l0_0 ((rd_T55 l0_0 x20_1).f0) ((rd_T55 l0_0 x20_1).f1) ((rd_T55 l0_0 x20_1).f2) ((rd_T55 l0_0 x20_1).f3) = some r) ∧ Aside0 (kq ≤ k1) ∧ Aside0 (wc.heap[gb120]? = some (.cells #[(.slice (some ad121) l0_0.length c0_0)] 29 (0, 0))) ∧ Aside0 (wc.heap[gb122]? = some (.cells #[.string ((rd_T55 l0_0 x20_1).f0), .int .i64 ((rd_T55 l0_0 x20_1).f1), (.slice A121_2 ((rd_T55 l0_0 x20_1).f2).length c121_2), (.slice A121_3 ((rd_T55 l0_0 x20_1).f3).length c121_3)] 55 (0, 0))) ∧ Aside0 (Below w.heap.size w wc))
       case first =>
        have H := HC10.out
        clear HC10
        replace H := Option.bind_eq_some_iff.mp H
        obtain ⟨t123, A140, H⟩ := H
        replace H : (if t123 = true then (if ((rd_T55 l0_0 x20_1).f0).toList = ([114, 101, 108] : List UInt8) then (spec_DataOK.j1 k1 x20_1 l0_0 (l0_0.length : Int) x20_1 true l0_0 ((rd_T55 l0_0 x20_1).f0) ((rd_T55 l0_0 x20_1).f1) ((rd_T55 l0_0 x20_1).f2) ((rd_T55 l0_0 x20_1).f3)) else ((spec_l1Between.f ((rd_T55 l0_0 x20_1).f1) 1 3).bind fun t124 => (if t124 = true then (spec_DataOK.j1 k1 x20_1 l0_0 (l0_0.length : Int) x20_1 (decide ((((rd_T55 l0_0 x20_1).f2).length : Int) > 2000)) l0_0 ((rd_T55 l0_0 x20_1).f0) ((rd_T55 l0_0 x20_1).f1) ((rd_T55 l0_0 x20_1).f2) ((rd_T55 l0_0 x20_1).f3)) else (spec_DataOK.j1 k1 x20_1 l0_0 (l0_0.length : Int) x20_1 true l0_0 ((rd_T55 l0_0 x20_1).f0) ((rd_T55 l0_0 x20_1).f1) ((rd_T55 l0_0 x20_1).f2) ((rd_T55 l0_0 x20_1).f3))))) else (spec_DataOK.j1 k1 x20_1 l0_0 (l0_0.length : Int) x20_1 true l0_0 ((rd_T55 l0_0 x20_1).f0) ((rd_T55 l0_0 x20_1).f1) ((rd_T55 l0_0 x20_1).f2) ((rd_T55 l0_0 x20_1).f3))) = some r := H
        have A14 := Aside0.mk A140
        clear A140
        by_cases c15 : t123 = true
        ·subst c15
         have H1 : (if ((rd_T55 l0_0 x20_1).f0).toList = ([114, 101, 108] : List UInt8) then (spec_DataOK.j1 k1 x20_1 l0_0 (l0_0.length : Int) x20_1 true l0_0 ((rd_T55 l0_0 x20_1).f0) ((rd_T55 l0_0 x20_1).f1) ((rd_T55 l0_0 x20_1).f2) ((rd_T55 l0_0 x20_1).f3)) else ((spec_l1Between.f ((rd_T55 l0_0 x20_1).f1) 1 3).bind fun t124 => (if t124 = true then (spec_DataOK.j1 k1 x20_1 l0_0 (l0_0.length : Int) x20_1 (decide ((((rd_T55 l0_0 x20_1).f2).length : Int) > 2000)) l0_0 ((rd_T55 l0_0 x20_1).f0) ((rd_T55 l0_0 x20_1).f1) ((rd_T55 l0_0 x20_1).f2) ((rd_T55 l0_0 x20_1).f3)) else (spec_DataOK.j1 k1 x20_1 l0_0 (l0_0.length : Int) x20_1 true l0_0 ((rd_T55 l0_0 x20_1).f0) ((rd_T55 l0_0 x20_1).f1) ((rd_T55 l0_0 x20_1).f2) ((rd_T55 l0_0 x20_1).f3))))) = some r := by rw [if_pos rfl] at H; exact H
         clear H
         have H := H1
         clear H1
         by_cases c16 : ((rd_T55 l0_0 x20_1).f0).toList = ([114, 101, 108] : List UInt8)
         ·rw [if_pos c16] at H
          have c16b0 : (((rd_T55 l0_0 x20_1).f0).toList == ([114, 101, 108] : List UInt8)) = true := beq_iff_eq.mpr c16
          have c16b1 : (((rd_T55 l0_0 x20_1).f0).toList != ([114, 101, 108] : List UInt8)) = false := bne_eq_false_iff_eq.mpr c16
          clear c16
          (first | rw [c16b0] | (simp only [i64_w, i32_w]; rw [c16b0]) | skip)
          have H' := Aside0.mk H
          clear H
          have hnb17 := NB122_120.out
          have hnc17 := NB120_122.out
          have hcz18_0 : w11.cell? ⟨gb122, 0, none⟩ = some (.string (⟨#[]⟩ : ByteArray)) := (blk_cell BK122.out 0).trans rfl
          have hcz18_1 : w11.cell? ⟨gb122, 1, none⟩ = some (.int .i64 0) := (blk_cell BK122.out 1).trans rfl
          have hcz18_2 : w11.cell? ⟨gb122, 2, none⟩ = some (.slice none 0 0) := (blk_cell BK122.out 2).trans rfl
          have hcz18_3 : w11.cell? ⟨gb122, 3, none⟩ = some (.slice none 0 0) := (blk_cell BK122.out 3).trans rfl
          have hfz18_0 := blk_frozen BK122.out 0
          have hfz18_1 := blk_frozen BK122.out 1
          have hfz18_2 := blk_frozen BK122.out 2
          have hfz18_3 := blk_frozen BK122.out 3
          go_wp2_with (first | ((with_reducible refine gate_callee (f := 54) rfl ?_); refine goesL_ (some 27) rfl rfl Tryd.func54 (by kernel_rfl) rfl #[.string ((rd_T55 l0_0 x20_1).f0)] rfl (by (try simp only [List.map_toArray, List.map_cons, List.map_nil]); first | done | rfl | (simp only [List.length_drop, List.length_take]; rfl)) ?_; (with_reducible refine (spec_l2Name.calls k1 ((rd_T55 l0_0 x20_1).f0) true _ A14.out).mono ?_); rintro e w' ⟨rfl, ⟨nd, rfl⟩⟩; refine ⟨_, rfl, ?_⟩))
          go_meet
          case rel => exact ⟨_, (true), (by first | rfl | (simp; done) | (simp [*]; done)), H', ⟨by have := HK1.out; first | omega | exact Nat.le_refl _⟩, ⟨by (with_reducible repeat (first | refine blk_drewN ?_ _ | refine blk_drew ?_ | refine blk_alloc ?_ _)); refine blk_far ?_ NB120_122.out _; (with_reducible repeat (first | refine blk_drewN ?_ _ | refine blk_drew ?_ | refine blk_alloc ?_ _)); refine blk_far ?_ NB120_122.out _; (with_reducible repeat (first | refine blk_drewN ?_ _ | refine blk_drew ?_ | refine blk_alloc ?_ _)); refine blk_far ?_ NB120_122.out _; (with_reducible repeat (first | refine blk_drewN ?_ _ | refine blk_drew ?_ | refine blk_alloc ?_ _)); refine blk_far ?_ NB120_122.out _; (with_reducible repeat (first | refine blk_drewN ?_ _ | refine blk_drew ?_ | refine blk_alloc ?_ _)); exact BK120.out⟩, ⟨by (with_reducible repeat (first | refine blk_drewN ?_ _ | refine blk_drew ?_ | refine blk_alloc ?_ _)); refine blk_put (cs := #[.string ((rd_T55 l0_0 x20_1).f0), .int .i64 ((rd_T55 l0_0 x20_1).f1), .slice A121_2 ((rd_T55 l0_0 x20_1).f2).length c121_2, .slice none 0 0]) ?_ 3 _ rfl; (with_reducible repeat (first | refine blk_drewN ?_ _ | refine blk_drew ?_ | refine blk_alloc ?_ _)); refine blk_put (cs := #[.string ((rd_T55 l0_0 x20_1).f0), .int .i64 ((rd_T55 l0_0 x20_1).f1), .slice none 0 0, .slice none 0 0]) ?_ 2 _ rfl; (with_reducible repeat (first | refine blk_drewN ?_ _ | refine blk_drew ?_ | refine blk_alloc ?_ _)); refine blk_put (cs := #[.string ((rd_T55 l0_0 x20_1).f0), .int .i64 0, .slice none 0 0, .slice none 0 0]) ?_ 1 _ rfl; (with_reducible repeat (first | refine blk_drewN ?_ _ | refine blk_drew ?_ | refine blk_alloc ?_ _)); refine blk_put (cs := #[.string (⟨#[]⟩ : ByteArray), .int .i64 0, .slice none 0 0, .slice none 0 0]) ?_ 0 _ rfl; (with_reducible repeat (first | refine blk_drewN ?_ _ | refine blk_drew ?_ | refine blk_alloc ?_ _)); exact BK122.out⟩, ⟨by repeat (first | (with_reducible first | exact HB.out | apply below_alloc | apply pw_below_drewN | apply below_drew1 | refine below_set ?_ GE120.out | refine below_set ?_ GE122.out) | exact HB.out)⟩⟩
         ·rw [if_neg c16] at H
          have c16b0 : (((rd_T55 l0_0 x20_1).f0).toList == ([114, 101, 108] : List UInt8)) = false := beq_eq_false_iff_ne.mpr c16
          have c16b1 : (((rd_T55 l0_0 x20_1).f0).toList != ([114, 101, 108] : List UInt8)) = true := bne_iff_ne.mpr c16
          (first | rw [c16b0] | (simp only [i64_w, i32_w]; rw [c16b0]) | skip)
          replace H := Option.bind_eq_some_iff.mp H
          obtain ⟨t124, A190, H⟩ := H
          replace H : (if t124 = true then (spec_DataOK.j1 k1 x20_1 l0_0 (l0_0.length : Int) x20_1 (decide ((((rd_T55 l0_0 x20_1).f2).length : Int) > 2000)) l0_0 ((rd_T55 l0_0 x20_1).f0) ((rd_T55 l0_0 x20_1).f1) ((rd_T55 l0_0 x20_1).f2) ((rd_T55 l0_0 x20_1).f3)) else (spec_DataOK.j1 k1 x20_1 l0_0 (l0_0.length : Int) x20_1 true l0_0 ((rd_T55 l0_0 x20_1).f0) ((rd_T55 l0_0 x20_1).f1) ((rd_T55 l0_0 x20_1).f2) ((rd_T55 l0_0 x20_1).f3))) = some r := H
          have A19 := Aside0.mk A190
          clear A190
          by_cases c20 : t124 = true
          ·subst c20
           have H1 : (spec_DataOK.j1 k1 x20_1 l0_0 (l0_0.length : Int) x20_1 (decide ((((rd_T55 l0_0 x20_1).f2).length : Int) > 2000)) l0_0 ((rd_T55 l0_0 x20_1).f0) ((rd_T55 l0_0 x20_1).f1) ((rd_T55 l0_0 x20_1).f2) ((rd_T55 l0_0 x20_1).f3)) = some r := by rw [if_pos rfl] at H; exact H
           clear H
           have H := H1
           clear H1
           have H' := Aside0.mk H
           clear H
           have hnb21 := NB122_120.out
           have hnc21 := NB120_122.out
           have hcz22_0 : w11.cell? ⟨gb122, 0, none⟩ = some (.string (⟨#[]⟩ : ByteArray)) := (blk_cell BK122.out 0).trans rfl
           have hcz22_1 : w11.cell? ⟨gb122, 1, none⟩ = some (.int .i64 0) := (blk_cell BK122.out 1).trans rfl
           have hcz22_2 : w11.cell? ⟨gb122, 2, none⟩ = some (.slice none 0 0) := (blk_cell BK122.out 2).trans rfl
           have hcz22_3 : w11.cell? ⟨gb122, 3, none⟩ = some (.slice none 0 0) := (blk_cell BK122.out 3).trans rfl
           have hfz22_0 := blk_frozen BK122.out 0
           have hfz22_1 := blk_frozen BK122.out 1
           have hfz22_2 := blk_frozen BK122.out 2
           have hfz22_3 := blk_frozen BK122.out 3
           go_wp2_with (first | ((with_reducible refine gate_callee (f := 54) rfl ?_); refine goesL_ (some 27) rfl rfl Tryd.func54 (by kernel_rfl) rfl #[.string ((rd_T55 l0_0 x20_1).f0)] rfl (by (try simp only [List.map_toArray, List.map_cons, List.map_nil]); first | done | rfl | (simp only [List.length_drop, List.length_take]; rfl)) ?_; (with_reducible refine (spec_l2Name.calls k1 ((rd_T55 l0_0 x20_1).f0) true _ A14.out).mono ?_); rintro e w' ⟨rfl, ⟨nd, rfl⟩⟩; refine ⟨_, rfl, ?_⟩) | (go_at_call 55; (with_reducible refine (spec_l1Between.calls ((rd_T55 l0_0 x20_1).f1) 1 3 true _ A19.out).mono ?_); rintro e w' ⟨rfl, ⟨nd, rfl⟩⟩))
           go_meet
           case rel => exact ⟨_, (decide ((((rd_T55 l0_0 x20_1).f2).length : Int) > 2000)), (by first | rfl | (simp; done) | (simp [*]; done)), H', ⟨by have := HK1.out; first | omega | exact Nat.le_refl _⟩, ⟨by (with_reducible repeat (first | refine blk_drewN ?_ _ | refine blk_drew ?_ | refine blk_alloc ?_ _)); refine blk_far ?_ NB120_122.out _; (with_reducible repeat (first | refine blk_drewN ?_ _ | refine blk_drew ?_ | refine blk_alloc ?_ _)); refine blk_far ?_ NB120_122.out _; (with_reducible repeat (first | refine blk_drewN ?_ _ | refine blk_drew ?_ | refine blk_alloc ?_ _)); refine blk_far ?_ NB120_122.out _; (with_reducible repeat (first | refine blk_drewN ?_ _ | refine blk_drew ?_ | refine blk_alloc ?_ _)); refine blk_far ?_ NB120_122.out _; (with_reducible repeat (first | refine blk_drewN ?_ _ | refine blk_drew ?_ | refine blk_alloc ?_ _)); exact BK120.out⟩, ⟨by (with_reducible repeat (first | refine blk_drewN ?_ _ | refine blk_drew ?_ | refine blk_alloc ?_ _)); refine blk_put (cs := #[.string ((rd_T55 l0_0 x20_1).f0), .int .i64 ((rd_T55 l0_0 x20_1).f1), .slice A121_2 ((rd_T55 l0_0 x20_1).f2).length c121_2, .slice none 0 0]) ?_ 3 _ rfl; (with_reducible repeat (first | refine blk_drewN ?_ _ | refine blk_drew ?_ | refine blk_alloc ?_ _)); refine blk_put (cs := #[.string ((rd_T55 l0_0 x20_1).f0), .int .i64 ((rd_T55 l0_0 x20_1).f1), .slice none 0 0, .slice none 0 0]) ?_ 2 _ rfl; (with_reducible repeat (first | refine blk_drewN ?_ _ | refine blk_drew ?_ | refine blk_alloc ?_ _)); refine blk_put (cs := #[.string ((rd_T55 l0_0 x20_1).f0), .int .i64 0, .slice none 0 0, .slice none 0 0]) ?_ 1 _ rfl; (with_reducible repeat (first | refine blk_drewN ?_ _ | refine blk_drew ?_ | refine blk_alloc ?_ _)); refine blk_put (cs := #[.string (⟨#[]⟩ : ByteArray), .int .i64 0, .slice none 0 0, .slice none 0 0]) ?_ 0 _ rfl; (with_reducible repeat (first | refine blk_drewN ?_ _ | refine blk_drew ?_ | refine blk_alloc ?_ _)); exact BK122.out⟩, ⟨by repeat (first | (with_reducible first | exact HB.out | apply below_alloc | apply pw_below_drewN | apply below_drew1 | refine below_set ?_ GE120.out | refine below_set ?_ GE122.out) | exact HB.out)⟩⟩
          ·replace c20 := Bool.eq_false_iff.mpr c20
           subst c20
           have H1 : (spec_DataOK.j1 k1 x20_1 l0_0 (l0_0.length : Int) x20_1 true l0_0 ((rd_T55 l0_0 x20_1).f0) ((rd_T55 l0_0 x20_1).f1) ((rd_T55 l0_0 x20_1).f2) ((rd_T55 l0_0 x20_1).f3)) = some r := by rw [if_neg (show ¬ (false = true) by decide)] at H; exact H
           clear H
           have H := H1
           clear H1
           have H' := Aside0.mk H
           clear H
           have hnb23 := NB122_120.out
           have hnc23 := NB120_122.out
           have hcz24_0 : w11.cell? ⟨gb122, 0, none⟩ = some (.string (⟨#[]⟩ : ByteArray)) := (blk_cell BK122.out 0).trans rfl
           have hcz24_1 : w11.cell? ⟨gb122, 1, none⟩ = some (.int .i64 0) := (blk_cell BK122.out 1).trans rfl
           have hcz24_2 : w11.cell? ⟨gb122, 2, none⟩ = some (.slice none 0 0) := (blk_cell BK122.out 2).trans rfl
           have hcz24_3 : w11.cell? ⟨gb122, 3, none⟩ = some (.slice none 0 0) := (blk_cell BK122.out 3).trans rfl
           have hfz24_0 := blk_frozen BK122.out 0
           have hfz24_1 := blk_frozen BK122.out 1
           have hfz24_2 := blk_frozen BK122.out 2
           have hfz24_3 := blk_frozen BK122.out 3
           go_wp2_with (first | ((with_reducible refine gate_callee (f := 54) rfl ?_); refine goesL_ (some 27) rfl rfl Tryd.func54 (by kernel_rfl) rfl #[.string ((rd_T55 l0_0 x20_1).f0)] rfl (by (try simp only [List.map_toArray, List.map_cons, List.map_nil]); first | done | rfl | (simp only [List.length_drop, List.length_take]; rfl)) ?_; (with_reducible refine (spec_l2Name.calls k1 ((rd_T55 l0_0 x20_1).f0) true _ A14.out).mono ?_); rintro e w' ⟨rfl, ⟨nd, rfl⟩⟩; refine ⟨_, rfl, ?_⟩) | (go_at_call 55; (with_reducible refine (spec_l1Between.calls ((rd_T55 l0_0 x20_1).f1) 1 3 false _ A19.out).mono ?_); rintro e w' ⟨rfl, ⟨nd, rfl⟩⟩))
           go_meet
           case rel => exact ⟨_, (true), (by first | rfl | (simp; done) | (simp [*]; done)), H', ⟨by have := HK1.out; first | omega | exact Nat.le_refl _⟩, ⟨by (with_reducible repeat (first | refine blk_drewN ?_ _ | refine blk_drew ?_ | refine blk_alloc ?_ _)); refine blk_far ?_ NB120_122.out _; (with_reducible repeat (first | refine blk_drewN ?_ _ | refine blk_drew ?_ | refine blk_alloc ?_ _)); refine blk_far ?_ NB120_122.out _; (with_reducible repeat (first | refine blk_drewN ?_ _ | refine blk_drew ?_ | refine blk_alloc ?_ _)); refine blk_far ?_ NB120_122.out _; (with_reducible repeat (first | refine blk_drewN ?_ _ | refine blk_drew ?_ | refine blk_alloc ?_ _)); refine blk_far ?_ NB120_122.out _; (with_reducible repeat (first | refine blk_drewN ?_ _ | refine blk_drew ?_ | refine blk_alloc ?_ _)); exact BK120.out⟩, ⟨by (with_reducible repeat (first | refine blk_drewN ?_ _ | refine blk_drew ?_ | refine blk_alloc ?_ _)); refine blk_put (cs := #[.string ((rd_T55 l0_0 x20_1).f0), .int .i64 ((rd_T55 l0_0 x20_1).f1), .slice A121_2 ((rd_T55 l0_0 x20_1).f2).length c121_2, .slice none 0 0]) ?_ 3 _ rfl; (with_reducible repeat (first | refine blk_drewN ?_ _ | refine blk_drew ?_ | refine blk_alloc ?_ _)); refine blk_put (cs := #[.string ((rd_T55 l0_0 x20_1).f0), .int .i64 ((rd_T55 l0_0 x20_1).f1), .slice none 0 0, .slice none 0 0]) ?_ 2 _ rfl; (with_reducible repeat (first | refine blk_drewN ?_ _ | refine blk_drew ?_ | refine blk_alloc ?_ _)); refine blk_put (cs := #[.string ((rd_T55 l0_0 x20_1).f0), .int .i64 0, .slice none 0 0, .slice none 0 0]) ?_ 1 _ rfl; (with_reducible repeat (first | refine blk_drewN ?_ _ | refine blk_drew ?_ | refine blk_alloc ?_ _)); refine blk_put (cs := #[.string (⟨#[]⟩ : ByteArray), .int .i64 0, .slice none 0 0, .slice none 0 0]) ?_ 0 _ rfl; (with_reducible repeat (first | refine blk_drewN ?_ _ | refine blk_drew ?_ | refine blk_alloc ?_ _)); exact BK122.out⟩, ⟨by repeat (first | (with_reducible first | exact HB.out | apply below_alloc | apply pw_below_drewN | apply below_drew1 | refine below_set ?_ GE120.out | refine below_set ?_ GE122.out) | exact HB.out)⟩⟩
        ·replace c15 := Bool.eq_false_iff.mpr c15
         subst c15
         have H1 : (spec_DataOK.j1 k1 x20_1 l0_0 (l0_0.length : Int) x20_1 true l0_0 ((rd_T55 l0_0 x20_1).f0) ((rd_T55 l0_0 x20_1).f1) ((rd_T55 l0_0 x20_1).f2) ((rd_T55 l0_0 x20_1).f3)) = some r := by rw [if_neg (show ¬ (false = true) by decide)] at H; exact H
         clear H
         have H := H1
         clear H1
         have H' := Aside0.mk H
         clear H
         have hnb25 := NB122_120.out
         have hnc25 := NB120_122.out
         have hcz26_0 : w11.cell? ⟨gb122, 0, none⟩ = some (.string (⟨#[]⟩ : ByteArray)) := (blk_cell BK122.out 0).trans rfl
         have hcz26_1 : w11.cell? ⟨gb122, 1, none⟩ = some (.int .i64 0) := (blk_cell BK122.out 1).trans rfl
         have hcz26_2 : w11.cell? ⟨gb122, 2, none⟩ = some (.slice none 0 0) := (blk_cell BK122.out 2).trans rfl
         have hcz26_3 : w11.cell? ⟨gb122, 3, none⟩ = some (.slice none 0 0) := (blk_cell BK122.out 3).trans rfl
         have hfz26_0 := blk_frozen BK122.out 0
         have hfz26_1 := blk_frozen BK122.out 1
         have hfz26_2 := blk_frozen BK122.out 2
         have hfz26_3 := blk_frozen BK122.out 3
         go_wp2_with (first | ((with_reducible refine gate_callee (f := 54) rfl ?_); refine goesL_ (some 27) rfl rfl Tryd.func54 (by kernel_rfl) rfl #[.string ((rd_T55 l0_0 x20_1).f0)] rfl (by (try simp only [List.map_toArray, List.map_cons, List.map_nil]); first | done | rfl | (simp only [List.length_drop, List.length_take]; rfl)) ?_; (with_reducible refine (spec_l2Name.calls k1 ((rd_T55 l0_0 x20_1).f0) false _ A14.out).mono ?_); rintro e w' ⟨rfl, ⟨nd, rfl⟩⟩; refine ⟨_, rfl, ?_⟩))
         go_meet
         case rel => exact ⟨_, (true), (by first | rfl | (simp; done) | (simp [*]; done)), H', ⟨by have := HK1.out; first | omega | exact Nat.le_refl _⟩, ⟨by (with_reducible repeat (first | refine blk_drewN ?_ _ | refine blk_drew ?_ | refine blk_alloc ?_ _)); refine blk_far ?_ NB120_122.out _; (with_reducible repeat (first | refine blk_drewN ?_ _ | refine blk_drew ?_ | refine blk_alloc ?_ _)); refine blk_far ?_ NB120_122.out _; (with_reducible repeat (first | refine blk_drewN ?_ _ | refine blk_drew ?_ | refine blk_alloc ?_ _)); refine blk_far ?_ NB120_122.out _; (with_reducible repeat (first | refine blk_drewN ?_ _ | refine blk_drew ?_ | refine blk_alloc ?_ _)); refine blk_far ?_ NB120_122.out _; (with_reducible repeat (first | refine blk_drewN ?_ _ | refine blk_drew ?_ | refine blk_alloc ?_ _)); exact BK120.out⟩, ⟨by (with_reducible repeat (first | refine blk_drewN ?_ _ | refine blk_drew ?_ | refine blk_alloc ?_ _)); refine blk_put (cs := #[.string ((rd_T55 l0_0 x20_1).f0), .int .i64 ((rd_T55 l0_0 x20_1).f1), .slice A121_2 ((rd_T55 l0_0 x20_1).f2).length c121_2, .slice none 0 0]) ?_ 3 _ rfl; (with_reducible repeat (first | refine blk_drewN ?_ _ | refine blk_drew ?_ | refine blk_alloc ?_ _)); refine blk_put (cs := #[.string ((rd_T55 l0_0 x20_1).f0), .int .i64 ((rd_T55 l0_0 x20_1).f1), .slice none 0 0, .slice none 0 0]) ?_ 2 _ rfl; (with_reducible repeat (first | refine blk_drewN ?_ _ | refine blk_drew ?_ | refine blk_alloc ?_ _)); refine blk_put (cs := #[.string ((rd_T55 l0_0 x20_1).f0), .int .i64 0, .slice none 0 0, .slice none 0 0]) ?_ 1 _ rfl; (with_reducible repeat (first | refine blk_drewN ?_ _ | refine blk_drew ?_ | refine blk_alloc ?_ _)); refine blk_put (cs := #[.string (⟨#[]⟩ : ByteArray), .int .i64 0, .slice none 0 0, .slice none 0 0]) ?_ 0 _ rfl; (with_reducible repeat (first | refine blk_drewN ?_ _ | refine blk_drew ?_ | refine blk_alloc ?_ _)); exact BK122.out⟩, ⟨by repeat (first | (with_reducible first | exact HB.out | apply below_alloc | apply pw_below_drewN | apply below_drew1 | refine below_set ?_ GE120.out | refine below_set ?_ GE122.out) | exact HB.out)⟩⟩
       case rest =>
        clear HC10
        try clear c1
        try clear p1
        try clear q1
        try clear hx1
        try clear c2
        try clear c2b0
        try clear c2b1
        try clear p2
        try clear c5
        try clear c7
        try clear c7b0
        try clear c8
        try clear c8b0
        try clear c9
        try clear c9b0
        try clear c12
        try clear p12
        try clear q12
        try clear hx12
        try clear c15
        try clear c16
        try clear c16b0
        try clear c16b1
        try clear c17
        try clear c20
        try clear c21
        try clear c23
        try clear c25
        try clear hcz13_0
        try clear hcz13_1
        try clear hcz13_2
        try clear hcz13_3
        try clear hcz18_0
        try clear hcz18_1
        try clear hcz18_2
        try clear hcz18_3
        try clear hcz22_0
        try clear hcz22_1
        try clear hcz22_2
        try clear hcz22_3
        try clear hcz24_0
        try clear hcz24_1
        try clear hcz24_2
        try clear hcz24_3
        try clear hcz26_0
        try clear hcz26_1
        try clear hcz26_2
        try clear hcz26_3
        try clear hcz4_0
        try clear hcz6_0
        try clear hfz13_0
        try clear hfz13_1
        try clear hfz13_2
        try clear hfz13_3
        try clear hfz18_0
        try clear hfz18_1
        try clear hfz18_2
        try clear hfz18_3
        try clear hfz22_0
        try clear hfz22_1
        try clear hfz22_2
        try clear hfz22_3
        try clear hfz24_0
        try clear hfz24_1
        try clear hfz24_2
        try clear hfz24_3
        try clear hfz26_0
        try clear hfz26_1
        try clear hfz26_2
        try clear hfz26_3
        try clear hfz4_0
        try clear hfz6_0
        try clear hx121_0
        try clear hx121_1
        try clear hx121_2
        try clear hx121_3
        try clear p121
        try clear p2
        try clear q121
        obtain ⟨kq, x45_9, rfl, HA, HJ9, BK120, BK122, HB⟩ := hcut
        cases kq with
        | zero => exact absurd HA.out (by simp [spec_DataOK.j1])
        | succ kj9 =>
         have H := HA.out
         clear HA
         simp only [spec_DataOK.j1] at H
         by_cases c27 : x45_9 = true
         ·subst c27
          have H1 : (some false) = some r := by rw [if_pos rfl] at H; exact H
          clear H
          have H := H1
          clear H1
          obtain rfl := Option.some.inj H
          go_wp2
          go_ret
          exact ⟨by first | rfl | (simp [errW_none, errW_some] <;> rfl) | (simp [*, errW_none, errW_some] <;> rfl), by repeat (first | (with_reducible first | exact HB.out | apply below_alloc | apply pw_below_drewN | apply below_drew1 | refine below_set ?_ GE120.out | refine below_set ?_ GE122.out) | exact HB.out)⟩
         ·replace c27 := Bool.eq_false_iff.mpr c27
          subst c27
          have H1 : (if 0 ≤ x20_1 then (if x20_1 ≤ (l0_0.length : Int) then ((some (l0_0.take (x20_1 : Int).toNat : List (S55))).bind fun y125 => (spec_DataOK.l1 kj9 l0_0 (l0_0.length : Int) x20_1 y125 (y125.length : Int) 0 l0_0 ((rd_T55 l0_0 x20_1).f0) ((rd_T55 l0_0 x20_1).f1) ((rd_T55 l0_0 x20_1).f2) ((rd_T55 l0_0 x20_1).f3))) else (none)) else (none)) = some r := by rw [if_neg (show ¬ (false = true) by decide)] at H; exact H
          clear H
          have H := H1
          clear H1
          by_cases c28 : 0 ≤ x20_1
          ·rw [if_pos c28] at H
           have c28b0 := eq_true c28
           have c28b1 : decide (0 ≤ x20_1) = true := decide_eq_true c28
           clear c28
           by_cases c29 : x20_1 ≤ (l0_0.length : Int)
           ·rw [if_pos c29] at H
            have c29b0 := eq_true c29
            have c29b1 : decide (x20_1 ≤ (l0_0.length : Int)) = true := decide_eq_true c29
            clear c29
            obtain ⟨y125, hy125⟩ : ∃ y_ : List (S55), y_ = (l0_0.take (x20_1 : Int).toNat) := ⟨_, rfl⟩
            replace H : (spec_DataOK.l1 kj9 l0_0 (l0_0.length : Int) x20_1 y125 (y125.length : Int) 0 l0_0 ((rd_T55 l0_0 x20_1).f0) ((rd_T55 l0_0 x20_1).f1) ((rd_T55 l0_0 x20_1).f2) ((rd_T55 l0_0 x20_1).f3)) = some r := by first | (rw [hy125]; with_reducible exact H) | (have H2_ := (Option.bind_some _ _).symm.trans H; rw [hy125]; with_reducible exact H2_) | (have H2_ := (Option.bind_some _ _).symm.trans H; with_reducible exact H2_) | with_reducible exact H | (rw [hy125]; exact H) | exact H
            have Ny125 := Aside0.mk hy125
            clear hy125
            have H' := Aside0.mk H
            clear H
            have hnb30 := NB120_122.out
            have hnc30 := NB122_120.out
            have hcz31_0 : wc.cell? ⟨gb120, 0, none⟩ = some (.slice (some ad121) l0_0.length c0_0) := (blk_cell BK120.out 0).trans rfl
            have hfz31_0 := blk_frozen BK120.out 0
            have q32 : (x20_1 : Int) ≤ ((l0_0.length : Int) : Int) := of_decide_eq_true (by first | (with_reducible assumption) | assumption)
            obtain ⟨i032, hi032, _, hsz32, _⟩ := info_parts info55
            have hroom32 : l0_0.length ≤ c0_0 := HC0_0.out
            have hC32 : Kd.C k55 _ (some ad121) l0_0.length l0_0 := HR0_0.out
            have hcut32 := cut_to (P := Tryd.prog) 27 55 .i64 Tryd.underlying27 hi032 (some ad121) l0_0.length c0_0 x20_1 (of_decide_eq_true (by first | (with_reducible assumption) | assumption)) q32 hroom32
            have hr32 := Kd.C_take (m := (x20_1 : Int).toNat) hC32 (by omega)
            have hy32 : y125.length = (x20_1 : Int).toNat := (by rw [Ny125.out, List.length_take]; omega)
            rw [← Ny125.out] at hr32
            rw [← hy32] at hcut32
            have HR128 := Aside0.mk hr32
            have HC128 := Aside0.mk (show y125.length ≤ c0_0 from by omega)
            clear hr32 hC32 hroom32 hi032 hsz32
            have KY32 := Aside0.mk hy32
            clear hy32
            replace q32 := eq_true q32
            go_wp2
            go_loopg [51] kj9 (fun kq v51 w' => ∃ (x51_3 : Int), v51 = .int .i64 x51_3 ∧ Aside0 (spec_DataOK.l1 kq l0_0 (l0_0.length : Int) x20_1 y125 (y125.length : Int) x51_3 l0_0 ((rd_T55 l0_0 x20_1).f0) ((rd_T55 l0_0 x20_1).f1) ((rd_T55 l0_0 x20_1).f2) ((rd_T55 l0_0 x20_1).f3) = some r) ∧ Aside0 (kq ≤ kj9) ∧ Aside0 (w'.heap[gb120]? = some (.cells #[(.slice (some ad121) l0_0.length c0_0)] 29 (0, 0))) ∧ Aside0 (w'.heap[gb122]? = some (.cells #[.string ((rd_T55 l0_0 x20_1).f0), .int .i64 ((rd_T55 l0_0 x20_1).f1), (.slice A121_2 ((rd_T55 l0_0 x20_1).f2).length c121_2), (.slice A121_3 ((rd_T55 l0_0 x20_1).f3).length c121_3)] 55 (0, 0))) ∧ Aside0 (Below w.heap.size w w'))
            case atStart => exact ⟨(0), (by first | rfl | (simp; done) | (simp [*]; done)), H', ⟨Nat.le_refl _⟩, ⟨by (with_reducible repeat (first | refine blk_drewN ?_ _ | refine blk_drew ?_ | refine blk_alloc ?_ _)); exact BK120.out⟩, ⟨by (with_reducible repeat (first | refine blk_drewN ?_ _ | refine blk_drew ?_ | refine blk_alloc ?_ _)); exact BK122.out⟩, ⟨by repeat (first | (with_reducible first | exact HB.out | apply below_alloc | apply pw_below_drewN | apply below_drew1 | refine below_set ?_ GE120.out | refine below_set ?_ GE122.out) | exact HB.out)⟩⟩
            case round =>
             clear H'
             try clear c1
             try clear p1
             try clear q1
             try clear hx1
             try clear c2
             try clear c2b0
             try clear c2b1
             try clear p2
             try clear c3
             try clear q3
             try clear c5
             try clear c7
             try clear c7b0
             try clear c8
             try clear c8b0
             try clear c9
             try clear c9b0
             try clear c12
             try clear p12
             try clear q12
             try clear hx12
             try clear c15
             try clear c16
             try clear c16b0
             try clear c16b1
             try clear c17
             try clear c20
             try clear c21
             try clear c23
             try clear c25
             try clear c27
             try clear c28
             try clear c28b0
             try clear c28b1
             try clear c29
             try clear c29b0
             try clear c29b1
             try clear c30
             try clear q32
             try clear hcz13_0
             try clear hcz13_1
             try clear hcz13_2
             try clear hcz13_3
             try clear hcz18_0
             try clear hcz18_1
             try clear hcz18_2
             try clear hcz18_3
             try clear hcz22_0
             try clear hcz22_1
             try clear hcz22_2
             try clear hcz22_3
             try clear hcz24_0
             try clear hcz24_1
             try clear hcz24_2
             try clear hcz24_3
             try clear hcz26_0
             try clear hcz26_1
             try clear hcz26_2
             try clear hcz26_3
             try clear hcz31_0
             try clear hcz4_0
             try clear hcz6_0
             try clear hfz13_0
             try clear hfz13_1
             try clear hfz13_2
             try clear hfz13_3
             try clear hfz18_0
             try clear hfz18_1
             try clear hfz18_2
             try clear hfz18_3
             try clear hfz22_0
             try clear hfz22_1
             try clear hfz22_2
             try clear hfz22_3
             try clear hfz24_0
             try clear hfz24_1
             try clear hfz24_2
             try clear hfz24_3
             try clear hfz26_0
             try clear hfz26_1
             try clear hfz26_2
             try clear hfz26_3
             try clear hfz31_0
             try clear hfz4_0
             try clear hfz6_0
             try clear hx121_0
             try clear hx121_1
             try clear hx121_2
             try clear hx121_3
             try clear p1
             try clear p12
             try clear p121
             try clear p2
             try clear q1
             try clear q12
             try clear q121
             try clear q32
             obtain ⟨x51_3, rfl, HA, HK3, BK120, BK122, HB⟩ := hrel
             cases gk with
             | zero => exact absurd HA.out (by simp [spec_DataOK.l1])
             | succ k3 =>
              have H := HA.out
              clear HA
              simp only [spec_DataOK.l1] at H
              by_cases c33 : x51_3 < (y125.length : Int)
              ·rw [if_pos c33] at H
               have c33b0 : decide (x51_3 < (y125.length : Int)) = true := decide_eq_true c33
               clear c33
               by_cases c34 : 0 ≤ x51_3
               ·rw [if_pos c34] at H
                have c34b0 : decide (0 ≤ x51_3) = true := decide_eq_true c34
                clear c34
                by_cases c35 : x51_3 < (y125.length : Int)
                ·rw [if_pos c35] at H
                 have c35b0 : decide (x51_3 < (y125.length : Int)) = true := decide_eq_true c35
                 clear c35
                 by_cases c36 : ((rd_T55 y125 x51_3).f0).toList = ((rd_T55 l0_0 x20_1).f0).toList
                 ·rw [if_pos c36] at H
                  have c36b0 : (((rd_T55 y125 x51_3).f0).toList == ((rd_T55 l0_0 x20_1).f0).toList) = true := beq_iff_eq.mpr c36
                  have c36b1 : (((rd_T55 y125 x51_3).f0).toList != ((rd_T55 l0_0 x20_1).f0).toList) = false := bne_eq_false_iff_eq.mpr c36
                  clear c36
                  obtain rfl := Option.some.inj H
                  have p129 : 0 ≤ (x51_3 : Int) := of_decide_eq_true (by first | (with_reducible assumption) | assumption)
                  have q129 : x51_3 < (y125.length : Int) := of_decide_eq_true (by first | (with_reducible assumption) | assumption)
                  obtain ⟨ad129, A129_2, c129_2, A129_3, c129_3, e129, hx129_0, hx129_1, hx129_2, hx129_3, hl129_2, hi129_2, hl129_3, hi129_3⟩ := at_T55 HR128.out x51_3 p129 q129
                  obtain rfl : ad121 = ad129 := (by injection e129)
                  replace hx129_0 := (HB.out.cell (World.block_lt_of_cell? w _ hx129_0)).trans hx129_0
                  replace hx129_1 := (HB.out.cell (World.block_lt_of_cell? w _ hx129_1)).trans hx129_1
                  replace hx129_2 := (HB.out.cell (World.block_lt_of_cell? w _ hx129_2)).trans hx129_2
                  replace hx129_3 := (HB.out.cell (World.block_lt_of_cell? w _ hx129_3)).trans hx129_3
                  have HR129_2 := Aside0.mk hi129_2
                  have HC129_2 := Aside0.mk hl129_2
                  clear hi129_2 hl129_2
                  have HR129_3 := Aside0.mk hi129_3
                  have HC129_3 := Aside0.mk hl129_3
                  clear hi129_3 hl129_3
                  replace p129 := eq_true p129
                  replace q129 := eq_true q129
                  go_wp2_with (first | ((with_reducible refine gate_dst (N := 6) rfl ?_); (try (refine gate_guard (by rfl) ?_; dsimp only)); refine box_event ?hg (N := 6) ?hd (cs := #[.string (⟨#[]⟩ : ByteArray), .int .i64 0, .slice none 0 0, .slice none 0 0]) (t := 55) ?hr ?_; (case hd => rfl); (case hg => rfl); (case hr => first | (go_simp; done) | (go_simp; rfl)); intro gb130 hg w37 hbox hb; have n0_ := Aside0.mk (blk_below (g := gb120) (o := .cells #[.slice (some ad121) l0_0.length c0_0] 29 (0, 0)) (by (with_reducible repeat (first | refine blk_drewN ?_ _ | refine blk_drew ?_ | refine blk_alloc ?_ _)); exact BK120.out) hb); have n1_ := Aside0.mk (blk_below (g := gb122) (o := .cells #[.string ((rd_T55 l0_0 x20_1).f0), .int .i64 ((rd_T55 l0_0 x20_1).f1), .slice A121_2 ((rd_T55 l0_0 x20_1).f2).length c121_2, .slice A121_3 ((rd_T55 l0_0 x20_1).f3).length c121_3] 55 (0, 0)) (by (with_reducible repeat (first | refine blk_drewN ?_ _ | refine blk_drew ?_ | refine blk_alloc ?_ _)); exact BK122.out) hb); have n2_ := Aside0.mk (below_step (by repeat (first | (with_reducible first | exact HB.out | apply below_alloc | apply pw_below_drewN | apply below_drew1 | refine below_set ?_ GE120.out | refine below_set ?_ GE122.out) | exact HB.out)) hb); have n3_ := Aside0.mk (hbox); have n4_ := Aside0.mk ((by rw [hg]; exact (below_size (by repeat (first | (with_reducible first | exact HB.out | apply below_alloc | apply pw_below_drewN | apply below_drew1 | refine below_set ?_ GE120.out | refine below_set ?_ GE122.out) | exact HB.out))) : w.heap.size ≤ gb130)); have n5_ := Aside0.mk ((by rw [hg]; exact (below_size (by repeat (first | (with_reducible first | exact HB.out | apply below_alloc | apply pw_below_drewN | apply below_drew1 | refine below_set ?_ GE120.out | refine below_set ?_ GE122.out) | exact HB.out))) : w.heap.size ≤ gb130)); have n6_ := Aside0.mk ((by rw [hg]; exact Nat.ne_of_lt (blk_lt (g := gb120) (o := .cells #[.slice (some ad121) l0_0.length c0_0] 29 (0, 0)) (by (with_reducible repeat (first | refine blk_drewN ?_ _ | refine blk_drew ?_ | refine blk_alloc ?_ _)); exact BK120.out)) : gb120 ≠ gb130)); have n7_ := Aside0.mk ((by rw [hg]; exact Nat.ne_of_gt (blk_lt (g := gb120) (o := .cells #[.slice (some ad121) l0_0.length c0_0] 29 (0, 0)) (by (with_reducible repeat (first | refine blk_drewN ?_ _ | refine blk_drew ?_ | refine blk_alloc ?_ _)); exact BK120.out)) : gb130 ≠ gb120)); have n8_ := Aside0.mk ((by rw [hg]; exact Nat.ne_of_lt (blk_lt (g := gb122) (o := .cells #[.string ((rd_T55 l0_0 x20_1).f0), .int .i64 ((rd_T55 l0_0 x20_1).f1), .slice A121_2 ((rd_T55 l0_0 x20_1).f2).length c121_2, .slice A121_3 ((rd_T55 l0_0 x20_1).f3).length c121_3] 55 (0, 0)) (by (with_reducible repeat (first | refine blk_drewN ?_ _ | refine blk_drew ?_ | refine blk_alloc ?_ _)); exact BK122.out)) : gb122 ≠ gb130)); have n9_ := Aside0.mk ((by rw [hg]; exact Nat.ne_of_gt (blk_lt (g := gb122) (o := .cells #[.string ((rd_T55 l0_0 x20_1).f0), .int .i64 ((rd_T55 l0_0 x20_1).f1), .slice A121_2 ((rd_T55 l0_0 x20_1).f2).length c121_2, .slice A121_3 ((rd_T55 l0_0 x20_1).f3).length c121_3] 55 (0, 0)) (by (with_reducible repeat (first | refine blk_drewN ?_ _ | refine blk_drew ?_ | refine blk_alloc ?_ _)); exact BK122.out)) : gb130 ≠ gb122)); clear BK120; clear BK122; clear HB; have BK120 := n0_; have BK122 := n1_; have HB := n2_; have BK130 := n3_; have GW130 := n4_; have GE130 := n5_; have NB120_130 := n6_; have NB130_120 := n7_; have NB122_130 := n8_; have NB130_122 := n9_; clear n0_ n1_ n2_ n3_ n4_ n5_ n6_ n7_ n8_ n9_; clear hb hbox hg; have hnb38 := NB130_120.out; have hnc38 := NB120_130.out; have hnb39 := NB130_122.out; have hnc39 := NB122_130.out; have hcz40_0 : w37.cell? ⟨gb130, 0, none⟩ = some (.string (⟨#[]⟩ : ByteArray)) := (blk_cell BK130.out 0).trans rfl; have hcz40_1 : w37.cell? ⟨gb130, 1, none⟩ = some (.int .i64 0) := (blk_cell BK130.out 1).trans rfl; have hcz40_2 : w37.cell? ⟨gb130, 2, none⟩ = some (.slice none 0 0) := (blk_cell BK130.out 2).trans rfl; have hcz40_3 : w37.cell? ⟨gb130, 3, none⟩ = some (.slice none 0 0) := (blk_cell BK130.out 3).trans rfl; have hfz40_0 := blk_frozen BK130.out 0; have hfz40_1 := blk_frozen BK130.out 1; have hfz40_2 := blk_frozen BK130.out 2; have hfz40_3 := blk_frozen BK130.out 3; have hnb41 := NB122_120.out; have hnc41 := NB120_122.out; have hcz42_0 : w37.cell? ⟨gb122, 0, none⟩ = some (.string ((rd_T55 l0_0 x20_1).f0)) := (blk_cell BK122.out 0).trans rfl; have hcz42_1 : w37.cell? ⟨gb122, 1, none⟩ = some (.int .i64 ((rd_T55 l0_0 x20_1).f1)) := (blk_cell BK122.out 1).trans rfl; have hcz42_2 : w37.cell? ⟨gb122, 2, none⟩ = some (.slice A121_2 ((rd_T55 l0_0 x20_1).f2).length c121_2) := (blk_cell BK122.out 2).trans rfl; have hcz42_3 : w37.cell? ⟨gb122, 3, none⟩ = some (.slice A121_3 ((rd_T55 l0_0 x20_1).f3).length c121_3) := (blk_cell BK122.out 3).trans rfl; have hfz42_0 := blk_frozen BK122.out 0; have hfz42_1 := blk_frozen BK122.out 1; have hfz42_2 := blk_frozen BK122.out 2; have hfz42_3 := blk_frozen BK122.out 3))
                  go_ret
                  exact ⟨by first | rfl | (simp [errW_none, errW_some] <;> rfl) | (simp [*, errW_none, errW_some] <;> rfl), by repeat (first | (with_reducible first | exact HB.out | apply below_alloc | apply pw_below_drewN | apply below_drew1 | refine below_set ?_ GE120.out | refine below_set ?_ GE122.out | refine below_set ?_ GE130.out) | exact HB.out)⟩
                 ·rw [if_neg c36] at H
                  have c36b0 : (((rd_T55 y125 x51_3).f0).toList == ((rd_T55 l0_0 x20_1).f0).toList) = false := beq_eq_false_iff_ne.mpr c36
                  have c36b1 : (((rd_T55 y125 x51_3).f0).toList != ((rd_T55 l0_0 x20_1).f0).toList) = true := bne_iff_ne.mpr c36
                  have H' := Aside0.mk H
                  clear H
                  have p129 : 0 ≤ (x51_3 : Int) := of_decide_eq_true (by first | (with_reducible assumption) | assumption)
                  have q129 : x51_3 < (y125.length : Int) := of_decide_eq_true (by first | (with_reducible assumption) | assumption)
                  obtain ⟨ad129, A129_2, c129_2, A129_3, c129_3, e129, hx129_0, hx129_1, hx129_2, hx129_3, hl129_2, hi129_2, hl129_3, hi129_3⟩ := at_T55 HR128.out x51_3 p129 q129
                  obtain rfl : ad121 = ad129 := (by injection e129)
                  replace hx129_0 := (HB.out.cell (World.block_lt_of_cell? w _ hx129_0)).trans hx129_0
                  replace hx129_1 := (HB.out.cell (World.block_lt_of_cell? w _ hx129_1)).trans hx129_1
                  replace hx129_2 := (HB.out.cell (World.block_lt_of_cell? w _ hx129_2)).trans hx129_2
                  replace hx129_3 := (HB.out.cell (World.block_lt_of_cell? w _ hx129_3)).trans hx129_3
                  have HR129_2 := Aside0.mk hi129_2
                  have HC129_2 := Aside0.mk hl129_2
                  clear hi129_2 hl129_2
                  have HR129_3 := Aside0.mk hi129_3
                  have HC129_3 := Aside0.mk hl129_3
                  clear hi129_3 hl129_3
                  replace p129 := eq_true p129
                  replace q129 := eq_true q129
                  go_wp2_with (first | ((with_reducible refine gate_dst (N := 6) rfl ?_); (try (refine gate_guard (by rfl) ?_; dsimp only)); refine box_event ?hg (N := 6) ?hd (cs := #[.string (⟨#[]⟩ : ByteArray), .int .i64 0, .slice none 0 0, .slice none 0 0]) (t := 55) ?hr ?_; (case hd => rfl); (case hg => rfl); (case hr => first | (go_simp; done) | (go_simp; rfl)); intro gb130 hg w43 hbox hb; have n0_ := Aside0.mk (blk_below (g := gb120) (o := .cells #[.slice (some ad121) l0_0.length c0_0] 29 (0, 0)) (by (with_reducible repeat (first | refine blk_drewN ?_ _ | refine blk_drew ?_ | refine blk_alloc ?_ _)); exact BK120.out) hb); have n1_ := Aside0.mk (blk_below (g := gb122) (o := .cells #[.string ((rd_T55 l0_0 x20_1).f0), .int .i64 ((rd_T55 l0_0 x20_1).f1), .slice A121_2 ((rd_T55 l0_0 x20_1).f2).length c121_2, .slice A121_3 ((rd_T55 l0_0 x20_1).f3).length c121_3] 55 (0, 0)) (by (with_reducible repeat (first | refine blk_drewN ?_ _ | refine blk_drew ?_ | refine blk_alloc ?_ _)); exact BK122.out) hb); have n2_ := Aside0.mk (below_step (by repeat (first | (with_reducible first | exact HB.out | apply below_alloc | apply pw_below_drewN | apply below_drew1 | refine below_set ?_ GE120.out | refine below_set ?_ GE122.out) | exact HB.out)) hb); have n3_ := Aside0.mk (hbox); have n4_ := Aside0.mk ((by rw [hg]; exact (below_size (by repeat (first | (with_reducible first | exact HB.out | apply below_alloc | apply pw_below_drewN | apply below_drew1 | refine below_set ?_ GE120.out | refine below_set ?_ GE122.out) | exact HB.out))) : w.heap.size ≤ gb130)); have n5_ := Aside0.mk ((by rw [hg]; exact (below_size (by repeat (first | (with_reducible first | exact HB.out | apply below_alloc | apply pw_below_drewN | apply below_drew1 | refine below_set ?_ GE120.out | refine below_set ?_ GE122.out) | exact HB.out))) : w.heap.size ≤ gb130)); have n6_ := Aside0.mk ((by rw [hg]; exact Nat.ne_of_lt (blk_lt (g := gb120) (o := .cells #[.slice (some ad121) l0_0.length c0_0] 29 (0, 0)) (by (with_reducible repeat (first | refine blk_drewN ?_ _ | refine blk_drew ?_ | refine blk_alloc ?_ _)); exact BK120.out)) : gb120 ≠ gb130)); have n7_ := Aside0.mk ((by rw [hg]; exact Nat.ne_of_gt (blk_lt (g := gb120) (o := .cells #[.slice (some ad121) l0_0.length c0_0] 29 (0, 0)) (by (with_reducible repeat (first | refine blk_drewN ?_ _ | refine blk_drew ?_ | refine blk_alloc ?_ _)); exact BK120.out)) : gb130 ≠ gb120)); have n8_ := Aside0.mk ((by rw [hg]; exact Nat.ne_of_lt (blk_lt (g := gb122) (o := .cells #[.string ((rd_T55 l0_0 x20_1).f0), .int .i64 ((rd_T55 l0_0 x20_1).f1), .slice A121_2 ((rd_T55 l0_0 x20_1).f2).length c121_2, .slice A121_3 ((rd_T55 l0_0 x20_1).f3).length c121_3] 55 (0, 0)) (by (with_reducible repeat (first | refine blk_drewN ?_ _ | refine blk_drew ?_ | refine blk_alloc ?_ _)); exact BK122.out)) : gb122 ≠ gb130)); have n9_ := Aside0.mk ((by rw [hg]; exact Nat.ne_of_gt (blk_lt (g := gb122) (o := .cells #[.string ((rd_T55 l0_0 x20_1).f0), .int .i64 ((rd_T55 l0_0 x20_1).f1), .slice A121_2 ((rd_T55 l0_0 x20_1).f2).length c121_2, .slice A121_3 ((rd_T55 l0_0 x20_1).f3).length c121_3] 55 (0, 0)) (by (with_reducible repeat (first | refine blk_drewN ?_ _ | refine blk_drew ?_ | refine blk_alloc ?_ _)); exact BK122.out)) : gb130 ≠ gb122)); clear BK120; clear BK122; clear HB; have BK120 := n0_; have BK122 := n1_; have HB := n2_; have BK130 := n3_; have GW130 := n4_; have GE130 := n5_; have NB120_130 := n6_; have NB130_120 := n7_; have NB122_130 := n8_; have NB130_122 := n9_; clear n0_ n1_ n2_ n3_ n4_ n5_ n6_ n7_ n8_ n9_; clear hb hbox hg; have hnb44 := NB130_120.out; have hnc44 := NB120_130.out; have hnb45 := NB130_122.out; have hnc45 := NB122_130.out; have hcz46_0 : w43.cell? ⟨gb130, 0, none⟩ = some (.string (⟨#[]⟩ : ByteArray)) := (blk_cell BK130.out 0).trans rfl; have hcz46_1 : w43.cell? ⟨gb130, 1, none⟩ = some (.int .i64 0) := (blk_cell BK130.out 1).trans rfl; have hcz46_2 : w43.cell? ⟨gb130, 2, none⟩ = some (.slice none 0 0) := (blk_cell BK130.out 2).trans rfl; have hcz46_3 : w43.cell? ⟨gb130, 3, none⟩ = some (.slice none 0 0) := (blk_cell BK130.out 3).trans rfl; have hfz46_0 := blk_frozen BK130.out 0; have hfz46_1 := blk_frozen BK130.out 1; have hfz46_2 := blk_frozen BK130.out 2; have hfz46_3 := blk_frozen BK130.out 3; have hnb47 := NB122_120.out; have hnc47 := NB120_122.out; have hcz48_0 : w43.cell? ⟨gb122, 0, none⟩ = some (.string ((rd_T55 l0_0 x20_1).f0)) := (blk_cell BK122.out 0).trans rfl; have hcz48_1 : w43.cell? ⟨gb122, 1, none⟩ = some (.int .i64 ((rd_T55 l0_0 x20_1).f1)) := (blk_cell BK122.out 1).trans rfl; have hcz48_2 : w43.cell? ⟨gb122, 2, none⟩ = some (.slice A121_2 ((rd_T55 l0_0 x20_1).f2).length c121_2) := (blk_cell BK122.out 2).trans rfl; have hcz48_3 : w43.cell? ⟨gb122, 3, none⟩ = some (.slice A121_3 ((rd_T55 l0_0 x20_1).f3).length c121_3) := (blk_cell BK122.out 3).trans rfl; have hfz48_0 := blk_frozen BK122.out 0; have hfz48_1 := blk_frozen BK122.out 1; have hfz48_2 := blk_frozen BK122.out 2; have hfz48_3 := blk_frozen BK122.out 3))
                  go_roundg k3
                  case measure => have := HK1.out; have := HJ9.out; have := HK3.out; omega
                  case rel => exact ⟨(wrap64 (x51_3 + 1)), (by first | rfl | (simp; done) | (simp [*]; done)), H', ⟨by have := HK1.out; have := HJ9.out; have := HK3.out; omega⟩, ⟨by (with_reducible repeat (first | refine blk_drewN ?_ _ | refine blk_drew ?_ | refine blk_alloc ?_ _)); refine blk_far ?_ NB120_130.out _; (with_reducible repeat (first | refine blk_drewN ?_ _ | refine blk_drew ?_ | refine blk_alloc ?_ _)); refine blk_far ?_ NB120_130.out _; (with_reducible repeat (first | refine blk_drewN ?_ _ | refine blk_drew ?_ | refine blk_alloc ?_ _)); refine blk_far ?_ NB120_130.out _; (with_reducible repeat (first | refine blk_drewN ?_ _ | refine blk_drew ?_ | refine blk_alloc ?_ _)); refine blk_far ?_ NB120_130.out _; (with_reducible repeat (first | refine blk_drewN ?_ _ | refine blk_drew ?_ | refine blk_alloc ?_ _)); exact BK120.out⟩, ⟨by (with_reducible repeat (first | refine blk_drewN ?_ _ | refine blk_drew ?_ | refine blk_alloc ?_ _)); refine blk_far ?_ NB122_130.out _; (with_reducible repeat (first | refine blk_drewN ?_ _ | refine blk_drew ?_ | refine blk_alloc ?_ _)); refine blk_far ?_ NB122_130.out _; (with_reducible repeat (first | refine blk_drewN ?_ _ | refine blk_drew ?_ | refine blk_alloc ?_ _)); refine blk_far ?_ NB122_130.out _; (with_reducible repeat (first | refine blk_drewN ?_ _ | refine blk_drew ?_ | refine blk_alloc ?_ _)); refine blk_far ?_ NB122_130.out _; (with_reducible repeat (first | refine blk_drewN ?_ _ | refine blk_drew ?_ | refine blk_alloc ?_ _)); exact BK122.out⟩, ⟨by repeat (first | (with_reducible first | exact HB.out | apply below_alloc | apply pw_below_drewN | apply below_drew1 | refine below_set ?_ GE120.out | refine below_set ?_ GE122.out | refine below_set ?_ GE130.out) | exact HB.out)⟩⟩
                ·rw [if_neg c35] at H
                 exact absurd H (by simp)
               ·rw [if_neg c34] at H
                exact absurd H (by simp)
              ·rw [if_neg c33] at H
               have c33b0 : decide (x51_3 < (y125.length : Int)) = false := decide_eq_false c33
               clear c33
               have HC49 := Aside0.mk H
               clear H
               go_upto_region 14 with (fail)
               go_cut [75] (fun v75 wc => ∃ (kq : Nat) (x75_48 : Bool), v75 = .bool x75_48 ∧ Aside0 (spec_DataOK.j3 kq l0_0 (l0_0.length : Int) x20_1 x75_48 l0_0 ((rd_T55 l0_0 x20_1).f0) ((rd_T55 l0_0 x20_1).f1) ((rd_T55 l0_0 x20_1).f2) ((rd_T55 l0_0 x20_1).f3) = some r) ∧ Aside0 (kq ≤ k3) ∧ Aside0 (wc.heap[gb120]? = some (.cells #[(.slice (some ad121) l0_0.length c0_0)] 29 (0, 0))) ∧ Aside0 (wc.heap[gb122]? = some (.cells #[.string ((rd_T55 l0_0 x20_1).f0), .int .i64 ((rd_T55 l0_0 x20_1).f1), (.slice A121_2 ((rd_T55 l0_0 x20_1).f2).length c121_2), (.slice A121_3 ((rd_T55 l0_0 x20_1).f3).length c121_3)] 55 (0, 0))) ∧ Aside0 (Below w.heap.size w wc))
               case first =>
                have H := HC49.out
                clear HC49
                replace H := Option.bind_eq_some_iff.mp H
                obtain ⟨t131, A500, H⟩ := H
                replace H : (if t131 = true then (spec_DataOK.j3 k3 l0_0 (l0_0.length : Int) x20_1 ((((rd_T55 l0_0 x20_1).f3).length : Int) != (((rd_T55 l0_0 x20_1).f2).length : Int)) l0_0 ((rd_T55 l0_0 x20_1).f0) ((rd_T55 l0_0 x20_1).f1) ((rd_T55 l0_0 x20_1).f2) ((rd_T55 l0_0 x20_1).f3)) else (spec_DataOK.j3 k3 l0_0 (l0_0.length : Int) x20_1 true l0_0 ((rd_T55 l0_0 x20_1).f0) ((rd_T55 l0_0 x20_1).f1) ((rd_T55 l0_0 x20_1).f2) ((rd_T55 l0_0 x20_1).f3))) = some r := H
                have A50 := Aside0.mk A500
                clear A500
                by_cases c51 : t131 = true
                ·subst c51
                 have H1 : (spec_DataOK.j3 k3 l0_0 (l0_0.length : Int) x20_1 ((((rd_T55 l0_0 x20_1).f3).length : Int) != (((rd_T55 l0_0 x20_1).f2).length : Int)) l0_0 ((rd_T55 l0_0 x20_1).f0) ((rd_T55 l0_0 x20_1).f1) ((rd_T55 l0_0 x20_1).f2) ((rd_T55 l0_0 x20_1).f3)) = some r := by rw [if_pos rfl] at H; exact H
                 clear H
                 have H := H1
                 clear H1
                 have H' := Aside0.mk H
                 clear H
                 have hnb52 := NB122_120.out
                 have hnc52 := NB120_122.out
                 have hcz53_0 : wr.cell? ⟨gb122, 0, none⟩ = some (.string ((rd_T55 l0_0 x20_1).f0)) := (blk_cell BK122.out 0).trans rfl
                 have hcz53_1 : wr.cell? ⟨gb122, 1, none⟩ = some (.int .i64 ((rd_T55 l0_0 x20_1).f1)) := (blk_cell BK122.out 1).trans rfl
                 have hcz53_2 : wr.cell? ⟨gb122, 2, none⟩ = some (.slice A121_2 ((rd_T55 l0_0 x20_1).f2).length c121_2) := (blk_cell BK122.out 2).trans rfl
                 have hcz53_3 : wr.cell? ⟨gb122, 3, none⟩ = some (.slice A121_3 ((rd_T55 l0_0 x20_1).f3).length c121_3) := (blk_cell BK122.out 3).trans rfl
                 have hfz53_0 := blk_frozen BK122.out 0
                 have hfz53_1 := blk_frozen BK122.out 1
                 have hfz53_2 := blk_frozen BK122.out 2
                 have hfz53_3 := blk_frozen BK122.out 3
                 go_wp2_with (first | ((with_reducible refine gate_callee (f := 56) rfl ?_); refine goesL_ (some 65) rfl rfl Tryd.func56 (by kernel_rfl) rfl #[.slice A121_2 ((rd_T55 l0_0 x20_1).f2).length c121_2, .int .i64 ((rd_T55 l0_0 x20_1).f1)] rfl (by (try simp only [List.map_toArray, List.map_cons, List.map_nil]); first | done | rfl | (simp only [List.length_drop, List.length_take]; rfl)) ?_; (with_reducible refine (spec_l2SortedRows.calls k3 _ _ ((rd_T55 l0_0 x20_1).f2) ((rd_T55 l0_0 x20_1).f1) true _ ?side1 ?side2 A50.out).mono ?_); (case side1 => repeat (first | exact (Kd.C_below HR121_2.out HB.out) | (with_reducible refine Kd.C_alloc ?_ _) | (with_reducible refine Kd.C_drewN ?_ _) | (with_reducible refine Kd.C_drew ?_))); (case side2 => exact HC121_2.out); rintro e w' ⟨rfl, ⟨nd, rfl⟩⟩; refine ⟨_, rfl, ?_⟩))
                 go_meet
                 case rel => exact ⟨_, (((((rd_T55 l0_0 x20_1).f3).length : Int) != (((rd_T55 l0_0 x20_1).f2).length : Int))), (by first | rfl | (simp; done) | (simp [*]; done)), H', ⟨by have := HK1.out; have := HJ9.out; have := HK3.out; first | omega | exact Nat.le_refl _⟩, ⟨by (with_reducible repeat (first | refine blk_drewN ?_ _ | refine blk_drew ?_ | refine blk_alloc ?_ _)); exact BK120.out⟩, ⟨by (with_reducible repeat (first | refine blk_drewN ?_ _ | refine blk_drew ?_ | refine blk_alloc ?_ _)); exact BK122.out⟩, ⟨by repeat (first | (with_reducible first | exact HB.out | apply below_alloc | apply pw_below_drewN | apply below_drew1 | refine below_set ?_ GE120.out | refine below_set ?_ GE122.out) | exact HB.out)⟩⟩
                ·replace c51 := Bool.eq_false_iff.mpr c51
                 subst c51
                 have H1 : (spec_DataOK.j3 k3 l0_0 (l0_0.length : Int) x20_1 true l0_0 ((rd_T55 l0_0 x20_1).f0) ((rd_T55 l0_0 x20_1).f1) ((rd_T55 l0_0 x20_1).f2) ((rd_T55 l0_0 x20_1).f3)) = some r := by rw [if_neg (show ¬ (false = true) by decide)] at H; exact H
                 clear H
                 have H := H1
                 clear H1
                 have H' := Aside0.mk H
                 clear H
                 have hnb54 := NB122_120.out
                 have hnc54 := NB120_122.out
                 have hcz55_0 : wr.cell? ⟨gb122, 0, none⟩ = some (.string ((rd_T55 l0_0 x20_1).f0)) := (blk_cell BK122.out 0).trans rfl
                 have hcz55_1 : wr.cell? ⟨gb122, 1, none⟩ = some (.int .i64 ((rd_T55 l0_0 x20_1).f1)) := (blk_cell BK122.out 1).trans rfl
                 have hcz55_2 : wr.cell? ⟨gb122, 2, none⟩ = some (.slice A121_2 ((rd_T55 l0_0 x20_1).f2).length c121_2) := (blk_cell BK122.out 2).trans rfl
                 have hcz55_3 : wr.cell? ⟨gb122, 3, none⟩ = some (.slice A121_3 ((rd_T55 l0_0 x20_1).f3).length c121_3) := (blk_cell BK122.out 3).trans rfl
                 have hfz55_0 := blk_frozen BK122.out 0
                 have hfz55_1 := blk_frozen BK122.out 1
                 have hfz55_2 := blk_frozen BK122.out 2
                 have hfz55_3 := blk_frozen BK122.out 3
                 go_wp2_with (first | ((with_reducible refine gate_callee (f := 56) rfl ?_); refine goesL_ (some 65) rfl rfl Tryd.func56 (by kernel_rfl) rfl #[.slice A121_2 ((rd_T55 l0_0 x20_1).f2).length c121_2, .int .i64 ((rd_T55 l0_0 x20_1).f1)] rfl (by (try simp only [List.map_toArray, List.map_cons, List.map_nil]); first | done | rfl | (simp only [List.length_drop, List.length_take]; rfl)) ?_; (with_reducible refine (spec_l2SortedRows.calls k3 _ _ ((rd_T55 l0_0 x20_1).f2) ((rd_T55 l0_0 x20_1).f1) false _ ?side1 ?side2 A50.out).mono ?_); (case side1 => repeat (first | exact (Kd.C_below HR121_2.out HB.out) | (with_reducible refine Kd.C_alloc ?_ _) | (with_reducible refine Kd.C_drewN ?_ _) | (with_reducible refine Kd.C_drew ?_))); (case side2 => exact HC121_2.out); rintro e w' ⟨rfl, ⟨nd, rfl⟩⟩; refine ⟨_, rfl, ?_⟩))
                 go_meet
                 case rel => exact ⟨_, (true), (by first | rfl | (simp; done) | (simp [*]; done)), H', ⟨by have := HK1.out; have := HJ9.out; have := HK3.out; first | omega | exact Nat.le_refl _⟩, ⟨by (with_reducible repeat (first | refine blk_drewN ?_ _ | refine blk_drew ?_ | refine blk_alloc ?_ _)); exact BK120.out⟩, ⟨by (with_reducible repeat (first | refine blk_drewN ?_ _ | refine blk_drew ?_ | refine blk_alloc ?_ _)); exact BK122.out⟩, ⟨by repeat (first | (with_reducible first | exact HB.out | apply below_alloc | apply pw_below_drewN | apply below_drew1 | refine below_set ?_ GE120.out | refine below_set ?_ GE122.out) | exact HB.out)⟩⟩
               case rest =>
                clear HC49
                try clear c1
                try clear p1
                try clear q1
                try clear hx1
                try clear c2
                try clear c2b0
                try clear c2b1
                try clear p2
                try clear c3
                try clear q3
                try clear c4
                try clear c5
                try clear p6
                try clear c7
                try clear c7b0
                try clear c8
                try clear c8b0
                try clear c9
                try clear c9b0
                try clear c12
                try clear p12
                try clear q12
                try clear hx12
                try clear c15
                try clear c16
                try clear c16b0
                try clear c16b1
                try clear c17
                try clear c20
                try clear c21
                try clear c23
                try clear c25
                try clear c27
                try clear c28
                try clear c28b0
                try clear c28b1
                try clear c29
                try clear c29b0
                try clear c29b1
                try clear c30
                try clear q32
                try clear c33
                try clear c33b0
                try clear c34
                try clear c34b0
                try clear c35
                try clear c35b0
                try clear c36
                try clear c36b0
                try clear c36b1
                try clear c38
                try clear c39
                try clear c41
                try clear c44
                try clear c45
                try clear c47
                try clear c51
                try clear c52
                try clear c54
                try clear hcz13_0
                try clear hcz13_1
                try clear hcz13_2
                try clear hcz13_3
                try clear hcz18_0
                try clear hcz18_1
                try clear hcz18_2
                try clear hcz18_3
                try clear hcz22_0
                try clear hcz22_1
                try clear hcz22_2
                try clear hcz22_3
                try clear hcz24_0
                try clear hcz24_1
                try clear hcz24_2
                try clear hcz24_3
                try clear hcz26_0
                try clear hcz26_1
                try clear hcz26_2
                try clear hcz26_3
                try clear hcz31_0
                try clear hcz40_0
                try clear hcz40_1
                try clear hcz40_2
                try clear hcz40_3
                try clear hcz42_0
                try clear hcz42_1
                try clear hcz42_2
                try clear hcz42_3
                try clear hcz46_0
                try clear hcz46_1
                try clear hcz46_2
                try clear hcz46_3
                try clear hcz48_0
                try clear hcz48_1
                try clear hcz48_2
                try clear hcz48_3
                try clear hcz4_0
                try clear hcz53_0
                try clear hcz53_1
                try clear hcz53_2
                try clear hcz53_3
                try clear hcz55_0
                try clear hcz55_1
                try clear hcz55_2
                try clear hcz55_3
                try clear hcz6_0
                try clear hfz13_0
                try clear hfz13_1
                try clear hfz13_2
                try clear hfz13_3
                try clear hfz18_0
                try clear hfz18_1
                try clear hfz18_2
                try clear hfz18_3
                try clear hfz22_0
                try clear hfz22_1
                try clear hfz22_2
                try clear hfz22_3
                try clear hfz24_0
                try clear hfz24_1
                try clear hfz24_2
                try clear hfz24_3
                try clear hfz26_0
                try clear hfz26_1
                try clear hfz26_2
                try clear hfz26_3
                try clear hfz31_0
                try clear hfz40_0
                try clear hfz40_1
                try clear hfz40_2
                try clear hfz40_3
                try clear hfz42_0
                try clear hfz42_1
                try clear hfz42_2
                try clear hfz42_3
                try clear hfz46_0
                try clear hfz46_1
                try clear hfz46_2
                try clear hfz46_3
                try clear hfz48_0
                try clear hfz48_1
                try clear hfz48_2
                try clear hfz48_3
                try clear hfz4_0
                try clear hfz53_0
                try clear hfz53_1
                try clear hfz53_2
                try clear hfz53_3
                try clear hfz55_0
                try clear hfz55_1
                try clear hfz55_2
                try clear hfz55_3
                try clear hfz6_0
                try clear hx121_0
                try clear hx121_1
                try clear hx121_2
                try clear hx121_3
                try clear hx129_0
                try clear hx129_1
                try clear hx129_2
                try clear hx129_3
                try clear p1
                try clear p12
                try clear p121
                try clear p129
                try clear p2
                try clear q1
                try clear q12
                try clear q121
                try clear q129
                try clear q3
                try clear q32
                obtain ⟨kq, x75_48, rfl, HA, HJ48, BK120, BK122, HB⟩ := hcut
                cases kq with
                | zero => exact absurd HA.out (by simp [spec_DataOK.j3])
                | succ kj48 =>
                 have H := HA.out
                 clear HA
                 simp only [spec_DataOK.j3] at H
                 by_cases c56 : x75_48 = true
                 ·subst c56
                  have H1 : (some false) = some r := by rw [if_pos rfl] at H; exact H
                  clear H
                  have H := H1
                  clear H1
                  obtain rfl := Option.some.inj H
                  go_wp2
                  go_ret
                  exact ⟨by first | rfl | (simp [errW_none, errW_some] <;> rfl) | (simp [*, errW_none, errW_some] <;> rfl), by repeat (first | (with_reducible first | exact HB.out | apply below_alloc | apply pw_below_drewN | apply below_drew1 | refine below_set ?_ GE120.out | refine below_set ?_ GE122.out) | exact HB.out)⟩
                 ·replace c56 := Bool.eq_false_iff.mpr c56
                  subst c56
                  have H1 : (spec_DataOK.l2 kj48 l0_0 (l0_0.length : Int) x20_1 ((rd_T55 l0_0 x20_1).f2) (((rd_T55 l0_0 x20_1).f2).length : Int) 0 l0_0 ((rd_T55 l0_0 x20_1).f0) ((rd_T55 l0_0 x20_1).f1) ((rd_T55 l0_0 x20_1).f2) ((rd_T55 l0_0 x20_1).f3)) = some r := by rw [if_neg (show ¬ (false = true) by decide)] at H; exact H
                  clear H
                  have H := H1
                  clear H1
                  have H' := Aside0.mk H
                  clear H
                  have hnb57 := NB122_120.out
                  have hnc57 := NB120_122.out
                  have hcz58_0 : wc.cell? ⟨gb122, 0, none⟩ = some (.string ((rd_T55 l0_0 x20_1).f0)) := (blk_cell BK122.out 0).trans rfl
                  have hcz58_1 : wc.cell? ⟨gb122, 1, none⟩ = some (.int .i64 ((rd_T55 l0_0 x20_1).f1)) := (blk_cell BK122.out 1).trans rfl
                  have hcz58_2 : wc.cell? ⟨gb122, 2, none⟩ = some (.slice A121_2 ((rd_T55 l0_0 x20_1).f2).length c121_2) := (blk_cell BK122.out 2).trans rfl
                  have hcz58_3 : wc.cell? ⟨gb122, 3, none⟩ = some (.slice A121_3 ((rd_T55 l0_0 x20_1).f3).length c121_3) := (blk_cell BK122.out 3).trans rfl
                  have hfz58_0 := blk_frozen BK122.out 0
                  have hfz58_1 := blk_frozen BK122.out 1
                  have hfz58_2 := blk_frozen BK122.out 2
                  have hfz58_3 := blk_frozen BK122.out 3
                  go_wp2
                  go_loopg [79] kj48 (fun kq v79 w' => ∃ (x79_5 : Int), v79 = .int .i64 x79_5 ∧ Aside0 (spec_DataOK.l2 kq l0_0 (l0_0.length : Int) x20_1 ((rd_T55 l0_0 x20_1).f2) (((rd_T55 l0_0 x20_1).f2).length : Int) x79_5 l0_0 ((rd_T55 l0_0 x20_1).f0) ((rd_T55 l0_0 x20_1).f1) ((rd_T55 l0_0 x20_1).f2) ((rd_T55 l0_0 x20_1).f3) = some r) ∧ Aside0 (kq ≤ kj48) ∧ Aside0 (w'.heap[gb120]? = some (.cells #[(.slice (some ad121) l0_0.length c0_0)] 29 (0, 0))) ∧ Aside0 (w'.heap[gb122]? = some (.cells #[.string ((rd_T55 l0_0 x20_1).f0), .int .i64 ((rd_T55 l0_0 x20_1).f1), (.slice A121_2 ((rd_T55 l0_0 x20_1).f2).length c121_2), (.slice A121_3 ((rd_T55 l0_0 x20_1).f3).length c121_3)] 55 (0, 0))) ∧ Aside0 (Below w.heap.size w w'))
                  case atStart => exact ⟨(0), (by first | rfl | (simp; done) | (simp [*]; done)), H', ⟨Nat.le_refl _⟩, ⟨by (with_reducible repeat (first | refine blk_drewN ?_ _ | refine blk_drew ?_ | refine blk_alloc ?_ _)); exact BK120.out⟩, ⟨by (with_reducible repeat (first | refine blk_drewN ?_ _ | refine blk_drew ?_ | refine blk_alloc ?_ _)); exact BK122.out⟩, ⟨by repeat (first | (with_reducible first | exact HB.out | apply below_alloc | apply pw_below_drewN | apply below_drew1 | refine below_set ?_ GE120.out | refine below_set ?_ GE122.out) | exact HB.out)⟩⟩
                  case round =>
                   clear H'
                   try clear c1
                   try clear p1
                   try clear q1
                   try clear hx1
                   try clear c2
                   try clear c2b0
                   try clear c2b1
                   try clear p2
                   try clear c3
                   try clear q3
                   try clear c4
                   try clear c5
                   try clear p6
                   try clear c7
                   try clear c7b0
                   try clear c8
                   try clear c8b0
                   try clear c9
                   try clear c9b0
                   try clear c12
                   try clear p12
                   try clear q12
                   try clear hx12
                   try clear c15
                   try clear c16
                   try clear c16b0
                   try clear c16b1
                   try clear c17
                   try clear c20
                   try clear c21
                   try clear c23
                   try clear c25
                   try clear c27
                   try clear c28
                   try clear c28b0
                   try clear c28b1
                   try clear c29
                   try clear c29b0
                   try clear c29b1
                   try clear c30
                   try clear q32
                   try clear c33
                   try clear c33b0
                   try clear c34
                   try clear c34b0
                   try clear c35
                   try clear c35b0
                   try clear c36
                   try clear c36b0
                   try clear c36b1
                   try clear c38
                   try clear c39
                   try clear c41
                   try clear c44
                   try clear c45
                   try clear c47
                   try clear c51
                   try clear c52
                   try clear c54
                   try clear c56
                   try clear c57
                   try clear hcz13_0
                   try clear hcz13_1
                   try clear hcz13_2
                   try clear hcz13_3
                   try clear hcz18_0
                   try clear hcz18_1
                   try clear hcz18_2
                   try clear hcz18_3
                   try clear hcz22_0
                   try clear hcz22_1
                   try clear hcz22_2
                   try clear hcz22_3
                   try clear hcz24_0
                   try clear hcz24_1
                   try clear hcz24_2
                   try clear hcz24_3
                   try clear hcz26_0
                   try clear hcz26_1
                   try clear hcz26_2
                   try clear hcz26_3
                   try clear hcz31_0
                   try clear hcz40_0
                   try clear hcz40_1
                   try clear hcz40_2
                   try clear hcz40_3
                   try clear hcz42_0
                   try clear hcz42_1
                   try clear hcz42_2
                   try clear hcz42_3
                   try clear hcz46_0
                   try clear hcz46_1
                   try clear hcz46_2
                   try clear hcz46_3
                   try clear hcz48_0
                   try clear hcz48_1
                   try clear hcz48_2
                   try clear hcz48_3
                   try clear hcz4_0
                   try clear hcz53_0
                   try clear hcz53_1
                   try clear hcz53_2
                   try clear hcz53_3
                   try clear hcz55_0
                   try clear hcz55_1
                   try clear hcz55_2
                   try clear hcz55_3
                   try clear hcz58_0
                   try clear hcz58_1
                   try clear hcz58_2
                   try clear hcz58_3
                   try clear hcz6_0
                   try clear hfz13_0
                   try clear hfz13_1
                   try clear hfz13_2
                   try clear hfz13_3
                   try clear hfz18_0
                   try clear hfz18_1
                   try clear hfz18_2
                   try clear hfz18_3
                   try clear hfz22_0
                   try clear hfz22_1
                   try clear hfz22_2
                   try clear hfz22_3
                   try clear hfz24_0
                   try clear hfz24_1
                   try clear hfz24_2
                   try clear hfz24_3
                   try clear hfz26_0
                   try clear hfz26_1
                   try clear hfz26_2
                   try clear hfz26_3
                   try clear hfz31_0
                   try clear hfz40_0
                   try clear hfz40_1
                   try clear hfz40_2
                   try clear hfz40_3
                   try clear hfz42_0
                   try clear hfz42_1
                   try clear hfz42_2
                   try clear hfz42_3
                   try clear hfz46_0
                   try clear hfz46_1
                   try clear hfz46_2
                   try clear hfz46_3
                   try clear hfz48_0
                   try clear hfz48_1
                   try clear hfz48_2
                   try clear hfz48_3
                   try clear hfz4_0
                   try clear hfz53_0
                   try clear hfz53_1
                   try clear hfz53_2
                   try clear hfz53_3
                   try clear hfz55_0
                   try clear hfz55_1
                   try clear hfz55_2
                   try clear hfz55_3
                   try clear hfz58_0
                   try clear hfz58_1
                   try clear hfz58_2
                   try clear hfz58_3
                   try clear hfz6_0
                   try clear hx121_0
                   try clear hx121_1
                   try clear hx121_2
                   try clear hx121_3
                   try clear hx129_0
                   try clear hx129_1
                   try clear hx129_2
                   try clear hx129_3
                   try clear p1
                   try clear p12
                   try clear p121
                   try clear p129
                   try clear p2
                   try clear p6
                   try clear q1
                   try clear q12
                   try clear q121
                   try clear q129
                   try clear q3
                   try clear q32
                   obtain ⟨x79_5, rfl, HA, HK5, BK120, BK122, HB⟩ := hrel
                   cases gk with
                   | zero => exact absurd HA.out (by simp [spec_DataOK.l2])
                   | succ k5 =>
                    have H := HA.out
                    clear HA
                    simp only [spec_DataOK.l2] at H
                    by_cases c59 : x79_5 < (((rd_T55 l0_0 x20_1).f2).length : Int)
                    ·rw [if_pos c59] at H
                     have c59b0 : decide (x79_5 < (((rd_T55 l0_0 x20_1).f2).length : Int)) = true := decide_eq_true c59
                     clear c59
                     by_cases c60 : 0 ≤ x79_5
                     ·rw [if_pos c60] at H
                      have c60b0 : decide (0 ≤ x79_5) = true := decide_eq_true c60
                      clear c60
                      by_cases c61 : x79_5 < (((rd_T55 l0_0 x20_1).f2).length : Int)
                      ·rw [if_pos c61] at H
                       have c61b0 : decide (x79_5 < (((rd_T55 l0_0 x20_1).f2).length : Int)) = true := decide_eq_true c61
                       clear c61
                       have H' := Aside0.mk H
                       clear H
                       have p132 : 0 ≤ (x79_5 : Int) := of_decide_eq_true (by first | (with_reducible assumption) | assumption)
                       have q132 : x79_5 < (((rd_T55 l0_0 x20_1).f2).length : Int) := of_decide_eq_true (by first | (with_reducible assumption) | assumption)
                       obtain ⟨ad132, A132_0, c132_0, e132, hx132_0, hl132_0, hi132_0⟩ := at_L1 HR121_2.out x79_5 p132 q132
                       cases e132
                       replace hx132_0 := (HB.out.cell (World.block_lt_of_cell? w _ hx132_0)).trans hx132_0
                       have HR132_0 := Aside0.mk hi132_0
                       have HC132_0 := Aside0.mk hl132_0
                       clear hi132_0 hl132_0
                       replace p132 := eq_true p132
                       replace q132 := eq_true q132
                       go_wp2
                       go_loopg [85] k5 (fun kq v85 w' => ∃ (x85_6 : Int), v85 = .int .i64 x85_6 ∧ Aside0 (spec_DataOK.l3 kq l0_0 (l0_0.length : Int) x20_1 ((rd_T55 l0_0 x20_1).f2) (((rd_T55 l0_0 x20_1).f2).length : Int) x79_5 (rd_L1 ((rd_T55 l0_0 x20_1).f2) x79_5) ((rd_L1 ((rd_T55 l0_0 x20_1).f2) x79_5).length : Int) x85_6 l0_0 ((rd_T55 l0_0 x20_1).f0) ((rd_T55 l0_0 x20_1).f1) ((rd_T55 l0_0 x20_1).f2) ((rd_T55 l0_0 x20_1).f3) = some r) ∧ Aside0 (kq ≤ k5) ∧ Aside0 (w'.heap[gb120]? = some (.cells #[(.slice (some ad121) l0_0.length c0_0)] 29 (0, 0))) ∧ Aside0 (w'.heap[gb122]? = some (.cells #[.string ((rd_T55 l0_0 x20_1).f0), .int .i64 ((rd_T55 l0_0 x20_1).f1), (.slice (some ad132) ((rd_T55 l0_0 x20_1).f2).length c121_2), (.slice A121_3 ((rd_T55 l0_0 x20_1).f3).length c121_3)] 55 (0, 0))) ∧ Aside0 (Below w.heap.size w w'))
                       case atStart => exact ⟨(0), (by first | rfl | (simp; done) | (simp [*]; done)), H', ⟨Nat.le_refl _⟩, ⟨by (with_reducible repeat (first | refine blk_drewN ?_ _ | refine blk_drew ?_ | refine blk_alloc ?_ _)); exact BK120.out⟩, ⟨by (with_reducible repeat (first | refine blk_drewN ?_ _ | refine blk_drew ?_ | refine blk_alloc ?_ _)); exact BK122.out⟩, ⟨by repeat (first | (with_reducible first | exact HB.out | apply below_alloc | apply pw_below_drewN | apply below_drew1 | refine below_set ?_ GE120.out | refine below_set ?_ GE122.out) | exact HB.out)⟩⟩
                       case round =>
                        clear H'
                        try clear c1
                        try clear p1
                        try clear q1
                        try clear hx1
                        try clear c2
                        try clear c2b0
                        try clear c2b1
                        try clear p2
                        try clear c3
                        try clear q3
                        try clear c4
                        try clear c5
                        try clear c6
                        try clear p6
                        try clear c7
                        try clear c7b0
                        try clear c8
                        try clear c8b0
                        try clear c9
                        try clear c9b0
                        try clear c12
                        try clear p12
                        try clear q12
                        try clear hx12
                        try clear c13
                        try clear p13
                        try clear q13
                        try clear hx13
                        try clear c15
                        try clear c16
                        try clear c16b0
                        try clear c16b1
                        try clear c17
                        try clear c20
                        try clear c21
                        try clear c23
                        try clear c25
                        try clear c27
                        try clear c28
                        try clear c28b0
                        try clear c28b1
                        try clear c29
                        try clear c29b0
                        try clear c29b1
                        try clear c30
                        try clear q32
                        try clear c33
                        try clear c33b0
                        try clear c34
                        try clear c34b0
                        try clear c35
                        try clear c35b0
                        try clear c36
                        try clear c36b0
                        try clear c36b1
                        try clear c38
                        try clear c39
                        try clear c41
                        try clear c44
                        try clear c45
                        try clear c47
                        try clear c51
                        try clear c52
                        try clear c54
                        try clear c56
                        try clear c57
                        try clear c59
                        try clear c59b0
                        try clear c60
                        try clear c60b0
                        try clear c61
                        try clear c61b0
                        try clear hcz13_0
                        try clear hcz13_1
                        try clear hcz13_2
                        try clear hcz13_3
                        try clear hcz18_0
                        try clear hcz18_1
                        try clear hcz18_2
                        try clear hcz18_3
                        try clear hcz22_0
                        try clear hcz22_1
                        try clear hcz22_2
                        try clear hcz22_3
                        try clear hcz24_0
                        try clear hcz24_1
                        try clear hcz24_2
                        try clear hcz24_3
                        try clear hcz26_0
                        try clear hcz26_1
                        try clear hcz26_2
                        try clear hcz26_3
                        try clear hcz31_0
                        try clear hcz40_0
                        try clear hcz40_1
                        try clear hcz40_2
                        try clear hcz40_3
                        try clear hcz42_0
                        try clear hcz42_1
                        try clear hcz42_2
                        try clear hcz42_3
                        try clear hcz46_0
                        try clear hcz46_1
                        try clear hcz46_2
                        try clear hcz46_3
                        try clear hcz48_0
                        try clear hcz48_1
                        try clear hcz48_2
                        try clear hcz48_3
                        try clear hcz4_0
                        try clear hcz53_0
                        try clear hcz53_1
                        try clear hcz53_2
                        try clear hcz53_3
                        try clear hcz55_0
                        try clear hcz55_1
                        try clear hcz55_2
                        try clear hcz55_3
                        try clear hcz58_0
                        try clear hcz58_1
                        try clear hcz58_2
                        try clear hcz58_3
                        try clear hcz6_0
                        try clear hfz13_0
                        try clear hfz13_1
                        try clear hfz13_2
                        try clear hfz13_3
                        try clear hfz18_0
                        try clear hfz18_1
                        try clear hfz18_2
                        try clear hfz18_3
                        try clear hfz22_0
                        try clear hfz22_1
                        try clear hfz22_2
                        try clear hfz22_3
                        try clear hfz24_0
                        try clear hfz24_1
                        try clear hfz24_2
                        try clear hfz24_3
                        try clear hfz26_0
                        try clear hfz26_1
                        try clear hfz26_2
                        try clear hfz26_3
                        try clear hfz31_0
                        try clear hfz40_0
                        try clear hfz40_1
                        try clear hfz40_2
                        try clear hfz40_3
                        try clear hfz42_0
                        try clear hfz42_1
                        try clear hfz42_2
                        try clear hfz42_3
                        try clear hfz46_0
                        try clear hfz46_1
                        try clear hfz46_2
                        try clear hfz46_3
                        try clear hfz48_0
                        try clear hfz48_1
                        try clear hfz48_2
                        try clear hfz48_3
                        try clear hfz4_0
                        try clear hfz53_0
                        try clear hfz53_1
                        try clear hfz53_2
                        try clear hfz53_3
                        try clear hfz55_0
                        try clear hfz55_1
                        try clear hfz55_2
                        try clear hfz55_3
                        try clear hfz58_0
                        try clear hfz58_1
                        try clear hfz58_2
                        try clear hfz58_3
                        try clear hfz6_0
                        try clear hx121_0
                        try clear hx121_1
                        try clear hx121_2
                        try clear hx121_3
                        try clear hx129_0
                        try clear hx129_1
                        try clear hx129_2
                        try clear hx129_3
                        try clear hx132_0
                        try clear p1
                        try clear p12
                        try clear p121
                        try clear p129
                        try clear p132
                        try clear p2
                        try clear p6
                        try clear q1
                        try clear q12
                        try clear q121
                        try clear q129
                        try clear q132
                        try clear q3
                        try clear q32
                        obtain ⟨x85_6, rfl, HA, HK6, BK120, BK122, HB⟩ := hrel
                        cases gk with
                        | zero => exact absurd HA.out (by simp [spec_DataOK.l3])
                        | succ k6 =>
                         have H := HA.out
                         clear HA
                         simp only [spec_DataOK.l3] at H
                         by_cases c62 : x85_6 < ((rd_L1 ((rd_T55 l0_0 x20_1).f2) x79_5).length : Int)
                         ·rw [if_pos c62] at H
                          have c62b0 : decide (x85_6 < ((rd_L1 ((rd_T55 l0_0 x20_1).f2) x79_5).length : Int)) = true := decide_eq_true c62
                          clear c62
                          by_cases c63 : 0 ≤ x85_6
                          ·rw [if_pos c63] at H
                           have c63b0 : decide (0 ≤ x85_6) = true := decide_eq_true c63
                           clear c63
                           by_cases c64 : x85_6 < ((rd_L1 ((rd_T55 l0_0 x20_1).f2) x79_5).length : Int)
                           ·rw [if_pos c64] at H
                            have c64b0 : decide (x85_6 < ((rd_L1 ((rd_T55 l0_0 x20_1).f2) x79_5).length : Int)) = true := decide_eq_true c64
                            clear c64
                            replace H := Option.bind_eq_some_iff.mp H
                            obtain ⟨t134, A650, H⟩ := H
                            replace H : (if t134 = true then (spec_DataOK.l3 k6 l0_0 (l0_0.length : Int) x20_1 ((rd_T55 l0_0 x20_1).f2) (((rd_T55 l0_0 x20_1).f2).length : Int) x79_5 (rd_L1 ((rd_T55 l0_0 x20_1).f2) x79_5) ((rd_L1 ((rd_T55 l0_0 x20_1).f2) x79_5).length : Int) (wrap64 (x85_6 + 1)) l0_0 ((rd_T55 l0_0 x20_1).f0) ((rd_T55 l0_0 x20_1).f1) ((rd_T55 l0_0 x20_1).f2) ((rd_T55 l0_0 x20_1).f3)) else (some false)) = some r := H
                            have A65 := Aside0.mk A650
                            clear A650
                            by_cases c66 : t134 = true
                            ·subst c66
                             have H1 : (spec_DataOK.l3 k6 l0_0 (l0_0.length : Int) x20_1 ((rd_T55 l0_0 x20_1).f2) (((rd_T55 l0_0 x20_1).f2).length : Int) x79_5 (rd_L1 ((rd_T55 l0_0 x20_1).f2) x79_5) ((rd_L1 ((rd_T55 l0_0 x20_1).f2) x79_5).length : Int) (wrap64 (x85_6 + 1)) l0_0 ((rd_T55 l0_0 x20_1).f0) ((rd_T55 l0_0 x20_1).f1) ((rd_T55 l0_0 x20_1).f2) ((rd_T55 l0_0 x20_1).f3)) = some r := by rw [if_pos rfl] at H; exact H
                             clear H
                             have H := H1
                             clear H1
                             have H' := Aside0.mk H
                             clear H
                             have p133 : 0 ≤ (x85_6 : Int) := of_decide_eq_true (by first | (with_reducible assumption) | assumption)
                             have q133 : x85_6 < ((rd_L1 ((rd_T55 l0_0 x20_1).f2) x79_5).length : Int) := of_decide_eq_true (by first | (with_reducible assumption) | assumption)
                             obtain ⟨ad133, e133, hx133_0⟩ := Kd.at_int HR132_0.out x85_6 p133 q133
                             cases e133
                             replace hx133_0 := (HB.out.cell (World.block_lt_of_cell? w _ hx133_0)).trans hx133_0
                             replace p133 := eq_true p133
                             replace q133 := eq_true q133
                             go_wp2_with (first | ((with_reducible refine gate_callee (f := 55) rfl ?_); refine goesL_ (some 90) rfl rfl Tryd.func55 (by kernel_rfl) rfl #[.int .i64 (rd (rd_L1 ((rd_T55 l0_0 x20_1).f2) x79_5) x85_6), .int .i64 0, .int .i64 1000000] rfl (by (try simp only [List.map_toArray, List.map_cons, List.map_nil]); first | done | rfl | (simp only [List.length_drop, List.length_take]; rfl)) ?_; (with_reducible refine (spec_l1Between.calls (rd (rd_L1 ((rd_T55 l0_0 x20_1).f2) x79_5) x85_6) 0 1000000 true _ A65.out).mono ?_); rintro e w' ⟨rfl, ⟨nd, rfl⟩⟩; refine ⟨_, rfl, ?_⟩))
                             go_roundg k6
                             case measure => have := HK1.out; have := HJ9.out; have := HK3.out; have := HJ48.out; have := HK5.out; have := HK6.out; omega
                             case rel => exact ⟨(wrap64 (x85_6 + 1)), (by first | rfl | (simp; done) | (simp [*]; done)), H', ⟨by have := HK1.out; have := HJ9.out; have := HK3.out; have := HJ48.out; have := HK5.out; have := HK6.out; omega⟩, ⟨by (with_reducible repeat (first | refine blk_drewN ?_ _ | refine blk_drew ?_ | refine blk_alloc ?_ _)); exact BK120.out⟩, ⟨by (with_reducible repeat (first | refine blk_drewN ?_ _ | refine blk_drew ?_ | refine blk_alloc ?_ _)); exact BK122.out⟩, ⟨by repeat (first | (with_reducible first | exact HB.out | apply below_alloc | apply pw_below_drewN | apply below_drew1 | refine below_set ?_ GE120.out | refine below_set ?_ GE122.out) | exact HB.out)⟩⟩
                            ·replace c66 := Bool.eq_false_iff.mpr c66
                             subst c66
                             have H1 : (some false) = some r := by rw [if_neg (show ¬ (false = true) by decide)] at H; exact H
                             clear H
                             have H := H1
                             clear H1
                             obtain rfl := Option.some.inj H
                             have p133 : 0 ≤ (x85_6 : Int) := of_decide_eq_true (by first | (with_reducible assumption) | assumption)
                             have q133 : x85_6 < ((rd_L1 ((rd_T55 l0_0 x20_1).f2) x79_5).length : Int) := of_decide_eq_true (by first | (with_reducible assumption) | assumption)
                             obtain ⟨ad133, e133, hx133_0⟩ := Kd.at_int HR132_0.out x85_6 p133 q133
                             cases e133
                             replace hx133_0 := (HB.out.cell (World.block_lt_of_cell? w _ hx133_0)).trans hx133_0
                             replace p133 := eq_true p133
                             replace q133 := eq_true q133
                             go_wp2_with (first | ((with_reducible refine gate_callee (f := 55) rfl ?_); refine goesL_ (some 90) rfl rfl Tryd.func55 (by kernel_rfl) rfl #[.int .i64 (rd (rd_L1 ((rd_T55 l0_0 x20_1).f2) x79_5) x85_6), .int .i64 0, .int .i64 1000000] rfl (by (try simp only [List.map_toArray, List.map_cons, List.map_nil]); first | done | rfl | (simp only [List.length_drop, List.length_take]; rfl)) ?_; (with_reducible refine (spec_l1Between.calls (rd (rd_L1 ((rd_T55 l0_0 x20_1).f2) x79_5) x85_6) 0 1000000 false _ A65.out).mono ?_); rintro e w' ⟨rfl, ⟨nd, rfl⟩⟩; refine ⟨_, rfl, ?_⟩))
                             go_ret
                             exact ⟨by first | rfl | (simp [errW_none, errW_some] <;> rfl) | (simp [*, errW_none, errW_some] <;> rfl), by repeat (first | (with_reducible first | exact HB.out | apply below_alloc | apply pw_below_drewN | apply below_drew1 | refine below_set ?_ GE120.out | refine below_set ?_ GE122.out) | exact HB.out)⟩
                           ·rw [if_neg c64] at H
                            exact absurd H (by simp)
                          ·rw [if_neg c63] at H
                           exact absurd H (by simp)
                         ·rw [if_neg c62] at H
                          have c62b0 : decide (x85_6 < ((rd_L1 ((rd_T55 l0_0 x20_1).f2) x79_5).length : Int)) = false := decide_eq_false c62
                          clear c62
                          have H' := Aside0.mk H
                          clear H
                          go_wp2
                          go_roundg k6
                          case measure => have := HK1.out; have := HJ9.out; have := HK3.out; have := HJ48.out; have := HK5.out; have := HK6.out; omega
                          case rel => exact ⟨(wrap64 (x79_5 + 1)), (by first | rfl | (simp; done) | (simp [*]; done)), H', ⟨by have := HK1.out; have := HJ9.out; have := HK3.out; have := HJ48.out; have := HK5.out; have := HK6.out; omega⟩, ⟨by (with_reducible repeat (first | refine blk_drewN ?_ _ | refine blk_drew ?_ | refine blk_alloc ?_ _)); exact BK120.out⟩, ⟨by (with_reducible repeat (first | refine blk_drewN ?_ _ | refine blk_drew ?_ | refine blk_alloc ?_ _)); exact BK122.out⟩, ⟨by repeat (first | (with_reducible first | exact HB.out | apply below_alloc | apply pw_below_drewN | apply below_drew1 | refine below_set ?_ GE120.out | refine below_set ?_ GE122.out) | exact HB.out)⟩⟩
                      ·rw [if_neg c61] at H
                       exact absurd H (by simp)
                     ·rw [if_neg c60] at H
                      exact absurd H (by simp)
                    ·rw [if_neg c59] at H
                     have c59b0 : decide (x79_5 < (((rd_T55 l0_0 x20_1).f2).length : Int)) = false := decide_eq_false c59
                     clear c59
                     have H' := Aside0.mk H
                     clear H
                     have hnb67 := NB122_120.out
                     have hnc67 := NB120_122.out
                     have hcz68_0 : wr.cell? ⟨gb122, 0, none⟩ = some (.string ((rd_T55 l0_0 x20_1).f0)) := (blk_cell BK122.out 0).trans rfl
                     have hcz68_1 : wr.cell? ⟨gb122, 1, none⟩ = some (.int .i64 ((rd_T55 l0_0 x20_1).f1)) := (blk_cell BK122.out 1).trans rfl
                     have hcz68_2 : wr.cell? ⟨gb122, 2, none⟩ = some (.slice A121_2 ((rd_T55 l0_0 x20_1).f2).length c121_2) := (blk_cell BK122.out 2).trans rfl
                     have hcz68_3 : wr.cell? ⟨gb122, 3, none⟩ = some (.slice A121_3 ((rd_T55 l0_0 x20_1).f3).length c121_3) := (blk_cell BK122.out 3).trans rfl
                     have hfz68_0 := blk_frozen BK122.out 0
                     have hfz68_1 := blk_frozen BK122.out 1
                     have hfz68_2 := blk_frozen BK122.out 2
                     have hfz68_3 := blk_frozen BK122.out 3
                     go_wp2
                     go_loopg [97] k5 (fun kq v97 w' => ∃ (x97_6 : Int), v97 = .int .i64 x97_6 ∧ Aside0 (spec_DataOK.l4 kq l0_0 (l0_0.length : Int) x20_1 ((rd_T55 l0_0 x20_1).f3) (((rd_T55 l0_0 x20_1).f3).length : Int) x97_6 l0_0 = some r) ∧ Aside0 (kq ≤ k5) ∧ Aside0 (w'.heap[gb120]? = some (.cells #[(.slice (some ad121) l0_0.length c0_0)] 29 (0, 0))) ∧ Aside0 (w'.heap[gb122]? = some (.cells #[.string ((rd_T55 l0_0 x20_1).f0), .int .i64 ((rd_T55 l0_0 x20_1).f1), (.slice A121_2 ((rd_T55 l0_0 x20_1).f2).length c121_2), (.slice A121_3 ((rd_T55 l0_0 x20_1).f3).length c121_3)] 55 (0, 0))) ∧ Aside0 (Below w.heap.size w w'))
                     case atStart => exact ⟨(0), (by first | rfl | (simp; done) | (simp [*]; done)), H', ⟨Nat.le_refl _⟩, ⟨by (with_reducible repeat (first | refine blk_drewN ?_ _ | refine blk_drew ?_ | refine blk_alloc ?_ _)); exact BK120.out⟩, ⟨by (with_reducible repeat (first | refine blk_drewN ?_ _ | refine blk_drew ?_ | refine blk_alloc ?_ _)); exact BK122.out⟩, ⟨by repeat (first | (with_reducible first | exact HB.out | apply below_alloc | apply pw_below_drewN | apply below_drew1 | refine below_set ?_ GE120.out | refine below_set ?_ GE122.out) | exact HB.out)⟩⟩
                     case round =>
                      clear H'
                      try clear c1
                      try clear p1
                      try clear q1
                      try clear hx1
                      try clear c2
                      try clear c2b0
                      try clear c2b1
                      try clear p2
                      try clear c3
                      try clear q3
                      try clear c4
                      try clear c5
                      try clear c6
                      try clear p6
                      try clear c7
                      try clear c7b0
                      try clear c8
                      try clear c8b0
                      try clear c9
                      try clear c9b0
                      try clear c12
                      try clear p12
                      try clear q12
                      try clear hx12
                      try clear c13
                      try clear p13
                      try clear q13
                      try clear hx13
                      try clear c15
                      try clear c16
                      try clear c16b0
                      try clear c16b1
                      try clear c17
                      try clear c20
                      try clear c21
                      try clear c23
                      try clear c25
                      try clear c27
                      try clear c28
                      try clear c28b0
                      try clear c28b1
                      try clear c29
                      try clear c29b0
                      try clear c29b1
                      try clear c30
                      try clear q32
                      try clear c33
                      try clear c33b0
                      try clear c34
                      try clear c34b0
                      try clear c35
                      try clear c35b0
                      try clear c36
                      try clear c36b0
                      try clear c36b1
                      try clear c38
                      try clear c39
                      try clear c41
                      try clear c44
                      try clear c45
                      try clear c47
                      try clear c51
                      try clear c52
                      try clear c54
                      try clear c55
                      try clear c56
                      try clear c57
                      try clear c59
                      try clear c59b0
                      try clear c60
                      try clear c60b0
                      try clear c61
                      try clear c61b0
                      try clear c62
                      try clear c62b0
                      try clear c63
                      try clear c63b0
                      try clear c64
                      try clear c64b0
                      try clear p64
                      try clear c66
                      try clear c67
                      try clear hcz13_0
                      try clear hcz13_1
                      try clear hcz13_2
                      try clear hcz13_3
                      try clear hcz18_0
                      try clear hcz18_1
                      try clear hcz18_2
                      try clear hcz18_3
                      try clear hcz22_0
                      try clear hcz22_1
                      try clear hcz22_2
                      try clear hcz22_3
                      try clear hcz24_0
                      try clear hcz24_1
                      try clear hcz24_2
                      try clear hcz24_3
                      try clear hcz26_0
                      try clear hcz26_1
                      try clear hcz26_2
                      try clear hcz26_3
                      try clear hcz31_0
                      try clear hcz40_0
                      try clear hcz40_1
                      try clear hcz40_2
                      try clear hcz40_3
                      try clear hcz42_0
                      try clear hcz42_1
                      try clear hcz42_2
                      try clear hcz42_3
                      try clear hcz46_0
                      try clear hcz46_1
                      try clear hcz46_2
                      try clear hcz46_3
                      try clear hcz48_0
                      try clear hcz48_1
                      try clear hcz48_2
                      try clear hcz48_3
                      try clear hcz4_0
                      try clear hcz53_0
                      try clear hcz53_1
                      try clear hcz53_2
                      try clear hcz53_3
                      try clear hcz55_0
                      try clear hcz55_1
                      try clear hcz55_2
                      try clear hcz55_3
                      try clear hcz58_0
                      try clear hcz58_1
                      try clear hcz58_2
                      try clear hcz58_3
                      try clear hcz68_0
                      try clear hcz68_1
                      try clear hcz68_2
                      try clear hcz68_3
                      try clear hcz6_0
                      try clear hfz13_0
                      try clear hfz13_1
                      try clear hfz13_2
                      try clear hfz13_3
                      try clear hfz18_0
                      try clear hfz18_1
                      try clear hfz18_2
                      try clear hfz18_3
                      try clear hfz22_0
                      try clear hfz22_1
                      try clear hfz22_2
                      try clear hfz22_3
                      try clear hfz24_0
                      try clear hfz24_1
                      try clear hfz24_2
                      try clear hfz24_3
                      try clear hfz26_0
                      try clear hfz26_1
                      try clear hfz26_2
                      try clear hfz26_3
                      try clear hfz31_0
                      try clear hfz40_0
                      try clear hfz40_1
                      try clear hfz40_2
                      try clear hfz40_3
                      try clear hfz42_0
                      try clear hfz42_1
                      try clear hfz42_2
                      try clear hfz42_3
                      try clear hfz46_0
                      try clear hfz46_1
                      try clear hfz46_2
                      try clear hfz46_3
                      try clear hfz48_0
                      try clear hfz48_1
                      try clear hfz48_2
                      try clear hfz48_3
                      try clear hfz4_0
                      try clear hfz53_0
                      try clear hfz53_1
                      try clear hfz53_2
                      try clear hfz53_3
                      try clear hfz55_0
                      try clear hfz55_1
                      try clear hfz55_2
                      try clear hfz55_3
                      try clear hfz58_0
                      try clear hfz58_1
                      try clear hfz58_2
                      try clear hfz58_3
                      try clear hfz68_0
                      try clear hfz68_1
                      try clear hfz68_2
                      try clear hfz68_3
                      try clear hfz6_0
                      try clear hx121_0
                      try clear hx121_1
                      try clear hx121_2
                      try clear hx121_3
                      try clear hx129_0
                      try clear hx129_1
                      try clear hx129_2
                      try clear hx129_3
                      try clear hx132_0
                      try clear hx133_0
                      try clear p1
                      try clear p12
                      try clear p121
                      try clear p129
                      try clear p13
                      try clear p132
                      try clear p133
                      try clear p2
                      try clear p6
                      try clear q1
                      try clear q12
                      try clear q121
                      try clear q129
                      try clear q13
                      try clear q132
                      try clear q133
                      try clear q3
                      try clear q32
                      obtain ⟨x97_6, rfl, HA, HK6, BK120, BK122, HB⟩ := hrel
                      cases gk with
                      | zero => exact absurd HA.out (by simp [spec_DataOK.l4])
                      | succ k6 =>
                       have H := HA.out
                       clear HA
                       simp only [spec_DataOK.l4] at H
                       by_cases c69 : x97_6 < (((rd_T55 l0_0 x20_1).f3).length : Int)
                       ·rw [if_pos c69] at H
                        have c69b0 : decide (x97_6 < (((rd_T55 l0_0 x20_1).f3).length : Int)) = true := decide_eq_true c69
                        clear c69
                        by_cases c70 : 0 ≤ x97_6
                        ·rw [if_pos c70] at H
                         have c70b0 : decide (0 ≤ x97_6) = true := decide_eq_true c70
                         clear c70
                         by_cases c71 : x97_6 < (((rd_T55 l0_0 x20_1).f3).length : Int)
                         ·rw [if_pos c71] at H
                          have c71b0 : decide (x97_6 < (((rd_T55 l0_0 x20_1).f3).length : Int)) = true := decide_eq_true c71
                          clear c71
                          replace H := Option.bind_eq_some_iff.mp H
                          obtain ⟨t136, A720, H⟩ := H
                          replace H : (if t136 = true then (spec_DataOK.l4 k6 l0_0 (l0_0.length : Int) x20_1 ((rd_T55 l0_0 x20_1).f3) (((rd_T55 l0_0 x20_1).f3).length : Int) (wrap64 (x97_6 + 1)) l0_0) else (some false)) = some r := H
                          have A72 := Aside0.mk A720
                          clear A720
                          by_cases c73 : t136 = true
                          ·subst c73
                           have H1 : (spec_DataOK.l4 k6 l0_0 (l0_0.length : Int) x20_1 ((rd_T55 l0_0 x20_1).f3) (((rd_T55 l0_0 x20_1).f3).length : Int) (wrap64 (x97_6 + 1)) l0_0) = some r := by rw [if_pos rfl] at H; exact H
                           clear H
                           have H := H1
                           clear H1
                           have H' := Aside0.mk H
                           clear H
                           have p135 : 0 ≤ (x97_6 : Int) := of_decide_eq_true (by first | (with_reducible assumption) | assumption)
                           have q135 : x97_6 < (((rd_T55 l0_0 x20_1).f3).length : Int) := of_decide_eq_true (by first | (with_reducible assumption) | assumption)
                           obtain ⟨ad135, e135, hx135_0⟩ := Kd.at_int HR121_3.out x97_6 p135 q135
                           cases e135
                           replace hx135_0 := (HB.out.cell (World.block_lt_of_cell? w _ hx135_0)).trans hx135_0
                           replace p135 := eq_true p135
                           replace q135 := eq_true q135
                           go_wp2_with (first | ((with_reducible refine gate_callee (f := 55) rfl ?_); refine goesL_ (some 102) rfl rfl Tryd.func55 (by kernel_rfl) rfl #[.int .i64 (rd ((rd_T55 l0_0 x20_1).f3) x97_6), .int .i64 (-1000000), .int .i64 1000000] rfl (by (try simp only [List.map_toArray, List.map_cons, List.map_nil]); first | done | rfl | (simp only [List.length_drop, List.length_take]; rfl)) ?_; (with_reducible refine (spec_l1Between.calls (rd ((rd_T55 l0_0 x20_1).f3) x97_6) (-1000000) 1000000 true _ A72.out).mono ?_); rintro e w' ⟨rfl, ⟨nd, rfl⟩⟩; refine ⟨_, rfl, ?_⟩))
                           go_roundg k6
                           case measure => have := HK1.out; have := HJ9.out; have := HK3.out; have := HJ48.out; have := HK5.out; have := HK6.out; omega
                           case rel => exact ⟨(wrap64 (x97_6 + 1)), (by first | rfl | (simp; done) | (simp [*]; done)), H', ⟨by have := HK1.out; have := HJ9.out; have := HK3.out; have := HJ48.out; have := HK5.out; have := HK6.out; omega⟩, ⟨by (with_reducible repeat (first | refine blk_drewN ?_ _ | refine blk_drew ?_ | refine blk_alloc ?_ _)); exact BK120.out⟩, ⟨by (with_reducible repeat (first | refine blk_drewN ?_ _ | refine blk_drew ?_ | refine blk_alloc ?_ _)); exact BK122.out⟩, ⟨by repeat (first | (with_reducible first | exact HB.out | apply below_alloc | apply pw_below_drewN | apply below_drew1 | refine below_set ?_ GE120.out | refine below_set ?_ GE122.out) | exact HB.out)⟩⟩
                          ·replace c73 := Bool.eq_false_iff.mpr c73
                           subst c73
                           have H1 : (some false) = some r := by rw [if_neg (show ¬ (false = true) by decide)] at H; exact H
                           clear H
                           have H := H1
                           clear H1
                           obtain rfl := Option.some.inj H
                           have p135 : 0 ≤ (x97_6 : Int) := of_decide_eq_true (by first | (with_reducible assumption) | assumption)
                           have q135 : x97_6 < (((rd_T55 l0_0 x20_1).f3).length : Int) := of_decide_eq_true (by first | (with_reducible assumption) | assumption)
                           obtain ⟨ad135, e135, hx135_0⟩ := Kd.at_int HR121_3.out x97_6 p135 q135
                           cases e135
                           replace hx135_0 := (HB.out.cell (World.block_lt_of_cell? w _ hx135_0)).trans hx135_0
                           replace p135 := eq_true p135
                           replace q135 := eq_true q135
                           go_wp2_with (first | ((with_reducible refine gate_callee (f := 55) rfl ?_); refine goesL_ (some 102) rfl rfl Tryd.func55 (by kernel_rfl) rfl #[.int .i64 (rd ((rd_T55 l0_0 x20_1).f3) x97_6), .int .i64 (-1000000), .int .i64 1000000] rfl (by (try simp only [List.map_toArray, List.map_cons, List.map_nil]); first | done | rfl | (simp only [List.length_drop, List.length_take]; rfl)) ?_; (with_reducible refine (spec_l1Between.calls (rd ((rd_T55 l0_0 x20_1).f3) x97_6) (-1000000) 1000000 false _ A72.out).mono ?_); rintro e w' ⟨rfl, ⟨nd, rfl⟩⟩; refine ⟨_, rfl, ?_⟩))
                           go_ret
                           exact ⟨by first | rfl | (simp [errW_none, errW_some] <;> rfl) | (simp [*, errW_none, errW_some] <;> rfl), by repeat (first | (with_reducible first | exact HB.out | apply below_alloc | apply pw_below_drewN | apply below_drew1 | refine below_set ?_ GE120.out | refine below_set ?_ GE122.out) | exact HB.out)⟩
                         ·rw [if_neg c71] at H
                          exact absurd H (by simp)
                        ·rw [if_neg c70] at H
                         exact absurd H (by simp)
                       ·rw [if_neg c69] at H
                        have c69b0 : decide (x97_6 < (((rd_T55 l0_0 x20_1).f3).length : Int)) = false := decide_eq_false c69
                        clear c69
                        have H' := Aside0.mk H
                        clear H
                        go_wp2
                        go_roundg k6
                        case measure => have := HK1.out; have := HJ9.out; have := HK3.out; have := HJ48.out; have := HK5.out; have := HK6.out; omega
                        case rel => exact ⟨(wrap64 (x20_1 + 1)), (by first | rfl | (simp; done) | (simp [*]; done)), H', ⟨by have := HK1.out; have := HJ9.out; have := HK3.out; have := HJ48.out; have := HK5.out; have := HK6.out; omega⟩, ⟨by (with_reducible repeat (first | refine blk_drewN ?_ _ | refine blk_drew ?_ | refine blk_alloc ?_ _)); exact BK120.out⟩, ⟨by repeat (first | (with_reducible first | exact HB.out | apply below_alloc | apply pw_below_drewN | apply below_drew1 | refine below_set ?_ GE120.out | refine below_set ?_ GE122.out) | exact HB.out)⟩⟩
           ·rw [if_neg c29] at H
            exact absurd H (by simp)
          ·rw [if_neg c28] at H
           exact absurd H (by simp)
      ·rw [if_neg c9] at H
       exact absurd H (by simp)
     ·rw [if_neg c8] at H
      exact absurd H (by simp)
    ·rw [if_neg c7] at H
     have c7b0 : decide (x20_1 < (l0_0.length : Int)) = false := decide_eq_false c7
     clear c7
     obtain rfl := Option.some.inj H
     go_wp2
     go_ret
     exact ⟨by first | rfl | (simp [errW_none, errW_some] <;> rfl) | (simp [*, errW_none, errW_some] <;> rfl), by repeat (first | (with_reducible first | exact HB.out | apply below_alloc | apply pw_below_drewN | apply below_drew1 | refine below_set ?_ GE120.out) | exact HB.out)⟩
end Go.Proofs.YtjlglimikbfgmaaDoor.P
