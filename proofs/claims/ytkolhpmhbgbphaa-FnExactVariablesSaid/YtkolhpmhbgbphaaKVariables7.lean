/-
  Part 7 of the proof of this: The law FnExactVariables answers true at every argument.
-/
import Derived.Test.YtkolhpmhbgbphaaKVariables2
import Derived.Test.YtkolhpmhbgbphaaKVariables3
import Derived.Test.YtkolhpmhbgbphaaKVariables4
import Derived.Test.YtkolhpmhbgbphaaKVariables5
import Derived.Test.YtkolhpmhbgbphaaKVariables6
namespace Go.Proofs.Ytkolhpmhbgbphaa.P
open Go.RowKit Go.Proofs.YtkolhpmhbgbphaaW.PrintWords Go.Proofs.YtkolhpmhbgbphaaW.PrintLast Go.Proofs.YtkolhpmhbgbphaaW.PrintMore
attribute [local go_sem] max2_int min2_int max_two min_two max_three min_three max_four min_four
set_option linter.unusedVariables false
set_option linter.unusedSimpArgs false
def spec_l3Place.l0 : Nat → ByteArray → List ByteArray → Int → Int → Option (Int)
 | 0, _, _, _, _ => none
 | k + 1, x1, x7, x8, x9 => if x9 < x8 then (if 0 ≤ x9 then (if x9 < (x7.length : Int) then (if (rdOf ByteArray.empty x7 x9).toList = x1.toList then (some x9) else (spec_l3Place.l0 k x1 x7 x8 (wrap64 (x9 + 1)))) else (none)) else (none)) else (some (-1))
def spec_l3Place.f (k : Nat) (l0 : List ByteArray) (a1 : ByteArray) : Option (Int) := spec_l3Place.l0 k a1 l0 (l0.length : Int) 0
theorem spec_l3Place.mono_l : ∀ k, (∀ y0 y1 y2 y3, LeO (spec_l3Place.l0 k y0 y1 y2 y3) (spec_l3Place.l0 (k + 1) y0 y1 y2 y3))
 | 0 => fun _ _ _ _ r h => by simp [spec_l3Place.l0] at h
 | k + 1 => by
  have ih0 := spec_l3Place.mono_l k
  ·intro y0 y1 y2 y3
   unfold spec_l3Place.l0
   repeat' first
   | (with_reducible exact ih0 _ _ _ _)
   | (with_reducible exact LeO.refl _)
   | (with_reducible exact LeO.none _)
   | (with_reducible refine LeO.ite ?_ ?_)
   | (with_reducible refine LeO.bind ?_ (fun _ => ?_))
   | exact ih0 _ _ _ _
   | exact LeO.none _
   | refine LeO.ite ?_ ?_
   | refine LeO.bind ?_ (fun _ => ?_)
theorem spec_l3Place.mono : ∀ a0 a1 k, LeO (spec_l3Place.f k a0 a1) (spec_l3Place.f (k + 1) a0 a1) := by
 intro a0 a1 k
 have ih0 := spec_l3Place.mono_l k
 unfold spec_l3Place.f
 repeat' first
   | (with_reducible exact ih0 _ _ _ _)
   | (with_reducible exact LeO.refl _)
   | (with_reducible exact LeO.none _)
   | (with_reducible refine LeO.ite ?_ ?_)
   | (with_reducible refine LeO.bind ?_ (fun _ => ?_))
   | exact ih0 _ _ _ _
   | exact LeO.none _
   | refine LeO.ite ?_ ?_
   | refine LeO.bind ?_ (fun _ => ?_)
set_option maxHeartbeats 8000000 in
set_option maxRecDepth 100000 in
theorem spec_l3Place.calls (k : Nat) (A0 : Option Addr) (c0 : Nat) (l0 : List ByteArray) (a1 : ByteArray) (r : Int) (w : World) (hr0 : Kd.C Kd.string w A0 l0.length l0) (hc0 : l0.length ≤ c0) (h : spec_l3Place.f k l0 a1 = some r) :
  Calls Try.prog 107 #[.slice A0 l0.length c0, .string a1] w fun e w' => e = .returned (.int .i64 r) ∧ Drawn0 w w' := by
 have HR0 := Aside0.mk hr0
 have HC0 := Aside0.mk hc0
 clear hr0 hc0
 have H : (spec_l3Place.l0 k a1 l0 (l0.length : Int) 0) = some r := h
 clear h
 have H' := Aside0.mk H
 clear H
 go_enter Try.func107, Try.ntmps107
 go_wp2
 go_loopg [9] k (fun kq v9 w' => ∃ (x9_1 : Int), v9 = .int .i64 x9_1 ∧ Aside0 (spec_l3Place.l0 kq a1 l0 (l0.length : Int) x9_1 = some r) ∧ Aside0 (kq ≤ k) ∧ Drawn0 w w')
 case atStart => exact ⟨(0), (by first | rfl | (simp; done) | (simp [*]; done)), H', ⟨Nat.le_refl _⟩, by repeat (first | exact Drawn0.refl _ | apply Drawn0.step)⟩
 case round =>
  clear H'
  try clear c1
  try clear p2
  obtain ⟨x9_1, rfl, HA, HK1, ⟨m1, rfl⟩⟩ := hrel
  cases gk with
  | zero => exact absurd HA.out (by simp [spec_l3Place.l0])
  | succ k1 =>
   have H := HA.out
   clear HA
   simp only [spec_l3Place.l0] at H
   by_cases c3 : x9_1 < (l0.length : Int)
   ·rw [if_pos c3] at H
    have c3b0 : decide (x9_1 < (l0.length : Int)) = true := decide_eq_true c3
    clear c3
    by_cases c4 : 0 ≤ x9_1
    ·rw [if_pos c4] at H
     have c4b0 : decide (0 ≤ x9_1) = true := decide_eq_true c4
     clear c4
     by_cases c5 : x9_1 < (l0.length : Int)
     ·rw [if_pos c5] at H
      have c5b0 : decide (x9_1 < (l0.length : Int)) = true := decide_eq_true c5
      clear c5
      by_cases c6 : (rdOf ByteArray.empty l0 x9_1).toList = a1.toList
      ·rw [if_pos c6] at H
       have c6b0 : ((rdOf ByteArray.empty l0 x9_1).toList == a1.toList) = true := beq_iff_eq.mpr c6
       have c6b1 : ((rdOf ByteArray.empty l0 x9_1).toList != a1.toList) = false := bne_eq_false_iff_eq.mpr c6
       clear c6
       obtain rfl := Option.some.inj H
       have p179 : 0 ≤ (x9_1 : Int) := of_decide_eq_true (by first | (with_reducible assumption) | assumption)
       have q179 : x9_1 < (l0.length : Int) := of_decide_eq_true (by first | (with_reducible assumption) | assumption)
       obtain ⟨ad179, e179, hx179_0⟩ := Kd.at_string HR0.out x9_1 p179 q179
       cases e179
       replace p179 := eq_true p179
       replace q179 := eq_true q179
       go_wp2
       go_ret
       exact ⟨by first | rfl | (simp; done) | (simp [*]; done), by repeat (first | exact Drawn0.refl _ | apply Drawn0.step)⟩
      ·rw [if_neg c6] at H
       have c6b0 : ((rdOf ByteArray.empty l0 x9_1).toList == a1.toList) = false := beq_eq_false_iff_ne.mpr c6
       have c6b1 : ((rdOf ByteArray.empty l0 x9_1).toList != a1.toList) = true := bne_iff_ne.mpr c6
       have H' := Aside0.mk H
       clear H
       have p179 : 0 ≤ (x9_1 : Int) := of_decide_eq_true (by first | (with_reducible assumption) | assumption)
       have q179 : x9_1 < (l0.length : Int) := of_decide_eq_true (by first | (with_reducible assumption) | assumption)
       obtain ⟨ad179, e179, hx179_0⟩ := Kd.at_string HR0.out x9_1 p179 q179
       cases e179
       replace p179 := eq_true p179
       replace q179 := eq_true q179
       go_wp2
       go_roundg k1
       case measure => have := HK1.out; omega
       case rel => exact ⟨(wrap64 (x9_1 + 1)), (by first | rfl | (simp; done) | (simp [*]; done)), H', ⟨by have := HK1.out; omega⟩, by repeat (first | exact Drawn0.refl _ | apply Drawn0.step)⟩
     ·rw [if_neg c5] at H
      exact absurd H (by simp)
    ·rw [if_neg c4] at H
     exact absurd H (by simp)
   ·rw [if_neg c3] at H
    have c3b0 : decide (x9_1 < (l0.length : Int)) = false := decide_eq_false c3
    clear c3
    obtain rfl := Option.some.inj H
    go_wp2
    go_ret
    exact ⟨by first | rfl | (simp; done) | (simp [*]; done), by repeat (first | exact Drawn0.refl _ | apply Drawn0.step)⟩
end Go.Proofs.Ytkolhpmhbgbphaa.P
namespace Go.Proofs.Ytkolhpmhbgbphaa.P
open Go.RowKit Go.Proofs.YtkolhpmhbgbphaaW.PrintWords Go.Proofs.YtkolhpmhbgbphaaW.PrintLast Go.Proofs.YtkolhpmhbgbphaaW.PrintMore
attribute [local go_sem] max2_int min2_int max_two min_two max_three min_three max_four min_four
set_option linter.unusedVariables false
set_option linter.unusedSimpArgs false
mutual
def spec_l3Vars.l0 : Nat → List ByteArray → List (S148) → Int → Int → Option (List ByteArray)
 | 0, _, _, _, _ => none
 | k + 1, x3, x10, x11, x12 => if x12 < x11 then (if 0 ≤ x12 then (if x12 < (x10.length : Int) then (spec_l3Vars.l1 k x3 x10 x11 x12 ((rd_T148 x10 x12).f1) (((rd_T148 x10 x12).f1).length : Int) 0) else (none)) else (none)) else (some x3)
def spec_l3Vars.l1 : Nat → List ByteArray → List (S148) → Int → Int → List (S185) → Int → Int → Option (List ByteArray)
 | 0, _, _, _, _, _, _, _ => none
 | k + 1, x3, x10, x11, x12, x17, x18, x19 => if x19 < x18 then (if 0 ≤ x19 then (if x19 < (x17.length : Int) then (if ((rd_T185 x17 x19).f0).toList = ([] : List UInt8) then (spec_l3Vars.l1 k x3 x10 x11 x12 x17 x18 (wrap64 (x19 + 1))) else ((spec_l3Place.f k x3 ((rd_T185 x17 x19).f0)).bind fun t188 => (if t188 < 0 then (if x3.length < 8796093022208 then (spec_l3Vars.l1 k (x3 ++ [(rd_T185 x17 x19).f0]) x10 x11 x12 x17 x18 (wrap64 (x19 + 1))) else (none)) else (spec_l3Vars.l1 k x3 x10 x11 x12 x17 x18 (wrap64 (x19 + 1)))))) else (none)) else (none)) else (spec_l3Vars.l0 k x3 x10 x11 (wrap64 (x12 + 1)))
end
def spec_l3Vars.f (k : Nat) (a0_0 : ByteArray) (l0_1 : List ByteArray) (a0_2 : Int) (l0_3 : List (S148)) : Option (List ByteArray) := spec_l3Vars.l0 k (([] : List ByteArray)) l0_3 (l0_3.length : Int) 0
theorem spec_l3Vars.mono_l : ∀ k, (∀ y0 y1 y2 y3, LeO (spec_l3Vars.l0 k y0 y1 y2 y3) (spec_l3Vars.l0 (k + 1) y0 y1 y2 y3)) ∧ (∀ y0 y1 y2 y3 y4 y5 y6, LeO (spec_l3Vars.l1 k y0 y1 y2 y3 y4 y5 y6) (spec_l3Vars.l1 (k + 1) y0 y1 y2 y3 y4 y5 y6))
 | 0 => ⟨fun _ _ _ _ r h => by simp [spec_l3Vars.l0] at h, fun _ _ _ _ _ _ _ r h => by simp [spec_l3Vars.l1] at h⟩
 | k + 1 => by
  obtain ⟨ih0, ih1⟩ := spec_l3Vars.mono_l k
  refine ⟨?_, ?_⟩
  ·intro y0 y1 y2 y3
   unfold spec_l3Vars.l0
   repeat' first
   | (with_reducible exact ih0 _ _ _ _)
   | (with_reducible exact ih1 _ _ _ _ _ _ _)
   | (with_reducible exact spec_l3Place.mono _ _ _)
   | (with_reducible exact LeO.refl _)
   | (with_reducible exact LeO.none _)
   | (with_reducible refine LeO.ite ?_ ?_)
   | (with_reducible refine LeO.bind ?_ (fun _ => ?_))
   | exact ih0 _ _ _ _
   | exact ih1 _ _ _ _ _ _ _
   | exact spec_l3Place.mono _ _ _
   | exact LeO.none _
   | refine LeO.ite ?_ ?_
   | refine LeO.bind ?_ (fun _ => ?_)
  ·intro y0 y1 y2 y3 y4 y5 y6
   unfold spec_l3Vars.l1
   repeat' first
   | (with_reducible exact ih0 _ _ _ _)
   | (with_reducible exact ih1 _ _ _ _ _ _ _)
   | (with_reducible exact spec_l3Place.mono _ _ _)
   | (with_reducible exact LeO.refl _)
   | (with_reducible exact LeO.none _)
   | (with_reducible refine LeO.ite ?_ ?_)
   | (with_reducible refine LeO.bind ?_ (fun _ => ?_))
   | exact ih0 _ _ _ _
   | exact ih1 _ _ _ _ _ _ _
   | exact spec_l3Place.mono _ _ _
   | exact LeO.none _
   | refine LeO.ite ?_ ?_
   | refine LeO.bind ?_ (fun _ => ?_)
theorem spec_l3Vars.mono : ∀ a0 a1 a2 a3 k, LeO (spec_l3Vars.f k a0 a1 a2 a3) (spec_l3Vars.f (k + 1) a0 a1 a2 a3) := by
 intro a0 a1 a2 a3 k
 obtain ⟨ih0, ih1⟩ := spec_l3Vars.mono_l k
 unfold spec_l3Vars.f
 repeat' first
   | (with_reducible exact ih0 _ _ _ _)
   | (with_reducible exact ih1 _ _ _ _ _ _ _)
   | (with_reducible exact spec_l3Place.mono _ _ _)
   | (with_reducible exact LeO.refl _)
   | (with_reducible exact LeO.none _)
   | (with_reducible refine LeO.ite ?_ ?_)
   | (with_reducible refine LeO.bind ?_ (fun _ => ?_))
   | exact ih0 _ _ _ _
   | exact ih1 _ _ _ _ _ _ _
   | exact spec_l3Place.mono _ _ _
   | exact LeO.none _
   | refine LeO.ite ?_ ?_
   | refine LeO.bind ?_ (fun _ => ?_)
set_option maxHeartbeats 8000000 in
set_option maxRecDepth 100000 in
theorem spec_l3Vars.calls (k : Nat) (a0_0 : ByteArray) (A0_1 : Option Addr) (c0_1 : Nat) (l0_1 : List ByteArray) (a0_2 : Int) (A0_3 : Option Addr) (c0_3 : Nat) (l0_3 : List (S148)) (r : List ByteArray) (w : World) (hr0_1 : Kd.C Kd.string w A0_1 l0_1.length l0_1) (hc0_1 : l0_1.length ≤ c0_1) (hr0_3 : Kd.C k148 w A0_3 l0_3.length l0_3) (hc0_3 : l0_3.length ≤ c0_3) (h : spec_l3Vars.f k a0_0 l0_1 a0_2 l0_3 = some r) :
  Calls Try.prog 72 #[.agg #[.string a0_0, .slice A0_1 l0_1.length c0_1, .int .i64 a0_2, .slice A0_3 l0_3.length c0_3]] w fun e w' => ∃ v0_ : Value, e = .returned (v0_) ∧ Kd.R Kd.string 9 w' w.heap.size (fun _ => True) v0_ r ∧ Below w.heap.size w w' := by
 have hu39 := Try.underlying39
 have hu148 := Try.underlying148
 have hu185 := Try.underlying185
 have HR0_1 := Aside0.mk hr0_1
 have HC0_1 := Aside0.mk hc0_1
 clear hr0_1 hc0_1
 have HR0_3 := Aside0.mk hr0_3
 have HC0_3 := Aside0.mk hc0_3
 clear hr0_3 hc0_3
 have HB := Aside0.mk (Below.refl w.heap.size w)
 have H : (spec_l3Vars.l0 k (([] : List ByteArray)) l0_3 (l0_3.length : Int) 0) = some r := h
 clear h
 obtain ⟨y181, hy181⟩ : ∃ y_ : List ByteArray, y_ = (([] : List ByteArray)) := ⟨_, rfl⟩
 replace H : (spec_l3Vars.l0 k y181 l0_3 (l0_3.length : Int) 0) = some r := by first | (rw [hy181]; with_reducible exact H) | (have H2_ := (Option.bind_some _ _).symm.trans H; rw [hy181]; with_reducible exact H2_) | (have H2_ := (Option.bind_some _ _).symm.trans H; with_reducible exact H2_) | with_reducible exact H | (rw [hy181]; exact H) | exact H
 have Ny181 := Aside0.mk hy181
 clear hy181
 have H' := Aside0.mk H
 clear H
 go_enter Try.func72, Try.ntmps72
 go_wp2_with (first | ((with_reducible refine gate_dst (N := 1) rfl ?_); refine box_event ?hg (N := 1) ?hd (cs := #[.string a0_0, .slice A0_1 l0_1.length c0_1, .int .i64 a0_2, .slice A0_3 l0_3.length c0_3]) (t := 39) ?hr ?_; (case hd => rfl); (case hg => rfl); (case hr => first | (go_simp; done) | (go_simp; rfl)); intro gb180 hg w2 hbox hb; have n0_ := Aside0.mk (below_step (by repeat (first | (with_reducible first | exact HB.out | apply below_alloc | apply pw_below_drewN | apply below_drew1) | exact HB.out)) hb); have n1_ := Aside0.mk (hbox); have n2_ := Aside0.mk ((by rw [hg]; exact (below_size (by repeat (first | (with_reducible first | exact HB.out | apply below_alloc | apply pw_below_drewN | apply below_drew1) | exact HB.out))) : w.heap.size ≤ gb180)); have n3_ := Aside0.mk ((by rw [hg]; exact (below_size (by repeat (first | (with_reducible first | exact HB.out | apply below_alloc | apply pw_below_drewN | apply below_drew1) | exact HB.out))) : w.heap.size ≤ gb180)); clear HB; have HB := n0_; have BK180 := n1_; have GW180 := n2_; have GE180 := n3_; clear n0_ n1_ n2_ n3_; clear hb hbox hg) | ((with_reducible refine gate_dst (N := 8) rfl ?_); refine Kd.R_lit Kd.string _ 9 ?hg (N := 8) ?hd (xs := ([] : List ByteArray)) (inner := []) (ok := fun _ => True) (okp := fun _ => True) ?hr ?hp (fun _ hk => hk) trivial (Below.refl _ _) (Nat.le_refl _) (by simp) ?_; (case hd => rfl); (case hg => rfl); (case hr => first | (go_simp; done) | (go_simp; rfl)); (case hp => exact (Reps.none _ _)); intro v182 w3 ho4 hb hg_ hnew_; clear hg_ hnew_; (first | rw [← Ny181.out] at ho4 | (simp only [Int.reduceToNat] at ho4; rw [← Ny181.out] at ho4)); have n0_ := Aside0.mk (Kd.R_lower ho4 (below_size (by repeat (first | (with_reducible first | exact HB.out | apply below_alloc | apply pw_below_drewN | apply below_drew1 | refine below_set ?_ GE180.out) | exact HB.out)))); have n1_ := Aside0.mk (blk_below (g := gb180) (o := .cells #[.string a0_0, .slice A0_1 l0_1.length c0_1, .int .i64 a0_2, .slice A0_3 l0_3.length c0_3] 39 (0, 0)) (by (with_reducible repeat (first | refine blk_drewN ?_ _ | refine blk_drew ?_ | refine blk_alloc ?_ _)); exact BK180.out) hb); have n2_ := Aside0.mk (below_step (by repeat (first | (with_reducible first | exact HB.out | apply below_alloc | apply pw_below_drewN | apply below_drew1 | refine below_set ?_ GE180.out) | exact HB.out)) hb); clear BK180; clear HB; have HO183 := n0_; have BK180 := n1_; have HB := n2_; clear n0_ n1_ n2_; clear hb ho4; have hcz5_0 : w3.cell? ⟨gb180, 0, none⟩ = some (.string a0_0) := (blk_cell BK180.out 0).trans rfl; have hcz5_1 : w3.cell? ⟨gb180, 1, none⟩ = some (.slice A0_1 l0_1.length c0_1) := (blk_cell BK180.out 1).trans rfl; have hcz5_2 : w3.cell? ⟨gb180, 2, none⟩ = some (.int .i64 a0_2) := (blk_cell BK180.out 2).trans rfl; have hcz5_3 : w3.cell? ⟨gb180, 3, none⟩ = some (.slice A0_3 l0_3.length c0_3) := (blk_cell BK180.out 3).trans rfl; have hfz5_0 := blk_frozen BK180.out 0; have hfz5_1 := blk_frozen BK180.out 1; have hfz5_2 := blk_frozen BK180.out 2; have hfz5_3 := blk_frozen BK180.out 3))
 go_loopg [3, 12] k (fun kq v3 v12 w' => ∃ (x3_1 : List ByteArray) (x12_1 : Int), v12 = .int .i64 x12_1 ∧ Aside0 (spec_l3Vars.l0 kq x3_1 l0_3 (l0_3.length : Int) x12_1 = some r) ∧ Aside0 (kq ≤ k) ∧ Aside0 (Kd.R Kd.string 9 w' w.heap.size (fun _ => True) v3 x3_1) ∧ Aside0 (w'.heap[gb180]? = some (.cells #[.string a0_0, (.slice A0_1 l0_1.length c0_1), .int .i64 a0_2, (.slice A0_3 l0_3.length c0_3)] 39 (0, 0))) ∧ Aside0 (Below w.heap.size w w'))
 case atStart => exact ⟨(y181), (0), (by first | rfl | (simp; done) | (simp [*]; done)), H', ⟨Nat.le_refl _⟩, ⟨by (with_reducible repeat (first | apply Kd.R_alloc | apply Kd.R_drewN | apply Kd.R_drew)); exact HO183.out⟩, ⟨by (with_reducible repeat (first | refine blk_drewN ?_ _ | refine blk_drew ?_ | refine blk_alloc ?_ _)); exact BK180.out⟩, ⟨by repeat (first | (with_reducible first | exact HB.out | apply below_alloc | apply pw_below_drewN | apply below_drew1 | refine below_set ?_ GE180.out) | exact HB.out)⟩⟩
 case round =>
  clear H'
  try clear p2
  try clear hcz5_0
  try clear hcz5_1
  try clear hcz5_2
  try clear hcz5_3
  try clear hfz5_0
  try clear hfz5_1
  try clear hfz5_2
  try clear hfz5_3
  obtain ⟨x3_1, x12_1, rfl, HA, HK1, HO_3, BK180, HB⟩ := hrel
  cases gk with
  | zero => exact absurd HA.out (by simp [spec_l3Vars.l0])
  | succ k1 =>
   have H := HA.out
   clear HA
   simp only [spec_l3Vars.l0] at H
   by_cases c6 : x12_1 < (l0_3.length : Int)
   ·rw [if_pos c6] at H
    have c6b0 : decide (x12_1 < (l0_3.length : Int)) = true := decide_eq_true c6
    clear c6
    by_cases c7 : 0 ≤ x12_1
    ·rw [if_pos c7] at H
     have c7b0 : decide (0 ≤ x12_1) = true := decide_eq_true c7
     clear c7
     by_cases c8 : x12_1 < (l0_3.length : Int)
     ·rw [if_pos c8] at H
      have c8b0 : decide (x12_1 < (l0_3.length : Int)) = true := decide_eq_true c8
      clear c8
      have H' := Aside0.mk H
      clear H
      have p184 : 0 ≤ (x12_1 : Int) := of_decide_eq_true (by first | (with_reducible assumption) | assumption)
      have q184 : x12_1 < (l0_3.length : Int) := of_decide_eq_true (by first | (with_reducible assumption) | assumption)
      obtain ⟨ad184, A184_1, c184_1, e184, hx184_0, hx184_1, hl184_1, hi184_1⟩ := at_T148 HR0_3.out x12_1 p184 q184
      cases e184
      replace hx184_0 := (HB.out.cell (World.block_lt_of_cell? w _ hx184_0)).trans hx184_0
      replace hx184_1 := (HB.out.cell (World.block_lt_of_cell? w _ hx184_1)).trans hx184_1
      have HR184_1 := Aside0.mk hi184_1
      have HC184_1 := Aside0.mk hl184_1
      clear hi184_1 hl184_1
      replace p184 := eq_true p184
      replace q184 := eq_true q184
      go_wp2_with (first | ((with_reducible refine gate_dst (N := 5) rfl ?_); refine box_event ?hg (N := 5) ?hd (cs := #[.string (⟨#[]⟩ : ByteArray), .slice none 0 0]) (t := 148) ?hr ?_; (case hd => rfl); (case hg => rfl); (case hr => first | (go_simp; done) | (go_simp; rfl)); intro gb185 hg w9 hbox hb; have n0_ := Aside0.mk (Kd.R_below (by (with_reducible repeat (first | apply Kd.R_alloc | apply Kd.R_drewN | apply Kd.R_drew)); exact HO_3.out) hb); have n1_ := Aside0.mk (blk_below (g := gb180) (o := .cells #[.string a0_0, .slice A0_1 l0_1.length c0_1, .int .i64 a0_2, .slice (some ad184) l0_3.length c0_3] 39 (0, 0)) (by (with_reducible repeat (first | refine blk_drewN ?_ _ | refine blk_drew ?_ | refine blk_alloc ?_ _)); exact BK180.out) hb); have n2_ := Aside0.mk (below_step (by repeat (first | (with_reducible first | exact HB.out | apply below_alloc | apply pw_below_drewN | apply below_drew1 | refine below_set ?_ GE180.out) | exact HB.out)) hb); have n3_ := Aside0.mk (hbox); have n4_ := Aside0.mk ((by rw [hg]; exact (below_size (by repeat (first | (with_reducible first | exact HB.out | apply below_alloc | apply pw_below_drewN | apply below_drew1 | refine below_set ?_ GE180.out) | exact HB.out))) : w.heap.size ≤ gb185)); have n5_ := Aside0.mk ((by rw [hg]; exact (below_size (by repeat (first | (with_reducible first | exact HB.out | apply below_alloc | apply pw_below_drewN | apply below_drew1 | refine below_set ?_ GE180.out) | exact HB.out))) : w.heap.size ≤ gb185)); have n6_ := Aside0.mk ((by rw [hg]; exact Nat.ne_of_lt (blk_lt (g := gb180) (o := .cells #[.string a0_0, .slice A0_1 l0_1.length c0_1, .int .i64 a0_2, .slice (some ad184) l0_3.length c0_3] 39 (0, 0)) (by (with_reducible repeat (first | refine blk_drewN ?_ _ | refine blk_drew ?_ | refine blk_alloc ?_ _)); exact BK180.out)) : gb180 ≠ gb185)); have n7_ := Aside0.mk ((by rw [hg]; exact Nat.ne_of_gt (blk_lt (g := gb180) (o := .cells #[.string a0_0, .slice A0_1 l0_1.length c0_1, .int .i64 a0_2, .slice (some ad184) l0_3.length c0_3] 39 (0, 0)) (by (with_reducible repeat (first | refine blk_drewN ?_ _ | refine blk_drew ?_ | refine blk_alloc ?_ _)); exact BK180.out)) : gb185 ≠ gb180)); clear HO_3; clear BK180; clear HB; have HO_3 := n0_; have BK180 := n1_; have HB := n2_; have BK185 := n3_; have GW185 := n4_; have GE185 := n5_; have NB180_185 := n6_; have NB185_180 := n7_; clear n0_ n1_ n2_ n3_ n4_ n5_ n6_ n7_; clear hb hbox hg; have hnb10 := NB185_180.out; have hnc10 := NB180_185.out; have hcz11_0 : w9.cell? ⟨gb185, 0, none⟩ = some (.string (⟨#[]⟩ : ByteArray)) := (blk_cell BK185.out 0).trans rfl; have hcz11_1 : w9.cell? ⟨gb185, 1, none⟩ = some (.slice none 0 0) := (blk_cell BK185.out 1).trans rfl; have hfz11_0 := blk_frozen BK185.out 0; have hfz11_1 := blk_frozen BK185.out 1))
      go_loopg [3, 19] k1 (fun kq v3 v19 w' => ∃ (x3_2 : List ByteArray) (x19_2 : Int), v19 = .int .i64 x19_2 ∧ Aside0 (spec_l3Vars.l1 kq x3_2 l0_3 (l0_3.length : Int) x12_1 ((rd_T148 l0_3 x12_1).f1) (((rd_T148 l0_3 x12_1).f1).length : Int) x19_2 = some r) ∧ Aside0 (kq ≤ k1) ∧ Aside0 (Kd.R Kd.string 9 w' w.heap.size (fun _ => True) v3 x3_2) ∧ Aside0 (w'.heap[gb180]? = some (.cells #[.string a0_0, (.slice A0_1 l0_1.length c0_1), .int .i64 a0_2, (.slice (some ad184) l0_3.length c0_3)] 39 (0, 0))) ∧ Aside0 (w'.heap[gb185]? = some (.cells #[.string ((rd_T148 l0_3 x12_1).f0), (.slice A184_1 ((rd_T148 l0_3 x12_1).f1).length c184_1)] 148 (0, 0))) ∧ Aside0 (Below w.heap.size w w'))
      case atStart => exact ⟨(x3_1), (0), (by first | rfl | (simp; done) | (simp [*]; done)), H', ⟨Nat.le_refl _⟩, ⟨by (with_reducible repeat (first | apply Kd.R_alloc | apply Kd.R_drewN | apply Kd.R_drew)); exact Kd.R_mono (Kd.R_far (p := ⟨gb185, 1, none⟩) (Kd.R_far (p := ⟨gb185, 0, none⟩) (Kd.R_types HO_3.out BK185.out (by decide)) (fun _ hk => hk.2) (.string ((rd_T148 l0_3 x12_1).f0))) (fun _ hk => hk.2) (.slice A184_1 ((rd_T148 l0_3 x12_1).f1).length c184_1)) (fun _ hk => trivial)⟩, ⟨by (with_reducible repeat (first | refine blk_drewN ?_ _ | refine blk_drew ?_ | refine blk_alloc ?_ _)); refine blk_far ?_ NB180_185.out _; (with_reducible repeat (first | refine blk_drewN ?_ _ | refine blk_drew ?_ | refine blk_alloc ?_ _)); refine blk_far ?_ NB180_185.out _; (with_reducible repeat (first | refine blk_drewN ?_ _ | refine blk_drew ?_ | refine blk_alloc ?_ _)); exact BK180.out⟩, ⟨by (with_reducible repeat (first | refine blk_drewN ?_ _ | refine blk_drew ?_ | refine blk_alloc ?_ _)); refine blk_put (cs := #[.string ((rd_T148 l0_3 x12_1).f0), .slice none 0 0]) ?_ 1 _ rfl; (with_reducible repeat (first | refine blk_drewN ?_ _ | refine blk_drew ?_ | refine blk_alloc ?_ _)); refine blk_put (cs := #[.string (⟨#[]⟩ : ByteArray), .slice none 0 0]) ?_ 0 _ rfl; (with_reducible repeat (first | refine blk_drewN ?_ _ | refine blk_drew ?_ | refine blk_alloc ?_ _)); exact BK185.out⟩, ⟨by repeat (first | (with_reducible first | exact HB.out | apply below_alloc | apply pw_below_drewN | apply below_drew1 | refine below_set ?_ GE180.out | refine below_set ?_ GE185.out) | exact HB.out)⟩⟩
      case round =>
       clear H'
       try clear c1
       try clear p1
       try clear q1
       try clear hx1
       try clear p2
       try clear c6
       try clear c6b0
       try clear c7
       try clear c7b0
       try clear c8
       try clear c8b0
       try clear c10
       try clear hcz11_0
       try clear hcz11_1
       try clear hcz5_0
       try clear hcz5_1
       try clear hcz5_2
       try clear hcz5_3
       try clear hfz11_0
       try clear hfz11_1
       try clear hfz5_0
       try clear hfz5_1
       try clear hfz5_2
       try clear hfz5_3
       try clear hx184_0
       try clear hx184_1
       try clear p184
       try clear p2
       try clear q184
       obtain ⟨x3_2, x19_2, rfl, HA, HK2, HO_3, BK180, BK185, HB⟩ := hrel
       cases gk with
       | zero => exact absurd HA.out (by simp [spec_l3Vars.l1])
       | succ k2 =>
        have H := HA.out
        clear HA
        simp only [spec_l3Vars.l1] at H
        by_cases c12 : x19_2 < (((rd_T148 l0_3 x12_1).f1).length : Int)
        ·rw [if_pos c12] at H
         have c12b0 : decide (x19_2 < (((rd_T148 l0_3 x12_1).f1).length : Int)) = true := decide_eq_true c12
         clear c12
         by_cases c13 : 0 ≤ x19_2
         ·rw [if_pos c13] at H
          have c13b0 : decide (0 ≤ x19_2) = true := decide_eq_true c13
          clear c13
          by_cases c14 : x19_2 < (((rd_T148 l0_3 x12_1).f1).length : Int)
          ·rw [if_pos c14] at H
           have c14b0 : decide (x19_2 < (((rd_T148 l0_3 x12_1).f1).length : Int)) = true := decide_eq_true c14
           clear c14
           by_cases c15 : ((rd_T185 ((rd_T148 l0_3 x12_1).f1) x19_2).f0).toList = ([] : List UInt8)
           ·rw [if_pos c15] at H
            have c15b0 : (((rd_T185 ((rd_T148 l0_3 x12_1).f1) x19_2).f0).toList == ([] : List UInt8)) = true := beq_iff_eq.mpr c15
            have c15b1 : (((rd_T185 ((rd_T148 l0_3 x12_1).f1) x19_2).f0).toList != ([] : List UInt8)) = false := bne_eq_false_iff_eq.mpr c15
            clear c15
            have H' := Aside0.mk H
            clear H
            have p186 : 0 ≤ (x19_2 : Int) := of_decide_eq_true (by first | (with_reducible assumption) | assumption)
            have q186 : x19_2 < (((rd_T148 l0_3 x12_1).f1).length : Int) := of_decide_eq_true (by first | (with_reducible assumption) | assumption)
            obtain ⟨ad186, e186, hx186_0, hx186_1⟩ := at_T185 HR184_1.out x19_2 p186 q186
            cases e186
            replace hx186_0 := (HB.out.cell (World.block_lt_of_cell? w _ hx186_0)).trans hx186_0
            replace hx186_1 := (HB.out.cell (World.block_lt_of_cell? w _ hx186_1)).trans hx186_1
            replace p186 := eq_true p186
            replace q186 := eq_true q186
            go_wp2_with (first | ((with_reducible refine gate_dst (N := 7) rfl ?_); refine box_event ?hg (N := 7) ?hd (cs := #[.string (⟨#[]⟩ : ByteArray), .int .i64 0]) (t := 185) ?hr ?_; (case hd => rfl); (case hg => rfl); (case hr => first | (go_simp; done) | (go_simp; rfl)); intro gb187 hg w16 hbox hb; have n0_ := Aside0.mk (Kd.R_below (by (with_reducible repeat (first | apply Kd.R_alloc | apply Kd.R_drewN | apply Kd.R_drew)); exact HO_3.out) hb); have n1_ := Aside0.mk (blk_below (g := gb180) (o := .cells #[.string a0_0, .slice A0_1 l0_1.length c0_1, .int .i64 a0_2, .slice (some ad184) l0_3.length c0_3] 39 (0, 0)) (by (with_reducible repeat (first | refine blk_drewN ?_ _ | refine blk_drew ?_ | refine blk_alloc ?_ _)); exact BK180.out) hb); have n2_ := Aside0.mk (blk_below (g := gb185) (o := .cells #[.string ((rd_T148 l0_3 x12_1).f0), .slice (some ad186) ((rd_T148 l0_3 x12_1).f1).length c184_1] 148 (0, 0)) (by (with_reducible repeat (first | refine blk_drewN ?_ _ | refine blk_drew ?_ | refine blk_alloc ?_ _)); exact BK185.out) hb); have n3_ := Aside0.mk (below_step (by repeat (first | (with_reducible first | exact HB.out | apply below_alloc | apply pw_below_drewN | apply below_drew1 | refine below_set ?_ GE180.out | refine below_set ?_ GE185.out) | exact HB.out)) hb); have n4_ := Aside0.mk (hbox); have n5_ := Aside0.mk ((by rw [hg]; exact (below_size (by repeat (first | (with_reducible first | exact HB.out | apply below_alloc | apply pw_below_drewN | apply below_drew1 | refine below_set ?_ GE180.out | refine below_set ?_ GE185.out) | exact HB.out))) : w.heap.size ≤ gb187)); have n6_ := Aside0.mk ((by rw [hg]; exact (below_size (by repeat (first | (with_reducible first | exact HB.out | apply below_alloc | apply pw_below_drewN | apply below_drew1 | refine below_set ?_ GE180.out | refine below_set ?_ GE185.out) | exact HB.out))) : w.heap.size ≤ gb187)); have n7_ := Aside0.mk ((by rw [hg]; exact Nat.ne_of_lt (blk_lt (g := gb180) (o := .cells #[.string a0_0, .slice A0_1 l0_1.length c0_1, .int .i64 a0_2, .slice (some ad184) l0_3.length c0_3] 39 (0, 0)) (by (with_reducible repeat (first | refine blk_drewN ?_ _ | refine blk_drew ?_ | refine blk_alloc ?_ _)); exact BK180.out)) : gb180 ≠ gb187)); have n8_ := Aside0.mk ((by rw [hg]; exact Nat.ne_of_gt (blk_lt (g := gb180) (o := .cells #[.string a0_0, .slice A0_1 l0_1.length c0_1, .int .i64 a0_2, .slice (some ad184) l0_3.length c0_3] 39 (0, 0)) (by (with_reducible repeat (first | refine blk_drewN ?_ _ | refine blk_drew ?_ | refine blk_alloc ?_ _)); exact BK180.out)) : gb187 ≠ gb180)); have n9_ := Aside0.mk ((by rw [hg]; exact Nat.ne_of_lt (blk_lt (g := gb185) (o := .cells #[.string ((rd_T148 l0_3 x12_1).f0), .slice (some ad186) ((rd_T148 l0_3 x12_1).f1).length c184_1] 148 (0, 0)) (by (with_reducible repeat (first | refine blk_drewN ?_ _ | refine blk_drew ?_ | refine blk_alloc ?_ _)); exact BK185.out)) : gb185 ≠ gb187)); have n10_ := Aside0.mk ((by rw [hg]; exact Nat.ne_of_gt (blk_lt (g := gb185) (o := .cells #[.string ((rd_T148 l0_3 x12_1).f0), .slice (some ad186) ((rd_T148 l0_3 x12_1).f1).length c184_1] 148 (0, 0)) (by (with_reducible repeat (first | refine blk_drewN ?_ _ | refine blk_drew ?_ | refine blk_alloc ?_ _)); exact BK185.out)) : gb187 ≠ gb185)); clear HO_3; clear BK180; clear BK185; clear HB; have HO_3 := n0_; have BK180 := n1_; have BK185 := n2_; have HB := n3_; have BK187 := n4_; have GW187 := n5_; have GE187 := n6_; have NB180_187 := n7_; have NB187_180 := n8_; have NB185_187 := n9_; have NB187_185 := n10_; clear n0_ n1_ n2_ n3_ n4_ n5_ n6_ n7_ n8_ n9_ n10_; clear hb hbox hg; have hnb17 := NB187_180.out; have hnc17 := NB180_187.out; have hnb18 := NB187_185.out; have hnc18 := NB185_187.out; have hcz19_0 : w16.cell? ⟨gb187, 0, none⟩ = some (.string (⟨#[]⟩ : ByteArray)) := (blk_cell BK187.out 0).trans rfl; have hcz19_1 : w16.cell? ⟨gb187, 1, none⟩ = some (.int .i64 0) := (blk_cell BK187.out 1).trans rfl; have hfz19_0 := blk_frozen BK187.out 0; have hfz19_1 := blk_frozen BK187.out 1))
            go_roundg k2
            case measure => have := HK1.out; have := HK2.out; omega
            case rel => exact ⟨(x3_2), (wrap64 (x19_2 + 1)), (by first | rfl | (simp; done) | (simp [*]; done)), H', ⟨by have := HK1.out; have := HK2.out; omega⟩, ⟨by (with_reducible repeat (first | apply Kd.R_alloc | apply Kd.R_drewN | apply Kd.R_drew)); exact Kd.R_mono (Kd.R_far (p := ⟨gb187, 1, none⟩) (Kd.R_far (p := ⟨gb187, 0, none⟩) (Kd.R_types HO_3.out BK187.out (by decide)) (fun _ hk => hk.2) (.string ((rd_T185 ((rd_T148 l0_3 x12_1).f1) x19_2).f0))) (fun _ hk => hk.2) (.int .i64 ((rd_T185 ((rd_T148 l0_3 x12_1).f1) x19_2).f1))) (fun _ hk => trivial)⟩, ⟨by (with_reducible repeat (first | refine blk_drewN ?_ _ | refine blk_drew ?_ | refine blk_alloc ?_ _)); refine blk_far ?_ NB180_187.out _; (with_reducible repeat (first | refine blk_drewN ?_ _ | refine blk_drew ?_ | refine blk_alloc ?_ _)); refine blk_far ?_ NB180_187.out _; (with_reducible repeat (first | refine blk_drewN ?_ _ | refine blk_drew ?_ | refine blk_alloc ?_ _)); exact BK180.out⟩, ⟨by (with_reducible repeat (first | refine blk_drewN ?_ _ | refine blk_drew ?_ | refine blk_alloc ?_ _)); refine blk_far ?_ NB185_187.out _; (with_reducible repeat (first | refine blk_drewN ?_ _ | refine blk_drew ?_ | refine blk_alloc ?_ _)); refine blk_far ?_ NB185_187.out _; (with_reducible repeat (first | refine blk_drewN ?_ _ | refine blk_drew ?_ | refine blk_alloc ?_ _)); exact BK185.out⟩, ⟨by repeat (first | (with_reducible first | exact HB.out | apply below_alloc | apply pw_below_drewN | apply below_drew1 | refine below_set ?_ GE180.out | refine below_set ?_ GE185.out | refine below_set ?_ GE187.out) | exact HB.out)⟩⟩
           ·rw [if_neg c15] at H
            have c15b0 : (((rd_T185 ((rd_T148 l0_3 x12_1).f1) x19_2).f0).toList == ([] : List UInt8)) = false := beq_eq_false_iff_ne.mpr c15
            have c15b1 : (((rd_T185 ((rd_T148 l0_3 x12_1).f1) x19_2).f0).toList != ([] : List UInt8)) = true := bne_iff_ne.mpr c15
            replace H := Option.bind_eq_some_iff.mp H
            obtain ⟨t188, A200, H⟩ := H
            replace H : (if t188 < 0 then (if x3_2.length < 8796093022208 then (spec_l3Vars.l1 k2 (x3_2 ++ [(rd_T185 ((rd_T148 l0_3 x12_1).f1) x19_2).f0]) l0_3 (l0_3.length : Int) x12_1 ((rd_T148 l0_3 x12_1).f1) (((rd_T148 l0_3 x12_1).f1).length : Int) (wrap64 (x19_2 + 1))) else (none)) else (spec_l3Vars.l1 k2 x3_2 l0_3 (l0_3.length : Int) x12_1 ((rd_T148 l0_3 x12_1).f1) (((rd_T148 l0_3 x12_1).f1).length : Int) (wrap64 (x19_2 + 1)))) = some r := H
            have A20 := Aside0.mk A200
            clear A200
            by_cases c21 : t188 < 0
            ·rw [if_pos c21] at H
             have c21b0 : decide (t188 < 0) = true := decide_eq_true c21
             clear c21
             by_cases c22 : x3_2.length < 8796093022208
             ·rw [if_pos c22] at H
              have LMc22 := Aside0.mk c22
              clear c22
              obtain ⟨y189, hy189⟩ : ∃ y_ : List ByteArray, y_ = (x3_2 ++ [(rd_T185 ((rd_T148 l0_3 x12_1).f1) x19_2).f0]) := ⟨_, rfl⟩
              replace H : (spec_l3Vars.l1 k2 y189 l0_3 (l0_3.length : Int) x12_1 ((rd_T148 l0_3 x12_1).f1) (((rd_T148 l0_3 x12_1).f1).length : Int) (wrap64 (x19_2 + 1))) = some r := by first | (rw [hy189]; with_reducible exact H) | (have H2_ := (Option.bind_some _ _).symm.trans H; rw [hy189]; with_reducible exact H2_) | (have H2_ := (Option.bind_some _ _).symm.trans H; with_reducible exact H2_) | with_reducible exact H | (rw [hy189]; exact H) | exact H
              have Ny189 := Aside0.mk hy189
              clear hy189
              have H' := Aside0.mk H
              clear H
              have p186 : 0 ≤ (x19_2 : Int) := of_decide_eq_true (by first | (with_reducible assumption) | assumption)
              have q186 : x19_2 < (((rd_T148 l0_3 x12_1).f1).length : Int) := of_decide_eq_true (by first | (with_reducible assumption) | assumption)
              obtain ⟨ad186, e186, hx186_0, hx186_1⟩ := at_T185 HR184_1.out x19_2 p186 q186
              cases e186
              replace hx186_0 := (HB.out.cell (World.block_lt_of_cell? w _ hx186_0)).trans hx186_0
              replace hx186_1 := (HB.out.cell (World.block_lt_of_cell? w _ hx186_1)).trans hx186_1
              replace p186 := eq_true p186
              replace q186 := eq_true q186
              go_wp2_with (first | ((with_reducible refine gate_dst (N := 7) rfl ?_); refine box_event ?hg (N := 7) ?hd (cs := #[.string (⟨#[]⟩ : ByteArray), .int .i64 0]) (t := 185) ?hr ?_; (case hd => rfl); (case hg => rfl); (case hr => first | (go_simp; done) | (go_simp; rfl)); intro gb187 hg w23 hbox hb; have n0_ := Aside0.mk (Kd.R_below (by (with_reducible repeat (first | apply Kd.R_alloc | apply Kd.R_drewN | apply Kd.R_drew)); exact HO_3.out) hb); have n1_ := Aside0.mk (blk_below (g := gb180) (o := .cells #[.string a0_0, .slice A0_1 l0_1.length c0_1, .int .i64 a0_2, .slice (some ad184) l0_3.length c0_3] 39 (0, 0)) (by (with_reducible repeat (first | refine blk_drewN ?_ _ | refine blk_drew ?_ | refine blk_alloc ?_ _)); exact BK180.out) hb); have n2_ := Aside0.mk (blk_below (g := gb185) (o := .cells #[.string ((rd_T148 l0_3 x12_1).f0), .slice (some ad186) ((rd_T148 l0_3 x12_1).f1).length c184_1] 148 (0, 0)) (by (with_reducible repeat (first | refine blk_drewN ?_ _ | refine blk_drew ?_ | refine blk_alloc ?_ _)); exact BK185.out) hb); have n3_ := Aside0.mk (below_step (by repeat (first | (with_reducible first | exact HB.out | apply below_alloc | apply pw_below_drewN | apply below_drew1 | refine below_set ?_ GE180.out | refine below_set ?_ GE185.out) | exact HB.out)) hb); have n4_ := Aside0.mk (hbox); have n5_ := Aside0.mk ((by rw [hg]; exact (below_size (by repeat (first | (with_reducible first | exact HB.out | apply below_alloc | apply pw_below_drewN | apply below_drew1 | refine below_set ?_ GE180.out | refine below_set ?_ GE185.out) | exact HB.out))) : w.heap.size ≤ gb187)); have n6_ := Aside0.mk ((by rw [hg]; exact (below_size (by repeat (first | (with_reducible first | exact HB.out | apply below_alloc | apply pw_below_drewN | apply below_drew1 | refine below_set ?_ GE180.out | refine below_set ?_ GE185.out) | exact HB.out))) : w.heap.size ≤ gb187)); have n7_ := Aside0.mk ((by rw [hg]; exact Nat.ne_of_lt (blk_lt (g := gb180) (o := .cells #[.string a0_0, .slice A0_1 l0_1.length c0_1, .int .i64 a0_2, .slice (some ad184) l0_3.length c0_3] 39 (0, 0)) (by (with_reducible repeat (first | refine blk_drewN ?_ _ | refine blk_drew ?_ | refine blk_alloc ?_ _)); exact BK180.out)) : gb180 ≠ gb187)); have n8_ := Aside0.mk ((by rw [hg]; exact Nat.ne_of_gt (blk_lt (g := gb180) (o := .cells #[.string a0_0, .slice A0_1 l0_1.length c0_1, .int .i64 a0_2, .slice (some ad184) l0_3.length c0_3] 39 (0, 0)) (by (with_reducible repeat (first | refine blk_drewN ?_ _ | refine blk_drew ?_ | refine blk_alloc ?_ _)); exact BK180.out)) : gb187 ≠ gb180)); have n9_ := Aside0.mk ((by rw [hg]; exact Nat.ne_of_lt (blk_lt (g := gb185) (o := .cells #[.string ((rd_T148 l0_3 x12_1).f0), .slice (some ad186) ((rd_T148 l0_3 x12_1).f1).length c184_1] 148 (0, 0)) (by (with_reducible repeat (first | refine blk_drewN ?_ _ | refine blk_drew ?_ | refine blk_alloc ?_ _)); exact BK185.out)) : gb185 ≠ gb187)); have n10_ := Aside0.mk ((by rw [hg]; exact Nat.ne_of_gt (blk_lt (g := gb185) (o := .cells #[.string ((rd_T148 l0_3 x12_1).f0), .slice (some ad186) ((rd_T148 l0_3 x12_1).f1).length c184_1] 148 (0, 0)) (by (with_reducible repeat (first | refine blk_drewN ?_ _ | refine blk_drew ?_ | refine blk_alloc ?_ _)); exact BK185.out)) : gb187 ≠ gb185)); clear HO_3; clear BK180; clear BK185; clear HB; have HO_3 := n0_; have BK180 := n1_; have BK185 := n2_; have HB := n3_; have BK187 := n4_; have GW187 := n5_; have GE187 := n6_; have NB180_187 := n7_; have NB187_180 := n8_; have NB185_187 := n9_; have NB187_185 := n10_; clear n0_ n1_ n2_ n3_ n4_ n5_ n6_ n7_ n8_ n9_ n10_; clear hb hbox hg; have hnb24 := NB187_180.out; have hnc24 := NB180_187.out; have hnb25 := NB187_185.out; have hnc25 := NB185_187.out; have hcz26_0 : w23.cell? ⟨gb187, 0, none⟩ = some (.string (⟨#[]⟩ : ByteArray)) := (blk_cell BK187.out 0).trans rfl; have hcz26_1 : w23.cell? ⟨gb187, 1, none⟩ = some (.int .i64 0) := (blk_cell BK187.out 1).trans rfl; have hfz26_0 := blk_frozen BK187.out 0; have hfz26_1 := blk_frozen BK187.out 1; obtain ⟨Ao27, co27, eo27⟩ := Kd.R_slice HO_3.out; subst eo27) | (go_at_call 107; (with_reducible refine (spec_l3Place.calls k2 _ _ x3_2 ((rd_T185 ((rd_T148 l0_3 x12_1).f1) x19_2).f0) t188 _ ?side1 ?side2 A20.out).mono ?_); (case side1 => refine (Kd.R_reads' (e := 9) (base := w.heap.size) (ok := fun k_ => True) (n := x3_2.length) (c := co27) ?_).2.2; exact (by (with_reducible repeat (first | apply Kd.R_alloc | apply Kd.R_drewN | apply Kd.R_drew)); exact (Kd.R_mono (Kd.R_far (p := ⟨gb187, 1, none⟩) (Kd.R_far (p := ⟨gb187, 0, none⟩) (Kd.R_types HO_3.out BK187.out (by decide)) (fun _ hk => hk.2) (.string ((rd_T185 ((rd_T148 l0_3 x12_1).f1) x19_2).f0))) (fun _ hk => hk.2) (.int .i64 ((rd_T185 ((rd_T148 l0_3 x12_1).f1) x19_2).f1))) (fun _ h_ => h_.1)))); (case side2 => exact (Kd.R_reads' HO_3.out).2.1); rintro e w' ⟨rfl, ⟨nd, rfl⟩⟩) | ((with_reducible refine gate_builtin (b := .append) (xs := #[.tmp 33, .tmp 36]) rfl ?_); at_builtin; refine Kd.R_append Kd.string (w0 := w) w.heap.size rfl (.tmp 33) (.tmp 36) 31 9 (.string ⟨#[]⟩) 16 rfl Try.underlying31 info9 rfl (by decide) (by omega) (.slice Ao27 x3_2.length co27) x3_2 ((rd_T185 ((rd_T148 l0_3 x12_1).f1) x19_2).f0) [.string ((rd_T185 ((rd_T148 l0_3 x12_1).f1) x19_2).f0)] (fun _ => True) (fun _ => False) rfl (by first | (go_simp; done) | (go_simp; rfl)) ?aP (fun _ hk => hk.elim) ?aF ?aO ?aB ?aS ?aL ?_; (case aP => exact rfl); (case aB => exact (by repeat (first | (with_reducible first | exact HB.out | apply below_alloc | apply pw_below_drewN | apply below_drew1 | refine below_set ?_ GE180.out | refine below_set ?_ GE185.out | refine below_set ?_ GE187.out) | exact HB.out))); (case aF => exact (fun _ _ => trivial)); (case aO => exact (by (with_reducible repeat (first | apply Kd.R_alloc | apply Kd.R_drewN | apply Kd.R_drew)); exact Kd.R_mono (Kd.R_far (p := ⟨gb187, 1, none⟩) (Kd.R_far (p := ⟨gb187, 0, none⟩) (Kd.R_types HO_3.out BK187.out (by decide)) (fun _ hk => hk.2) (.string ((rd_T185 ((rd_T148 l0_3 x12_1).f1) x19_2).f0))) (fun _ hk => hk.2) (.int .i64 ((rd_T185 ((rd_T148 l0_3 x12_1).f1) x19_2).f1))) (fun _ hk => trivial))); (case aS => exact (below_size (by repeat (first | (with_reducible first | exact HB.out | apply below_alloc | apply pw_below_drewN | apply below_drew1 | refine below_set ?_ GE180.out | refine below_set ?_ GE185.out | refine below_set ?_ GE187.out) | exact HB.out)))); (case aL => have := LMc22.out; omega); intro v190 w28 ho hb hg hat; rw [← Ny189.out] at ho; have n0_ := Aside0.mk (blk_grown (g := gb180) (o := .cells #[.string a0_0, .slice A0_1 l0_1.length c0_1, .int .i64 a0_2, .slice (some ad184) l0_3.length c0_3] 39 (0, 0)) (by (with_reducible repeat (first | refine blk_drewN ?_ _ | refine blk_drew ?_ | refine blk_alloc ?_ _)); refine blk_far ?_ NB180_187.out _; (with_reducible repeat (first | refine blk_drewN ?_ _ | refine blk_drew ?_ | refine blk_alloc ?_ _)); refine blk_far ?_ NB180_187.out _; (with_reducible repeat (first | refine blk_drewN ?_ _ | refine blk_drew ?_ | refine blk_alloc ?_ _)); exact BK180.out) hg (Kd.R_ne HO_3.out BK180.out (by decide))); have n1_ := Aside0.mk (blk_grown (g := gb185) (o := .cells #[.string ((rd_T148 l0_3 x12_1).f0), .slice (some ad186) ((rd_T148 l0_3 x12_1).f1).length c184_1] 148 (0, 0)) (by (with_reducible repeat (first | refine blk_drewN ?_ _ | refine blk_drew ?_ | refine blk_alloc ?_ _)); refine blk_far ?_ NB185_187.out _; (with_reducible repeat (first | refine blk_drewN ?_ _ | refine blk_drew ?_ | refine blk_alloc ?_ _)); refine blk_far ?_ NB185_187.out _; (with_reducible repeat (first | refine blk_drewN ?_ _ | refine blk_drew ?_ | refine blk_alloc ?_ _)); exact BK185.out) hg (Kd.R_ne HO_3.out BK185.out (by decide))); have n2_ := Aside0.mk (blk_grown (g := gb187) (o := .cells #[.string ((rd_T185 ((rd_T148 l0_3 x12_1).f1) x19_2).f0), .int .i64 ((rd_T185 ((rd_T148 l0_3 x12_1).f1) x19_2).f1)] 185 (0, 0)) (by (with_reducible repeat (first | refine blk_drewN ?_ _ | refine blk_drew ?_ | refine blk_alloc ?_ _)); refine blk_put (cs := #[.string ((rd_T185 ((rd_T148 l0_3 x12_1).f1) x19_2).f0), .int .i64 0]) ?_ 1 _ rfl; (with_reducible repeat (first | refine blk_drewN ?_ _ | refine blk_drew ?_ | refine blk_alloc ?_ _)); refine blk_put (cs := #[.string (⟨#[]⟩ : ByteArray), .int .i64 0]) ?_ 0 _ rfl; (with_reducible repeat (first | refine blk_drewN ?_ _ | refine blk_drew ?_ | refine blk_alloc ?_ _)); exact BK187.out) hg (Kd.R_ne HO_3.out BK187.out (by decide))); have n3_ := Aside0.mk (hb); have n4_ := Aside0.mk (ho); clear BK180; clear BK185; clear BK187; clear HB; clear HO_3; have BK180 := n0_; have BK185 := n1_; have BK187 := n2_; have HB := n3_; have HO191 := n4_; clear n0_ n1_ n2_ n3_ n4_; clear ho hb hg hat))
              go_roundg k2
              case measure => have := HK1.out; have := HK2.out; omega
              case rel => exact ⟨(y189), (wrap64 (x19_2 + 1)), (by first | rfl | (simp; done) | (simp [*]; done)), H', ⟨by have := HK1.out; have := HK2.out; omega⟩, ⟨by (with_reducible repeat (first | apply Kd.R_alloc | apply Kd.R_drewN | apply Kd.R_drew)); exact HO191.out⟩, ⟨by (with_reducible repeat (first | refine blk_drewN ?_ _ | refine blk_drew ?_ | refine blk_alloc ?_ _)); exact BK180.out⟩, ⟨by (with_reducible repeat (first | refine blk_drewN ?_ _ | refine blk_drew ?_ | refine blk_alloc ?_ _)); exact BK185.out⟩, ⟨by repeat (first | (with_reducible first | exact HB.out | apply below_alloc | apply pw_below_drewN | apply below_drew1 | refine below_set ?_ GE180.out | refine below_set ?_ GE185.out | refine below_set ?_ GE187.out) | exact HB.out)⟩⟩
             ·rw [if_neg c22] at H
              exact absurd H (by simp)
            ·rw [if_neg c21] at H
             have c21b0 : decide (t188 < 0) = false := decide_eq_false c21
             clear c21
             have H' := Aside0.mk H
             clear H
             have p186 : 0 ≤ (x19_2 : Int) := of_decide_eq_true (by first | (with_reducible assumption) | assumption)
             have q186 : x19_2 < (((rd_T148 l0_3 x12_1).f1).length : Int) := of_decide_eq_true (by first | (with_reducible assumption) | assumption)
             obtain ⟨ad186, e186, hx186_0, hx186_1⟩ := at_T185 HR184_1.out x19_2 p186 q186
             cases e186
             replace hx186_0 := (HB.out.cell (World.block_lt_of_cell? w _ hx186_0)).trans hx186_0
             replace hx186_1 := (HB.out.cell (World.block_lt_of_cell? w _ hx186_1)).trans hx186_1
             replace p186 := eq_true p186
             replace q186 := eq_true q186
             go_wp2_with (first | ((with_reducible refine gate_dst (N := 7) rfl ?_); refine box_event ?hg (N := 7) ?hd (cs := #[.string (⟨#[]⟩ : ByteArray), .int .i64 0]) (t := 185) ?hr ?_; (case hd => rfl); (case hg => rfl); (case hr => first | (go_simp; done) | (go_simp; rfl)); intro gb187 hg w29 hbox hb; have n0_ := Aside0.mk (Kd.R_below (by (with_reducible repeat (first | apply Kd.R_alloc | apply Kd.R_drewN | apply Kd.R_drew)); exact HO_3.out) hb); have n1_ := Aside0.mk (blk_below (g := gb180) (o := .cells #[.string a0_0, .slice A0_1 l0_1.length c0_1, .int .i64 a0_2, .slice (some ad184) l0_3.length c0_3] 39 (0, 0)) (by (with_reducible repeat (first | refine blk_drewN ?_ _ | refine blk_drew ?_ | refine blk_alloc ?_ _)); exact BK180.out) hb); have n2_ := Aside0.mk (blk_below (g := gb185) (o := .cells #[.string ((rd_T148 l0_3 x12_1).f0), .slice (some ad186) ((rd_T148 l0_3 x12_1).f1).length c184_1] 148 (0, 0)) (by (with_reducible repeat (first | refine blk_drewN ?_ _ | refine blk_drew ?_ | refine blk_alloc ?_ _)); exact BK185.out) hb); have n3_ := Aside0.mk (below_step (by repeat (first | (with_reducible first | exact HB.out | apply below_alloc | apply pw_below_drewN | apply below_drew1 | refine below_set ?_ GE180.out | refine below_set ?_ GE185.out) | exact HB.out)) hb); have n4_ := Aside0.mk (hbox); have n5_ := Aside0.mk ((by rw [hg]; exact (below_size (by repeat (first | (with_reducible first | exact HB.out | apply below_alloc | apply pw_below_drewN | apply below_drew1 | refine below_set ?_ GE180.out | refine below_set ?_ GE185.out) | exact HB.out))) : w.heap.size ≤ gb187)); have n6_ := Aside0.mk ((by rw [hg]; exact (below_size (by repeat (first | (with_reducible first | exact HB.out | apply below_alloc | apply pw_below_drewN | apply below_drew1 | refine below_set ?_ GE180.out | refine below_set ?_ GE185.out) | exact HB.out))) : w.heap.size ≤ gb187)); have n7_ := Aside0.mk ((by rw [hg]; exact Nat.ne_of_lt (blk_lt (g := gb180) (o := .cells #[.string a0_0, .slice A0_1 l0_1.length c0_1, .int .i64 a0_2, .slice (some ad184) l0_3.length c0_3] 39 (0, 0)) (by (with_reducible repeat (first | refine blk_drewN ?_ _ | refine blk_drew ?_ | refine blk_alloc ?_ _)); exact BK180.out)) : gb180 ≠ gb187)); have n8_ := Aside0.mk ((by rw [hg]; exact Nat.ne_of_gt (blk_lt (g := gb180) (o := .cells #[.string a0_0, .slice A0_1 l0_1.length c0_1, .int .i64 a0_2, .slice (some ad184) l0_3.length c0_3] 39 (0, 0)) (by (with_reducible repeat (first | refine blk_drewN ?_ _ | refine blk_drew ?_ | refine blk_alloc ?_ _)); exact BK180.out)) : gb187 ≠ gb180)); have n9_ := Aside0.mk ((by rw [hg]; exact Nat.ne_of_lt (blk_lt (g := gb185) (o := .cells #[.string ((rd_T148 l0_3 x12_1).f0), .slice (some ad186) ((rd_T148 l0_3 x12_1).f1).length c184_1] 148 (0, 0)) (by (with_reducible repeat (first | refine blk_drewN ?_ _ | refine blk_drew ?_ | refine blk_alloc ?_ _)); exact BK185.out)) : gb185 ≠ gb187)); have n10_ := Aside0.mk ((by rw [hg]; exact Nat.ne_of_gt (blk_lt (g := gb185) (o := .cells #[.string ((rd_T148 l0_3 x12_1).f0), .slice (some ad186) ((rd_T148 l0_3 x12_1).f1).length c184_1] 148 (0, 0)) (by (with_reducible repeat (first | refine blk_drewN ?_ _ | refine blk_drew ?_ | refine blk_alloc ?_ _)); exact BK185.out)) : gb187 ≠ gb185)); clear HO_3; clear BK180; clear BK185; clear HB; have HO_3 := n0_; have BK180 := n1_; have BK185 := n2_; have HB := n3_; have BK187 := n4_; have GW187 := n5_; have GE187 := n6_; have NB180_187 := n7_; have NB187_180 := n8_; have NB185_187 := n9_; have NB187_185 := n10_; clear n0_ n1_ n2_ n3_ n4_ n5_ n6_ n7_ n8_ n9_ n10_; clear hb hbox hg; have hnb30 := NB187_180.out; have hnc30 := NB180_187.out; have hnb31 := NB187_185.out; have hnc31 := NB185_187.out; have hcz32_0 : w29.cell? ⟨gb187, 0, none⟩ = some (.string (⟨#[]⟩ : ByteArray)) := (blk_cell BK187.out 0).trans rfl; have hcz32_1 : w29.cell? ⟨gb187, 1, none⟩ = some (.int .i64 0) := (blk_cell BK187.out 1).trans rfl; have hfz32_0 := blk_frozen BK187.out 0; have hfz32_1 := blk_frozen BK187.out 1; obtain ⟨Ao33, co33, eo33⟩ := Kd.R_slice HO_3.out; subst eo33) | (go_at_call 107; (with_reducible refine (spec_l3Place.calls k2 _ _ x3_2 ((rd_T185 ((rd_T148 l0_3 x12_1).f1) x19_2).f0) t188 _ ?side1 ?side2 A20.out).mono ?_); (case side1 => refine (Kd.R_reads' (e := 9) (base := w.heap.size) (ok := fun k_ => True) (n := x3_2.length) (c := co33) ?_).2.2; exact (by (with_reducible repeat (first | apply Kd.R_alloc | apply Kd.R_drewN | apply Kd.R_drew)); exact (Kd.R_mono (Kd.R_far (p := ⟨gb187, 1, none⟩) (Kd.R_far (p := ⟨gb187, 0, none⟩) (Kd.R_types HO_3.out BK187.out (by decide)) (fun _ hk => hk.2) (.string ((rd_T185 ((rd_T148 l0_3 x12_1).f1) x19_2).f0))) (fun _ hk => hk.2) (.int .i64 ((rd_T185 ((rd_T148 l0_3 x12_1).f1) x19_2).f1))) (fun _ h_ => h_.1)))); (case side2 => exact (Kd.R_reads' HO_3.out).2.1); rintro e w' ⟨rfl, ⟨nd, rfl⟩⟩))
             go_roundg k2
             case measure => have := HK1.out; have := HK2.out; omega
             case rel => exact ⟨(x3_2), (wrap64 (x19_2 + 1)), (by first | rfl | (simp; done) | (simp [*]; done)), H', ⟨by have := HK1.out; have := HK2.out; omega⟩, ⟨by (with_reducible repeat (first | apply Kd.R_alloc | apply Kd.R_drewN | apply Kd.R_drew)); exact Kd.R_mono (Kd.R_far (p := ⟨gb187, 1, none⟩) (Kd.R_far (p := ⟨gb187, 0, none⟩) (Kd.R_types HO_3.out BK187.out (by decide)) (fun _ hk => hk.2) (.string ((rd_T185 ((rd_T148 l0_3 x12_1).f1) x19_2).f0))) (fun _ hk => hk.2) (.int .i64 ((rd_T185 ((rd_T148 l0_3 x12_1).f1) x19_2).f1))) (fun _ hk => trivial)⟩, ⟨by (with_reducible repeat (first | refine blk_drewN ?_ _ | refine blk_drew ?_ | refine blk_alloc ?_ _)); refine blk_far ?_ NB180_187.out _; (with_reducible repeat (first | refine blk_drewN ?_ _ | refine blk_drew ?_ | refine blk_alloc ?_ _)); refine blk_far ?_ NB180_187.out _; (with_reducible repeat (first | refine blk_drewN ?_ _ | refine blk_drew ?_ | refine blk_alloc ?_ _)); exact BK180.out⟩, ⟨by (with_reducible repeat (first | refine blk_drewN ?_ _ | refine blk_drew ?_ | refine blk_alloc ?_ _)); refine blk_far ?_ NB185_187.out _; (with_reducible repeat (first | refine blk_drewN ?_ _ | refine blk_drew ?_ | refine blk_alloc ?_ _)); refine blk_far ?_ NB185_187.out _; (with_reducible repeat (first | refine blk_drewN ?_ _ | refine blk_drew ?_ | refine blk_alloc ?_ _)); exact BK185.out⟩, ⟨by repeat (first | (with_reducible first | exact HB.out | apply below_alloc | apply pw_below_drewN | apply below_drew1 | refine below_set ?_ GE180.out | refine below_set ?_ GE185.out | refine below_set ?_ GE187.out) | exact HB.out)⟩⟩
          ·rw [if_neg c14] at H
           exact absurd H (by simp)
         ·rw [if_neg c13] at H
          exact absurd H (by simp)
        ·rw [if_neg c12] at H
         have c12b0 : decide (x19_2 < (((rd_T148 l0_3 x12_1).f1).length : Int)) = false := decide_eq_false c12
         clear c12
         have H' := Aside0.mk H
         clear H
         go_wp2
         go_roundg k2
         case measure => have := HK1.out; have := HK2.out; omega
         case rel => exact ⟨(x3_2), (wrap64 (x12_1 + 1)), (by first | rfl | (simp; done) | (simp [*]; done)), H', ⟨by have := HK1.out; have := HK2.out; omega⟩, ⟨by (with_reducible repeat (first | apply Kd.R_alloc | apply Kd.R_drewN | apply Kd.R_drew)); exact HO_3.out⟩, ⟨by (with_reducible repeat (first | refine blk_drewN ?_ _ | refine blk_drew ?_ | refine blk_alloc ?_ _)); exact BK180.out⟩, ⟨by repeat (first | (with_reducible first | exact HB.out | apply below_alloc | apply pw_below_drewN | apply below_drew1 | refine below_set ?_ GE180.out | refine below_set ?_ GE185.out) | exact HB.out)⟩⟩
     ·rw [if_neg c8] at H
      exact absurd H (by simp)
    ·rw [if_neg c7] at H
     exact absurd H (by simp)
   ·rw [if_neg c6] at H
    have c6b0 : decide (x12_1 < (l0_3.length : Int)) = false := decide_eq_false c6
    clear c6
    obtain rfl := Option.some.inj H
    go_wp2
    go_ret
    exact ⟨_, by first | rfl | (simp [errW_none, errW_some] <;> rfl) | (simp [*, errW_none, errW_some] <;> rfl), by (with_reducible repeat (first | apply Kd.R_alloc | apply Kd.R_drewN | apply Kd.R_drew)); exact HO_3.out, by repeat (first | (with_reducible first | exact HB.out | apply below_alloc | apply pw_below_drewN | apply below_drew1 | refine below_set ?_ GE180.out) | exact HB.out)⟩
end Go.Proofs.Ytkolhpmhbgbphaa.P
namespace Go.Proofs.Ytkolhpmhbgbphaa.P
open Go.RowKit Go.Proofs.YtkolhpmhbgbphaaW.PrintWords Go.Proofs.YtkolhpmhbgbphaaW.PrintLast Go.Proofs.YtkolhpmhbgbphaaW.PrintMore
attribute [local go_sem] max2_int min2_int max_two min_two max_three min_three max_four min_four
set_option linter.unusedVariables false
set_option linter.unusedSimpArgs false
def spec_l2Rel.l0 : Nat → ByteArray → List (S151) → Int → Int → Option (Int)
 | 0, _, _, _, _ => none
 | k + 1, x1, x8, x9, x10 => if x10 < x9 then (if 0 ≤ x10 then (if x10 < (x8.length : Int) then (if ((rd_T151 x8 x10).f0).toList = x1.toList then (some x10) else (spec_l2Rel.l0 k x1 x8 x9 (wrap64 (x10 + 1)))) else (none)) else (none)) else (some (-1))
def spec_l2Rel.f (k : Nat) (l0_0 : List (S151)) (a1 : ByteArray) : Option (Int) := spec_l2Rel.l0 k a1 l0_0 (l0_0.length : Int) 0
theorem spec_l2Rel.mono_l : ∀ k, (∀ y0 y1 y2 y3, LeO (spec_l2Rel.l0 k y0 y1 y2 y3) (spec_l2Rel.l0 (k + 1) y0 y1 y2 y3))
 | 0 => fun _ _ _ _ r h => by simp [spec_l2Rel.l0] at h
 | k + 1 => by
  have ih0 := spec_l2Rel.mono_l k
  ·intro y0 y1 y2 y3
   unfold spec_l2Rel.l0
   repeat' first
   | (with_reducible exact ih0 _ _ _ _)
   | (with_reducible exact LeO.refl _)
   | (with_reducible exact LeO.none _)
   | (with_reducible refine LeO.ite ?_ ?_)
   | (with_reducible refine LeO.bind ?_ (fun _ => ?_))
   | exact ih0 _ _ _ _
   | exact LeO.none _
   | refine LeO.ite ?_ ?_
   | refine LeO.bind ?_ (fun _ => ?_)
theorem spec_l2Rel.mono : ∀ a0 a1 k, LeO (spec_l2Rel.f k a0 a1) (spec_l2Rel.f (k + 1) a0 a1) := by
 intro a0 a1 k
 have ih0 := spec_l2Rel.mono_l k
 unfold spec_l2Rel.f
 repeat' first
   | (with_reducible exact ih0 _ _ _ _)
   | (with_reducible exact LeO.refl _)
   | (with_reducible exact LeO.none _)
   | (with_reducible refine LeO.ite ?_ ?_)
   | (with_reducible refine LeO.bind ?_ (fun _ => ?_))
   | exact ih0 _ _ _ _
   | exact LeO.none _
   | refine LeO.ite ?_ ?_
   | refine LeO.bind ?_ (fun _ => ?_)
set_option maxHeartbeats 8000000 in
set_option maxRecDepth 100000 in
theorem spec_l2Rel.calls (k : Nat) (A0_0 : Option Addr) (c0_0 : Nat) (l0_0 : List (S151)) (a1 : ByteArray) (r : Int) (w : World) (hr0_0 : Kd.C k151 w A0_0 l0_0.length l0_0) (hc0_0 : l0_0.length ≤ c0_0) (h : spec_l2Rel.f k l0_0 a1 = some r) :
  Calls Try.prog 106 #[.agg #[.slice A0_0 l0_0.length c0_0], .string a1] w fun e w' => e = .returned (.int .i64 r) ∧ Below w.heap.size w w' := by
 have hu71 := Try.underlying71
 have hu151 := Try.underlying151
 have HR0_0 := Aside0.mk hr0_0
 have HC0_0 := Aside0.mk hc0_0
 clear hr0_0 hc0_0
 have HB := Aside0.mk (Below.refl w.heap.size w)
 have H : (spec_l2Rel.l0 k a1 l0_0 (l0_0.length : Int) 0) = some r := h
 clear h
 have H' := Aside0.mk H
 clear H
 go_enter Try.func106, Try.ntmps106
 go_wp2_with (first | ((with_reducible refine gate_dst (N := 2) rfl ?_); refine box_event ?hg (N := 2) ?hd (cs := #[.slice A0_0 l0_0.length c0_0]) (t := 71) ?hr ?_; (case hd => rfl); (case hg => rfl); (case hr => first | (go_simp; done) | (go_simp; rfl)); intro gb569 hg w3 hbox hb; have n0_ := Aside0.mk (below_step (by repeat (first | (with_reducible first | exact HB.out | apply below_alloc | apply pw_below_drewN | apply below_drew1) | exact HB.out)) hb); have n1_ := Aside0.mk (hbox); have n2_ := Aside0.mk ((by rw [hg]; exact (below_size (by repeat (first | (with_reducible first | exact HB.out | apply below_alloc | apply pw_below_drewN | apply below_drew1) | exact HB.out))) : w.heap.size ≤ gb569)); have n3_ := Aside0.mk ((by rw [hg]; exact (below_size (by repeat (first | (with_reducible first | exact HB.out | apply below_alloc | apply pw_below_drewN | apply below_drew1) | exact HB.out))) : w.heap.size ≤ gb569)); clear HB; have HB := n0_; have BK569 := n1_; have GW569 := n2_; have GE569 := n3_; clear n0_ n1_ n2_ n3_; clear hb hbox hg; have hcz4_0 : w3.cell? ⟨gb569, 0, none⟩ = some (.slice A0_0 l0_0.length c0_0) := (blk_cell BK569.out 0).trans rfl; have hfz4_0 := blk_frozen BK569.out 0))
 go_loopg [10] k (fun kq v10 w' => ∃ (x10_1 : Int), v10 = .int .i64 x10_1 ∧ Aside0 (spec_l2Rel.l0 kq a1 l0_0 (l0_0.length : Int) x10_1 = some r) ∧ Aside0 (kq ≤ k) ∧ Aside0 (w'.heap[gb569]? = some (.cells #[(.slice A0_0 l0_0.length c0_0)] 71 (0, 0))) ∧ Aside0 (Below w.heap.size w w'))
 case atStart => exact ⟨(0), (by first | rfl | (simp; done) | (simp [*]; done)), H', ⟨Nat.le_refl _⟩, ⟨by (with_reducible repeat (first | refine blk_drewN ?_ _ | refine blk_drew ?_ | refine blk_alloc ?_ _)); exact BK569.out⟩, ⟨by repeat (first | (with_reducible first | exact HB.out | apply below_alloc | apply pw_below_drewN | apply below_drew1 | refine below_set ?_ GE569.out) | exact HB.out)⟩⟩
 case round =>
  clear H'
  try clear c1
  try clear p2
  try clear hcz4_0
  try clear hfz4_0
  obtain ⟨x10_1, rfl, HA, HK1, BK569, HB⟩ := hrel
  cases gk with
  | zero => exact absurd HA.out (by simp [spec_l2Rel.l0])
  | succ k1 =>
   have H := HA.out
   clear HA
   simp only [spec_l2Rel.l0] at H
   by_cases c5 : x10_1 < (l0_0.length : Int)
   ·rw [if_pos c5] at H
    have c5b0 : decide (x10_1 < (l0_0.length : Int)) = true := decide_eq_true c5
    clear c5
    by_cases c6 : 0 ≤ x10_1
    ·rw [if_pos c6] at H
     have c6b0 : decide (0 ≤ x10_1) = true := decide_eq_true c6
     clear c6
     by_cases c7 : x10_1 < (l0_0.length : Int)
     ·rw [if_pos c7] at H
      have c7b0 : decide (x10_1 < (l0_0.length : Int)) = true := decide_eq_true c7
      clear c7
      by_cases c8 : ((rd_T151 l0_0 x10_1).f0).toList = a1.toList
      ·rw [if_pos c8] at H
       have c8b0 : (((rd_T151 l0_0 x10_1).f0).toList == a1.toList) = true := beq_iff_eq.mpr c8
       have c8b1 : (((rd_T151 l0_0 x10_1).f0).toList != a1.toList) = false := bne_eq_false_iff_eq.mpr c8
       clear c8
       obtain rfl := Option.some.inj H
       have p570 : 0 ≤ (x10_1 : Int) := of_decide_eq_true (by first | (with_reducible assumption) | assumption)
       have q570 : x10_1 < (l0_0.length : Int) := of_decide_eq_true (by first | (with_reducible assumption) | assumption)
       obtain ⟨ad570, A570_2, c570_2, A570_3, c570_3, e570, hx570_0, hx570_1, hx570_2, hx570_3, hl570_2, hi570_2, hl570_3, hi570_3⟩ := at_T151 HR0_0.out x10_1 p570 q570
       cases e570
       replace hx570_0 := (HB.out.cell (World.block_lt_of_cell? w _ hx570_0)).trans hx570_0
       replace hx570_1 := (HB.out.cell (World.block_lt_of_cell? w _ hx570_1)).trans hx570_1
       replace hx570_2 := (HB.out.cell (World.block_lt_of_cell? w _ hx570_2)).trans hx570_2
       replace hx570_3 := (HB.out.cell (World.block_lt_of_cell? w _ hx570_3)).trans hx570_3
       have HR570_2 := Aside0.mk hi570_2
       have HC570_2 := Aside0.mk hl570_2
       clear hi570_2 hl570_2
       have HR570_3 := Aside0.mk hi570_3
       have HC570_3 := Aside0.mk hl570_3
       clear hi570_3 hl570_3
       replace p570 := eq_true p570
       replace q570 := eq_true q570
       go_wp2_with (first | ((with_reducible refine gate_dst (N := 6) rfl ?_); refine box_event ?hg (N := 6) ?hd (cs := #[.string (⟨#[]⟩ : ByteArray), .int .i64 0, .slice none 0 0, .slice none 0 0]) (t := 151) ?hr ?_; (case hd => rfl); (case hg => rfl); (case hr => first | (go_simp; done) | (go_simp; rfl)); intro gb571 hg w9 hbox hb; have n0_ := Aside0.mk (blk_below (g := gb569) (o := .cells #[.slice (some ad570) l0_0.length c0_0] 71 (0, 0)) (by (with_reducible repeat (first | refine blk_drewN ?_ _ | refine blk_drew ?_ | refine blk_alloc ?_ _)); exact BK569.out) hb); have n1_ := Aside0.mk (below_step (by repeat (first | (with_reducible first | exact HB.out | apply below_alloc | apply pw_below_drewN | apply below_drew1 | refine below_set ?_ GE569.out) | exact HB.out)) hb); have n2_ := Aside0.mk (hbox); have n3_ := Aside0.mk ((by rw [hg]; exact (below_size (by repeat (first | (with_reducible first | exact HB.out | apply below_alloc | apply pw_below_drewN | apply below_drew1 | refine below_set ?_ GE569.out) | exact HB.out))) : w.heap.size ≤ gb571)); have n4_ := Aside0.mk ((by rw [hg]; exact (below_size (by repeat (first | (with_reducible first | exact HB.out | apply below_alloc | apply pw_below_drewN | apply below_drew1 | refine below_set ?_ GE569.out) | exact HB.out))) : w.heap.size ≤ gb571)); have n5_ := Aside0.mk ((by rw [hg]; exact Nat.ne_of_lt (blk_lt (g := gb569) (o := .cells #[.slice (some ad570) l0_0.length c0_0] 71 (0, 0)) (by (with_reducible repeat (first | refine blk_drewN ?_ _ | refine blk_drew ?_ | refine blk_alloc ?_ _)); exact BK569.out)) : gb569 ≠ gb571)); have n6_ := Aside0.mk ((by rw [hg]; exact Nat.ne_of_gt (blk_lt (g := gb569) (o := .cells #[.slice (some ad570) l0_0.length c0_0] 71 (0, 0)) (by (with_reducible repeat (first | refine blk_drewN ?_ _ | refine blk_drew ?_ | refine blk_alloc ?_ _)); exact BK569.out)) : gb571 ≠ gb569)); clear BK569; clear HB; have BK569 := n0_; have HB := n1_; have BK571 := n2_; have GW571 := n3_; have GE571 := n4_; have NB569_571 := n5_; have NB571_569 := n6_; clear n0_ n1_ n2_ n3_ n4_ n5_ n6_; clear hb hbox hg; have hnb10 := NB571_569.out; have hnc10 := NB569_571.out; have hcz11_0 : w9.cell? ⟨gb571, 0, none⟩ = some (.string (⟨#[]⟩ : ByteArray)) := (blk_cell BK571.out 0).trans rfl; have hcz11_1 : w9.cell? ⟨gb571, 1, none⟩ = some (.int .i64 0) := (blk_cell BK571.out 1).trans rfl; have hcz11_2 : w9.cell? ⟨gb571, 2, none⟩ = some (.slice none 0 0) := (blk_cell BK571.out 2).trans rfl; have hcz11_3 : w9.cell? ⟨gb571, 3, none⟩ = some (.slice none 0 0) := (blk_cell BK571.out 3).trans rfl; have hfz11_0 := blk_frozen BK571.out 0; have hfz11_1 := blk_frozen BK571.out 1; have hfz11_2 := blk_frozen BK571.out 2; have hfz11_3 := blk_frozen BK571.out 3))
       go_ret
       exact ⟨by first | rfl | (simp [errW_none, errW_some] <;> rfl) | (simp [*, errW_none, errW_some] <;> rfl), by repeat (first | (with_reducible first | exact HB.out | apply below_alloc | apply pw_below_drewN | apply below_drew1 | refine below_set ?_ GE569.out | refine below_set ?_ GE571.out) | exact HB.out)⟩
      ·rw [if_neg c8] at H
       have c8b0 : (((rd_T151 l0_0 x10_1).f0).toList == a1.toList) = false := beq_eq_false_iff_ne.mpr c8
       have c8b1 : (((rd_T151 l0_0 x10_1).f0).toList != a1.toList) = true := bne_iff_ne.mpr c8
       have H' := Aside0.mk H
       clear H
       have p570 : 0 ≤ (x10_1 : Int) := of_decide_eq_true (by first | (with_reducible assumption) | assumption)
       have q570 : x10_1 < (l0_0.length : Int) := of_decide_eq_true (by first | (with_reducible assumption) | assumption)
       obtain ⟨ad570, A570_2, c570_2, A570_3, c570_3, e570, hx570_0, hx570_1, hx570_2, hx570_3, hl570_2, hi570_2, hl570_3, hi570_3⟩ := at_T151 HR0_0.out x10_1 p570 q570
       cases e570
       replace hx570_0 := (HB.out.cell (World.block_lt_of_cell? w _ hx570_0)).trans hx570_0
       replace hx570_1 := (HB.out.cell (World.block_lt_of_cell? w _ hx570_1)).trans hx570_1
       replace hx570_2 := (HB.out.cell (World.block_lt_of_cell? w _ hx570_2)).trans hx570_2
       replace hx570_3 := (HB.out.cell (World.block_lt_of_cell? w _ hx570_3)).trans hx570_3
       have HR570_2 := Aside0.mk hi570_2
       have HC570_2 := Aside0.mk hl570_2
       clear hi570_2 hl570_2
       have HR570_3 := Aside0.mk hi570_3
       have HC570_3 := Aside0.mk hl570_3
       clear hi570_3 hl570_3
       replace p570 := eq_true p570
       replace q570 := eq_true q570
       go_wp2_with (first | ((with_reducible refine gate_dst (N := 6) rfl ?_); refine box_event ?hg (N := 6) ?hd (cs := #[.string (⟨#[]⟩ : ByteArray), .int .i64 0, .slice none 0 0, .slice none 0 0]) (t := 151) ?hr ?_; (case hd => rfl); (case hg => rfl); (case hr => first | (go_simp; done) | (go_simp; rfl)); intro gb571 hg w12 hbox hb; have n0_ := Aside0.mk (blk_below (g := gb569) (o := .cells #[.slice (some ad570) l0_0.length c0_0] 71 (0, 0)) (by (with_reducible repeat (first | refine blk_drewN ?_ _ | refine blk_drew ?_ | refine blk_alloc ?_ _)); exact BK569.out) hb); have n1_ := Aside0.mk (below_step (by repeat (first | (with_reducible first | exact HB.out | apply below_alloc | apply pw_below_drewN | apply below_drew1 | refine below_set ?_ GE569.out) | exact HB.out)) hb); have n2_ := Aside0.mk (hbox); have n3_ := Aside0.mk ((by rw [hg]; exact (below_size (by repeat (first | (with_reducible first | exact HB.out | apply below_alloc | apply pw_below_drewN | apply below_drew1 | refine below_set ?_ GE569.out) | exact HB.out))) : w.heap.size ≤ gb571)); have n4_ := Aside0.mk ((by rw [hg]; exact (below_size (by repeat (first | (with_reducible first | exact HB.out | apply below_alloc | apply pw_below_drewN | apply below_drew1 | refine below_set ?_ GE569.out) | exact HB.out))) : w.heap.size ≤ gb571)); have n5_ := Aside0.mk ((by rw [hg]; exact Nat.ne_of_lt (blk_lt (g := gb569) (o := .cells #[.slice (some ad570) l0_0.length c0_0] 71 (0, 0)) (by (with_reducible repeat (first | refine blk_drewN ?_ _ | refine blk_drew ?_ | refine blk_alloc ?_ _)); exact BK569.out)) : gb569 ≠ gb571)); have n6_ := Aside0.mk ((by rw [hg]; exact Nat.ne_of_gt (blk_lt (g := gb569) (o := .cells #[.slice (some ad570) l0_0.length c0_0] 71 (0, 0)) (by (with_reducible repeat (first | refine blk_drewN ?_ _ | refine blk_drew ?_ | refine blk_alloc ?_ _)); exact BK569.out)) : gb571 ≠ gb569)); clear BK569; clear HB; have BK569 := n0_; have HB := n1_; have BK571 := n2_; have GW571 := n3_; have GE571 := n4_; have NB569_571 := n5_; have NB571_569 := n6_; clear n0_ n1_ n2_ n3_ n4_ n5_ n6_; clear hb hbox hg; have hnb13 := NB571_569.out; have hnc13 := NB569_571.out; have hcz14_0 : w12.cell? ⟨gb571, 0, none⟩ = some (.string (⟨#[]⟩ : ByteArray)) := (blk_cell BK571.out 0).trans rfl; have hcz14_1 : w12.cell? ⟨gb571, 1, none⟩ = some (.int .i64 0) := (blk_cell BK571.out 1).trans rfl; have hcz14_2 : w12.cell? ⟨gb571, 2, none⟩ = some (.slice none 0 0) := (blk_cell BK571.out 2).trans rfl; have hcz14_3 : w12.cell? ⟨gb571, 3, none⟩ = some (.slice none 0 0) := (blk_cell BK571.out 3).trans rfl; have hfz14_0 := blk_frozen BK571.out 0; have hfz14_1 := blk_frozen BK571.out 1; have hfz14_2 := blk_frozen BK571.out 2; have hfz14_3 := blk_frozen BK571.out 3))
       go_roundg k1
       case measure => have := HK1.out; omega
       case rel => exact ⟨(wrap64 (x10_1 + 1)), (by first | rfl | (simp; done) | (simp [*]; done)), H', ⟨by have := HK1.out; omega⟩, ⟨by (with_reducible repeat (first | refine blk_drewN ?_ _ | refine blk_drew ?_ | refine blk_alloc ?_ _)); refine blk_far ?_ NB569_571.out _; (with_reducible repeat (first | refine blk_drewN ?_ _ | refine blk_drew ?_ | refine blk_alloc ?_ _)); refine blk_far ?_ NB569_571.out _; (with_reducible repeat (first | refine blk_drewN ?_ _ | refine blk_drew ?_ | refine blk_alloc ?_ _)); refine blk_far ?_ NB569_571.out _; (with_reducible repeat (first | refine blk_drewN ?_ _ | refine blk_drew ?_ | refine blk_alloc ?_ _)); refine blk_far ?_ NB569_571.out _; (with_reducible repeat (first | refine blk_drewN ?_ _ | refine blk_drew ?_ | refine blk_alloc ?_ _)); exact BK569.out⟩, ⟨by repeat (first | (with_reducible first | exact HB.out | apply below_alloc | apply pw_below_drewN | apply below_drew1 | refine below_set ?_ GE569.out | refine below_set ?_ GE571.out) | exact HB.out)⟩⟩
     ·rw [if_neg c7] at H
      exact absurd H (by simp)
    ·rw [if_neg c6] at H
     exact absurd H (by simp)
   ·rw [if_neg c5] at H
    have c5b0 : decide (x10_1 < (l0_0.length : Int)) = false := decide_eq_false c5
    clear c5
    obtain rfl := Option.some.inj H
    go_wp2
    go_ret
    exact ⟨by first | rfl | (simp [errW_none, errW_some] <;> rfl) | (simp [*, errW_none, errW_some] <;> rfl), by repeat (first | (with_reducible first | exact HB.out | apply below_alloc | apply pw_below_drewN | apply below_drew1 | refine below_set ?_ GE569.out) | exact HB.out)⟩
end Go.Proofs.Ytkolhpmhbgbphaa.P
namespace Go.Proofs.Ytkolhpmhbgbphaa.P
open Go.RowKit Go.Proofs.YtkolhpmhbgbphaaW.PrintWords Go.Proofs.YtkolhpmhbgbphaaW.PrintLast Go.Proofs.YtkolhpmhbgbphaaW.PrintMore
attribute [local go_sem] max2_int min2_int max_two min_two max_three min_three max_four min_four
set_option linter.unusedVariables false
set_option linter.unusedSimpArgs false
def slices_Index_string_string.l0 : Nat → List ByteArray → ByteArray → Int → Int → Option (Int)
 | 0, _, _, _, _ => none
 | k + 1, x0, x1, x7, x8 => if x8 < x7 then (if 0 ≤ x8 then (if x8 < (x0.length : Int) then (if x1.toList = (rdOf ByteArray.empty x0 x8).toList then (some x8) else (slices_Index_string_string.l0 k x0 x1 x7 (wrap64 (x8 + 1)))) else (none)) else (none)) else (some (-1))
def slices_Index_string_string.f (k : Nat) (l0 : List ByteArray) (a1 : ByteArray) : Option (Int) := slices_Index_string_string.l0 k l0 a1 (l0.length : Int) 0
theorem slices_Index_string_string.mono_l : ∀ k, (∀ y0 y1 y2 y3, LeO (slices_Index_string_string.l0 k y0 y1 y2 y3) (slices_Index_string_string.l0 (k + 1) y0 y1 y2 y3))
 | 0 => fun _ _ _ _ r h => by simp [slices_Index_string_string.l0] at h
 | k + 1 => by
  have ih0 := slices_Index_string_string.mono_l k
  ·intro y0 y1 y2 y3
   unfold slices_Index_string_string.l0
   repeat' first
   | (with_reducible exact ih0 _ _ _ _)
   | (with_reducible exact LeO.refl _)
   | (with_reducible exact LeO.none _)
   | (with_reducible refine LeO.ite ?_ ?_)
   | (with_reducible refine LeO.bind ?_ (fun _ => ?_))
   | exact ih0 _ _ _ _
   | exact LeO.none _
   | refine LeO.ite ?_ ?_
   | refine LeO.bind ?_ (fun _ => ?_)
theorem slices_Index_string_string.mono : ∀ a0 a1 k, LeO (slices_Index_string_string.f k a0 a1) (slices_Index_string_string.f (k + 1) a0 a1) := by
 intro a0 a1 k
 have ih0 := slices_Index_string_string.mono_l k
 unfold slices_Index_string_string.f
 repeat' first
   | (with_reducible exact ih0 _ _ _ _)
   | (with_reducible exact LeO.refl _)
   | (with_reducible exact LeO.none _)
   | (with_reducible refine LeO.ite ?_ ?_)
   | (with_reducible refine LeO.bind ?_ (fun _ => ?_))
   | exact ih0 _ _ _ _
   | exact LeO.none _
   | refine LeO.ite ?_ ?_
   | refine LeO.bind ?_ (fun _ => ?_)
set_option maxHeartbeats 8000000 in
set_option maxRecDepth 100000 in
theorem slices_Index_string_string.calls (k : Nat) (A0 : Option Addr) (c0 : Nat) (l0 : List ByteArray) (a1 : ByteArray) (r : Int) (w : World) (hr0 : Kd.C Kd.string w A0 l0.length l0) (hc0 : l0.length ≤ c0) (h : slices_Index_string_string.f k l0 a1 = some r) :
  Calls Try.prog 173 #[.slice A0 l0.length c0, .string a1] w fun e w' => e = .returned (.int .i64 r) ∧ Drawn0 w w' := by
 have HR0 := Aside0.mk hr0
 have HC0 := Aside0.mk hc0
 clear hr0 hc0
 have H : (slices_Index_string_string.l0 k l0 a1 (l0.length : Int) 0) = some r := h
 clear h
 have H' := Aside0.mk H
 clear H
 go_enter Try.func173, Try.ntmps173
 go_wp2
 go_loopg [8] k (fun kq v8 w' => ∃ (x8_1 : Int), v8 = .int .i64 x8_1 ∧ Aside0 (slices_Index_string_string.l0 kq l0 a1 (l0.length : Int) x8_1 = some r) ∧ Aside0 (kq ≤ k) ∧ Drawn0 w w')
 case atStart => exact ⟨(0), (by first | rfl | (simp; done) | (simp [*]; done)), H', ⟨Nat.le_refl _⟩, by repeat (first | exact Drawn0.refl _ | apply Drawn0.step)⟩
 case round =>
  clear H'
  try clear c1
  try clear p2
  obtain ⟨x8_1, rfl, HA, HK1, ⟨m1, rfl⟩⟩ := hrel
  cases gk with
  | zero => exact absurd HA.out (by simp [slices_Index_string_string.l0])
  | succ k1 =>
   have H := HA.out
   clear HA
   simp only [slices_Index_string_string.l0] at H
   by_cases c3 : x8_1 < (l0.length : Int)
   ·rw [if_pos c3] at H
    have c3b0 : decide (x8_1 < (l0.length : Int)) = true := decide_eq_true c3
    clear c3
    by_cases c4 : 0 ≤ x8_1
    ·rw [if_pos c4] at H
     have c4b0 : decide (0 ≤ x8_1) = true := decide_eq_true c4
     clear c4
     by_cases c5 : x8_1 < (l0.length : Int)
     ·rw [if_pos c5] at H
      have c5b0 : decide (x8_1 < (l0.length : Int)) = true := decide_eq_true c5
      clear c5
      by_cases c6 : a1.toList = (rdOf ByteArray.empty l0 x8_1).toList
      ·rw [if_pos c6] at H
       have c6b0 : (a1.toList == (rdOf ByteArray.empty l0 x8_1).toList) = true := beq_iff_eq.mpr c6
       have c6b1 : (a1.toList != (rdOf ByteArray.empty l0 x8_1).toList) = false := bne_eq_false_iff_eq.mpr c6
       clear c6
       obtain rfl := Option.some.inj H
       have p635 : 0 ≤ (x8_1 : Int) := of_decide_eq_true (by first | (with_reducible assumption) | assumption)
       have q635 : x8_1 < (l0.length : Int) := of_decide_eq_true (by first | (with_reducible assumption) | assumption)
       obtain ⟨ad635, e635, hx635_0⟩ := Kd.at_string HR0.out x8_1 p635 q635
       cases e635
       replace p635 := eq_true p635
       replace q635 := eq_true q635
       go_wp2
       go_ret
       exact ⟨by first | rfl | (simp; done) | (simp [*]; done), by repeat (first | exact Drawn0.refl _ | apply Drawn0.step)⟩
      ·rw [if_neg c6] at H
       have c6b0 : (a1.toList == (rdOf ByteArray.empty l0 x8_1).toList) = false := beq_eq_false_iff_ne.mpr c6
       have c6b1 : (a1.toList != (rdOf ByteArray.empty l0 x8_1).toList) = true := bne_iff_ne.mpr c6
       have H' := Aside0.mk H
       clear H
       have p635 : 0 ≤ (x8_1 : Int) := of_decide_eq_true (by first | (with_reducible assumption) | assumption)
       have q635 : x8_1 < (l0.length : Int) := of_decide_eq_true (by first | (with_reducible assumption) | assumption)
       obtain ⟨ad635, e635, hx635_0⟩ := Kd.at_string HR0.out x8_1 p635 q635
       cases e635
       replace p635 := eq_true p635
       replace q635 := eq_true q635
       go_wp2
       go_roundg k1
       case measure => have := HK1.out; omega
       case rel => exact ⟨(wrap64 (x8_1 + 1)), (by first | rfl | (simp; done) | (simp [*]; done)), H', ⟨by have := HK1.out; omega⟩, by repeat (first | exact Drawn0.refl _ | apply Drawn0.step)⟩
     ·rw [if_neg c5] at H
      exact absurd H (by simp)
    ·rw [if_neg c4] at H
     exact absurd H (by simp)
   ·rw [if_neg c3] at H
    have c3b0 : decide (x8_1 < (l0.length : Int)) = false := decide_eq_false c3
    clear c3
    obtain rfl := Option.some.inj H
    go_wp2
    go_ret
    exact ⟨by first | rfl | (simp; done) | (simp [*]; done), by repeat (first | exact Drawn0.refl _ | apply Drawn0.step)⟩
end Go.Proofs.Ytkolhpmhbgbphaa.P
namespace Go.Proofs.Ytkolhpmhbgbphaa.P
open Go.RowKit Go.Proofs.YtkolhpmhbgbphaaW.PrintWords Go.Proofs.YtkolhpmhbgbphaaW.PrintLast Go.Proofs.YtkolhpmhbgbphaaW.PrintMore
attribute [local go_sem] max2_int min2_int max_two min_two max_three min_three max_four min_four
set_option linter.unusedVariables false
set_option linter.unusedSimpArgs false
def slices_Contains_string_string.f (k : Nat) (l0 : List ByteArray) (a1 : ByteArray) : Option (Bool) := (slices_Index_string_string.f k l0 a1).bind fun t636 => (some (decide (t636 ≥ 0)))
theorem slices_Contains_string_string.mono : ∀ a0 a1 k, LeO (slices_Contains_string_string.f k a0 a1) (slices_Contains_string_string.f (k + 1) a0 a1) := by
 intro a0 a1 k
 unfold slices_Contains_string_string.f
 repeat' first
   | (with_reducible exact slices_Index_string_string.mono _ _ _)
   | (with_reducible exact LeO.refl _)
   | (with_reducible exact LeO.none _)
   | (with_reducible refine LeO.ite ?_ ?_)
   | (with_reducible refine LeO.bind ?_ (fun _ => ?_))
   | exact slices_Index_string_string.mono _ _ _
   | exact LeO.none _
   | refine LeO.ite ?_ ?_
   | refine LeO.bind ?_ (fun _ => ?_)
set_option maxHeartbeats 8000000 in
set_option maxRecDepth 100000 in
theorem slices_Contains_string_string.calls (k : Nat) (A0 : Option Addr) (c0 : Nat) (l0 : List ByteArray) (a1 : ByteArray) (r : Bool) (w : World) (hr0 : Kd.C Kd.string w A0 l0.length l0) (hc0 : l0.length ≤ c0) (h : slices_Contains_string_string.f k l0 a1 = some r) :
  Calls Try.prog 111 #[.slice A0 l0.length c0, .string a1] w fun e w' => e = .returned (.bool r) ∧ Drawn0 w w' := by
 have HR0 := Aside0.mk hr0
 have HC0 := Aside0.mk hc0
 clear hr0 hc0
 have H : ((slices_Index_string_string.f k l0 a1).bind fun t636 => (some (decide (t636 ≥ 0)))) = some r := h
 clear h
 replace H := Option.bind_eq_some_iff.mp H
 obtain ⟨t636, A30, H⟩ := H
 replace H : (some (decide (t636 ≥ 0))) = some r := H
 have A3 := Aside0.mk A30
 clear A30
 obtain rfl := Option.some.inj H
 go_enter Try.func111, Try.ntmps111
 go_wp2_with (first | ((with_reducible refine gate_callee (f := 173) rfl ?_); refine goesL_ (some 7) rfl rfl Try.func173 (by kernel_rfl) rfl #[.slice A0 l0.length c0, .string a1] rfl (by (try simp only [List.map_toArray, List.map_cons, List.map_nil]); first | done | rfl | (simp only [List.length_drop, List.length_take]; rfl)) ?_; (with_reducible refine (slices_Index_string_string.calls k _ _ l0 a1 t636 _ ?side1 ?side2 A3.out).mono ?_); (case side1 => repeat (first | exact HR0.out | (with_reducible refine Kd.C_alloc ?_ _) | (with_reducible refine Kd.C_drewN ?_ _) | (with_reducible refine Kd.C_drew ?_))); (case side2 => exact HC0.out); rintro e w' ⟨rfl, ⟨nd, rfl⟩⟩; refine ⟨_, rfl, ?_⟩))
 go_ret
 exact ⟨by first | rfl | (simp; done) | (simp [*]; done), by repeat (first | exact Drawn0.refl _ | apply Drawn0.step)⟩
end Go.Proofs.Ytkolhpmhbgbphaa.P
namespace Go.Proofs.Ytkolhpmhbgbphaa.PT
open Go.RowKit Go.Proofs.Ytkolhpmhbgbphaa.P Go.Proofs.YtkolhpmhbgbphaaW.PrintWords Go.Proofs.YtkolhpmhbgbphaaW.PrintLast Go.Proofs.Ytkolhpmhbgbphaa.EvKit
set_option linter.unusedSimpArgs false
set_option linter.unusedVariables false
abbrev Tm := S185
abbrev At := S148
abbrev LTm := S237
abbrev LAt := S182
theorem rdOf_at {l : List ByteArray} {i : Nat} (h : i < l.length) : rdOf ByteArray.empty l (i : Int) = l[i] := getD_at _ h
def plc (s : ByteArray) : List ByteArray → Nat → Int
  | [], _ => -1
  | x :: r, i => if x = s then i else plc s r (i + 1)
theorem plc_mem (s : ByteArray) : ∀ (l : List ByteArray) (i : Nat), 0 ≤ plc s l i ↔ s ∈ l
  | [], i => by simp [plc]
  | x :: r, i => by
    simp only [plc]
    by_cases h : x = s
    · rw [if_pos h]; subst h; simp
    · rw [if_neg h, plc_mem s r (i + 1)]
      simp [Ne.symm h]
theorem plc_neg (s : ByteArray) : ∀ (l : List ByteArray) (i : Nat), s ∉ l → plc s l i = -1
  | [], i, _ => rfl
  | x :: r, i, h => by
    simp only [List.mem_cons, not_or] at h
    simp only [plc]
    rw [if_neg (Ne.symm h.1)]
    exact plc_neg s r (i + 1) h.2
theorem plc_take (s : ByteArray) : ∀ (l : List ByteArray) (i j : Nat), s ∈ l → (plc s l i < (i : Int) + j ↔ s ∈ l.take j)
  | [], i, j, h => by simp at h
  | x :: r, i, j, h => by
    simp only [plc]
    by_cases hx : x = s
    · rw [if_pos hx]; subst hx
      cases j with
      | zero => simp
      | succ j => simp; omega
    · rw [if_neg hx]
      have hr : s ∈ r := by
        rcases List.mem_cons.1 h with h | h
        · exact absurd h.symm hx
        · exact h
      cases j with
      | zero =>
        have h1 := plc_take s r (i + 1) 0 hr
        simp at h1 ⊢
        omega
      | succ j =>
        have h1 := plc_take s r (i + 1) j hr
        rw [List.take_succ_cons, List.mem_cons]
        simp only [Ne.symm hx, false_or]
        rw [← h1]
        constructor <;> intro h <;> omega
theorem indexStr_ev (l : List ByteArray) (s : ByteArray) (hl : l.length ≤ 9223372036854775806) : Ev (fun k => slices_Index_string_string.f k l s) (plc s l 0) := by
  unfold slices_Index_string_string.f
  refine Ev.list l (g := fun k i => slices_Index_string_string.l0 k l s (l.length : Int) (i : Int)) (R := fun i r => plc s r i) (Ev.succ ?_) (fun i hi ih => Ev.succ ?_)
  · simp only [slices_Index_string_string.l0]
    exact Ev.neg (by omega) (Ev.now _)
  · simp only [slices_Index_string_string.l0, rdOf_at hi, w64n (show i ≤ 9223372036854775806 by omega), plc]
    refine Ev.pos (by omega) (Ev.pos (by omega) (Ev.pos (by omega) ?_))
    by_cases h : l[i] = s
    · rw [if_pos h]; exact Ev.pos (toList_eq.2 h.symm) (Ev.now _)
    · rw [if_neg h]; exact Ev.neg (fun e => h (toList_eq.1 e).symm) ih
theorem containsStr_ev (l : List ByteArray) (s : ByteArray) (hl : l.length ≤ 9223372036854775806) : Ev (fun k => slices_Contains_string_string.f k l s) (decide (s ∈ l)) := by
  unfold slices_Contains_string_string.f
  refine Ev.bind (indexStr_ev l s hl) (Ev.to (Ev.now _) ?_)
  rw [decide_eq_decide]
  exact plc_mem s l 0
theorem l3Place_ev (l : List ByteArray) (s : ByteArray) (hl : l.length ≤ 9223372036854775806) : Ev (fun k => spec_l3Place.f k l s) (plc s l 0) := by
  unfold spec_l3Place.f
  refine Ev.list l (g := fun k i => spec_l3Place.l0 k s l (l.length : Int) (i : Int)) (R := fun i r => plc s r i) (Ev.succ ?_) (fun i hi ih => Ev.succ ?_)
  · simp only [spec_l3Place.l0]
    exact Ev.neg (by omega) (Ev.now _)
  · simp only [spec_l3Place.l0, rdOf_at hi, w64n (show i ≤ 9223372036854775806 by omega), plc]
    refine Ev.pos (by omega) (Ev.pos (by omega) (Ev.pos (by omega) ?_))
    by_cases h : l[i] = s
    · rw [if_pos h]; exact Ev.pos (toList_eq.2 h) (Ev.now _)
    · rw [if_neg h]; exact Ev.neg (fun e => h (toList_eq.1 e)) ih
def relI : Option Nat → Int
  | none => -1
  | some i => i
theorem l2Rel_ev (l : List S151) (s : ByteArray) (hl : l.length ≤ 9223372036854775806) : Ev (fun k => spec_l2Rel.f k l s) (relI (relAt s l 0)) := by
  unfold spec_l2Rel.f
  refine Ev.list l (g := fun k i => spec_l2Rel.l0 k s l (l.length : Int) (i : Int)) (R := fun i r => relI (relAt s r i)) (Ev.succ ?_) (fun i hi ih => Ev.succ ?_)
  · simp only [spec_l2Rel.l0]
    exact Ev.neg (by omega) (Ev.now _)
  · have hx : rd_T151 l (i : Int) = l[i] := getD_at _ hi
    simp only [spec_l2Rel.l0, hx, w64n (show i ≤ 9223372036854775806 by omega), relAt]
    refine Ev.pos (by omega) (Ev.pos (by omega) (Ev.pos (by omega) ?_))
    by_cases h : l[i].f0 = s
    · rw [if_pos h]; exact Ev.pos (toList_eq.2 h) (Ev.now _)
    · rw [if_neg h]; exact Ev.neg (fun e => h (toList_eq.1 e)) ih
theorem l3Vars_l1 (l : List At) (x : Int) (n : Int) (ts : List Tm) (hts : ts.length ≤ 9223372036854775806) (F : List ByteArray → List ByteArray) :
    ∀ (r : List Tm) (j : Nat) (out : List ByteArray), ts.drop j = r → j ≤ ts.length → (varsT out r).length ≤ 1048576 → (∀ o : List ByteArray, o.length ≤ 1048576 → o = varsT out r → Ev (fun k => spec_l3Vars.l0 k o l n (wrap64 (x + 1))) (F o)) →
      Ev (fun k => spec_l3Vars.l1 k out l n x ts (ts.length : Int) (j : Int)) (F (varsT out r))
  | [], j, out, hr, hj, hN, h => by
    have : j = ts.length := by have := congrArg List.length hr; simp at this; omega
    subst this
    refine Ev.succ ?_
    simp only [spec_l3Vars.l1]
    exact Ev.neg (by omega) (h _ hN rfl)
  | t :: r, j, out, hr, hj, hN, h => by
    have hlt : j < ts.length := by
      rcases Nat.lt_or_ge j ts.length with h | h
      · exact h
      · rw [List.drop_of_length_le h] at hr; cases hr
    rw [List.drop_eq_getElem_cons hlt] at hr
    injection hr with ht hr
    have hx : rd_T185 ts (j : Int) = t := (getD_at _ hlt).trans ht
    have hsub : out.length ≤ 1048576 := by
      have h1 := addVar_le out t.f0
      have h2 := varsT_le r (addVar out t.f0)
      simp only [varsT] at hN
      omega
    have ih := l3Vars_l1 l x n ts hts F r (j + 1) (addVar out t.f0) hr (by omega) hN h
    refine Ev.succ ?_
    simp only [spec_l3Vars.l1, hx, w64n (show j ≤ 9223372036854775806 by omega)]
    refine Ev.pos (by omega) (Ev.pos (by omega) (Ev.pos (by omega) ?_))
    simp only [varsT]
    by_cases h0 : t.f0.size = 0
    · have e : addVar out t.f0 = out := by unfold addVar; rw [if_pos (.inl h0)]
      rw [e] at ih ⊢
      exact Ev.pos ((toList_nil _).2 h0) ih
    · refine Ev.neg (fun e => h0 ((toList_nil _).1 e)) (Ev.bind (l3Place_ev out t.f0 (by omega)) ?_)
      by_cases hm : t.f0 ∈ out
      · have e : addVar out t.f0 = out := by unfold addVar; rw [if_pos (.inr hm)]
        rw [e] at ih ⊢
        refine Ev.neg ?_ ih
        have := (plc_mem t.f0 out 0).2 hm
        omega
      · have e : addVar out t.f0 = out ++ [t.f0] := by unfold addVar; rw [if_neg (by simp [h0, hm])]
        rw [e] at ih ⊢
        refine Ev.pos ?_ (Ev.pos (by omega) ih)
        rw [plc_neg _ _ _ hm]; omega
theorem l3Vars_ev (a0 : ByteArray) (l1 : List ByteArray) (a2 : Int) (l : List At) (hl : l.length ≤ 9223372036854775806) (hts : ∀ a, a ∈ l → a.f1.length ≤ 9223372036854775806) (hN : (varsF l).length ≤ 1048576) :
    Ev (fun k => spec_l3Vars.f k a0 l1 a2 l) (varsF l) := by
  unfold spec_l3Vars.f
  have key : ∀ (r : List At) (i : Nat) (out : List ByteArray), l.drop i = r → i ≤ l.length → varsG out r = varsF l → Ev (fun k => spec_l3Vars.l0 k out l (l.length : Int) (i : Int)) (varsF l) := by
    intro r
    induction r with
    | nil =>
      intro i out hr hi he
      have : i = l.length := by have := congrArg List.length hr; simp at this; omega
      subst this
      refine Ev.succ ?_
      simp only [spec_l3Vars.l0]
      exact Ev.neg (by omega) (Ev.to (Ev.now _) he)
    | cons a r ih =>
      intro i out hr hi he
      have hlt : i < l.length := by
        rcases Nat.lt_or_ge i l.length with h | h
        · exact h
        · rw [List.drop_of_length_le h] at hr; cases hr
      rw [List.drop_eq_getElem_cons hlt] at hr
      injection hr with ha hr
      have hx : rd_T148 l (i : Int) = a := (getD_at _ hlt).trans ha
      have hN2 : (varsT out a.f1).length ≤ 1048576 := by
        have := varsG_le r (varsT out a.f1)
        simp only [varsG] at he
        rw [he] at this; omega
      refine Ev.succ ?_
      simp only [spec_l3Vars.l0, hx]
      refine Ev.pos (by omega) (Ev.pos (by omega) (Ev.pos (by omega) ?_))
      have hat := hts a (ha ▸ List.getElem_mem hlt)
      refine l3Vars_l1 l (i : Int) (l.length : Int) a.f1 hat (fun _ => varsF l) a.f1 0 out rfl (Nat.zero_le _) hN2 (fun o ho e => ?_)
      rw [w64n (show i ≤ 9223372036854775806 by omega)]
      subst e
      exact ih (i + 1) _ hr (by omega) he
  exact key l 0 [] rfl (Nat.zero_le _) rfl
noncomputable def termB (t : Tm) : Bool := inV t.f1 && (decide (t.f0.size = 0) || (nameb t.f0 && t.f1 == 0))
noncomputable def atomB (a : At) : Bool := nameb a.f0 && decide (a.f1.length ≠ 0) && a.f1.all termB
noncomputable def shapeB (name : ByteArray) (head : List ByteArray) (ring : Int) (l : List At) : Bool := nameb name && decide (l.length ≠ 0) && decide (0 ≤ ring ∧ ring ≤ 3) && (head.all nameb && l.all atomB)
theorem termOk_ev (t : Tm) : Ev (fun k => impl_Term_ok.f k t.f0 t.f1) (termB t) := by
  unfold impl_Term_ok.f termB
  refine Ev.val (within_V _) ?_
  cases h : inV t.f1 with
  | false => exact Ev.neg (by simp) (Ev.now _)
  | true =>
    refine Ev.pos rfl ?_
    by_cases h0 : t.f0.size = 0
    · exact Ev.to (Ev.pos ((toList_nil _).2 h0) (Ev.now _)) (by simp [h0])
    · refine Ev.neg (fun e => h0 ((toList_nil _).1 e)) (Ev.bind (isName_ev _) ?_)
      simp only [h0, decide_false, Bool.false_or, Bool.true_and]
      cases h2 : nameb t.f0 with
      | false => exact Ev.neg (by simp) (Ev.now _)
      | true => exact Ev.pos rfl (Ev.now _)
theorem shape1_ev (t : Tm) : Ev (fun k => impl_Query_shape_1.f k t.f0 t.f1) (!termB t) := by
  unfold impl_Query_shape_1.f
  exact Ev.bind (termOk_ev t) (Ev.now _)
def idxv (p : Tm → Bool) : List Tm → Nat → Int
  | [], _ => -1
  | t :: r, i => if p t = true then i else idxv p r (i + 1)
theorem idxv_iff (p : Tm → Bool) : ∀ (l : List Tm) (i : Nat), 0 ≤ idxv (fun t => !p t) l i ↔ ¬ l.all p = true
  | [], i => by simp [idxv]
  | t :: r, i => by
    by_cases h : p t = true
    · have e : idxv (fun t => !p t) (t :: r) i = idxv (fun t => !p t) r (i + 1) := if_neg (by simp [h])
      rw [e, idxv_iff p r (i + 1), List.all_cons, h, Bool.true_and]
    · have e : idxv (fun t => !p t) (t :: r) i = (i : Int) := if_pos (by simpa using h)
      rw [e, List.all_cons]
      simp [h]
theorem idxv_all (p : Tm → Bool) (l : List Tm) (i : Nat) : decide (0 ≤ idxv (fun t => !p t) l i) = !l.all p := by
  rw [Bool.eq_iff_iff, decide_eq_true_iff, idxv_iff]
  simp
theorem idxTerm_ev : ∀ (l : List Tm) (i : Nat), Ev (fun k => idxTerm (impl_Query_shape_1.f k) i l) (idxv (fun t => !termB t) l i)
  | [], i => Ev.now _
  | t :: r, i => by
    simp only [idxTerm, idxv]
    refine Ev.bind (shape1_ev t) ?_
    by_cases h : termB t = true
    · have h2 : ¬ (!termB t) = true := by simp [h]
      rw [if_neg h2]
      exact Ev.neg h2 (idxTerm_ev r (i + 1))
    · have h2 : (!termB t) = true := by simp [h]
      rw [if_pos h2]
      exact Ev.pos h2 (Ev.now _)
theorem containsTerm_ev (l : List Tm) : Ev (fun k => slices_ContainsFunc_Simpl_Term_impl_Term.f k l) (!l.all termB) := by
  unfold slices_ContainsFunc_Simpl_Term_impl_Term.f
  exact Ev.bind (idxTerm_ev l 0) (Ev.to (Ev.now _) (idxv_all termB l 0))
theorem shape_l1 (l : List At) (hl : l.length ≤ 9223372036854775806) : Ev (fun k => impl_Query_shape.l1 k l (l.length : Int) 0) (l.all atomB) := by
  refine Ev.to (Ev.all l atomB (g := fun k i => impl_Query_shape.l1 k l (l.length : Int) (i : Int)) (R := true) (fun _ => Ev.succ ?_) ?_ ?_) (by simp)
  · simp only [impl_Query_shape.l1]
    exact Ev.neg (by omega) (Ev.now _)
  · intro i hi hp R' ih
    have hx : rd_T148 l (i : Int) = l[i] := getD_at _ hi
    unfold atomB at hp
    simp only [Bool.and_eq_true, decide_eq_true_eq] at hp
    refine Ev.succ ?_
    simp only [impl_Query_shape.l1, hx, w64n (show i ≤ 9223372036854775806 by omega)]
    refine Ev.pos (by omega) (Ev.pos (by omega) (Ev.pos (by omega) (Ev.bind (isName_ev _) (Ev.pos hp.1.1 (Ev.neg (by omega) (Ev.bind (containsTerm_ev _) (Ev.neg ?_ ih)))))))
    rw [hp.2]; simp
  · intro i hi hp
    have hx : rd_T148 l (i : Int) = l[i] := getD_at _ hi
    unfold atomB at hp
    refine Ev.succ ?_
    simp only [impl_Query_shape.l1, hx]
    refine Ev.pos (by omega) (Ev.pos (by omega) (Ev.pos (by omega) (Ev.bind (isName_ev _) ?_)))
    cases h1 : nameb l[i].f0 with
    | false => exact Ev.neg (by simp) (Ev.now _)
    | true =>
      refine Ev.pos rfl ?_
      by_cases h2 : l[i].f1.length = 0
      · exact Ev.pos (by omega) (Ev.now _)
      · refine Ev.neg (by omega) (Ev.bind (containsTerm_ev _) (Ev.pos ?_ (Ev.now _)))
        rw [h1] at hp; simp [h2] at hp
        simpa using hp
theorem shape_l0 (name : ByteArray) (head : List ByteArray) (ring : Int) (l : List At) (hh : head.length ≤ 9223372036854775806) (hl : l.length ≤ 9223372036854775806) :
    Ev (fun k => impl_Query_shape.l0 k head (head.length : Int) 0 name head ring l) (head.all nameb && l.all atomB) := by
  refine Ev.all head nameb (g := fun k i => impl_Query_shape.l0 k head (head.length : Int) (i : Int) name head ring l) (fun _ => Ev.succ ?_) ?_ ?_
  · simp only [impl_Query_shape.l0]
    exact Ev.neg (by omega) (shape_l1 l hl)
  · intro i hi hp R' ih
    refine Ev.succ ?_
    simp only [impl_Query_shape.l0, rdOf_at hi, w64n (show i ≤ 9223372036854775806 by omega)]
    exact Ev.pos (by omega) (Ev.pos (by omega) (Ev.pos (by omega) (Ev.bind (isName_ev _) (Ev.pos hp ih))))
  · intro i hi hp
    refine Ev.succ ?_
    simp only [impl_Query_shape.l0, rdOf_at hi]
    exact Ev.pos (by omega) (Ev.pos (by omega) (Ev.pos (by omega) (Ev.bind (isName_ev _) (Ev.neg (by simp [hp]) (Ev.now _)))))
theorem shape_ev (name : ByteArray) (head : List ByteArray) (ring : Int) (l : List At) (hh : head.length ≤ 9223372036854775806) (hl : l.length ≤ 9223372036854775806) :
    Ev (fun k => impl_Query_shape.f k name head ring l) (shapeB name head ring l) := by
  unfold impl_Query_shape.f shapeB
  have hj : Ev (fun k => impl_Query_shape.j0 k true name head ring l) false := Ev.succ (by simp only [impl_Query_shape.j0, if_true]; exact Ev.now _)
  refine Ev.bind (isName_ev _) ?_
  cases h1 : nameb name with
  | false => exact Ev.neg (by simp) hj
  | true =>
    refine Ev.pos rfl ?_
    by_cases h2 : l.length = 0
    · exact Ev.to (Ev.pos (by omega) hj) (by simp [h2])
    · refine Ev.neg (by omega) (Ev.val (within_v _ _ _) ?_)
      by_cases h3 : 0 ≤ ring ∧ ring ≤ 3
      · simp only [h2, h3, ne_eq, not_false_eq_true, and_self, decide_true, Bool.and_self, Bool.true_and, Bool.not_true]
        refine Ev.succ ?_
        simp only [impl_Query_shape.j0, Bool.false_eq_true, if_false]
        exact shape_l0 name head ring l hh hl
      · simp only [decide_eq_false h3, Bool.not_false, Bool.and_false, Bool.false_and]
        exact hj
theorem sshape_l2 (l : List At) (n x : Int) (ts : List Tm) (hts : ts.length ≤ 9223372036854775806) (R : Bool) (h : ts.all termB = true → Ev (fun k => spec_l3ShapeOK.l1 k l n (wrap64 (x + 1))) R) :
    Ev (fun k => spec_l3ShapeOK.l2 k l n x ts (ts.length : Int) 0) (ts.all termB && R) := by
  refine Ev.all ts termB (g := fun k i => spec_l3ShapeOK.l2 k l n x ts (ts.length : Int) (i : Int)) (fun ha => Ev.succ ?_) ?_ ?_
  · simp only [spec_l3ShapeOK.l2]
    exact Ev.neg (by omega) (h ha)
  · intro i hi hp R' ih
    have hx : rd_T185 ts (i : Int) = ts[i] := getD_at _ hi
    unfold termB at hp
    simp only [Bool.and_eq_true, Bool.or_eq_true, decide_eq_true_eq, beq_iff_eq] at hp
    have hj : Ev (fun k => spec_l3ShapeOK.j5 k l n x ts (ts.length : Int) (i : Int) false ts[i].f0 ts[i].f1) R' := Ev.succ (by
      simp only [spec_l3ShapeOK.j5, Bool.false_eq_true, if_false, w64n (show i ≤ 9223372036854775806 by omega)]
      exact Ev.val (between_V _) (Ev.pos hp.1 ih))
    refine Ev.succ ?_
    simp only [spec_l3ShapeOK.l2, hx]
    refine Ev.pos (by omega) (Ev.pos (by omega) (Ev.pos (by omega) ?_))
    by_cases h0 : ts[i].f0.size = 0
    · exact Ev.pos ((toList_nil _).2 h0) hj
    · have hp2 := hp.2.resolve_left h0
      refine Ev.neg (fun e => h0 ((toList_nil _).1 e)) (Ev.bind (l2Name_ev _) (Ev.pos hp2.1 ?_))
      rw [hp2.2]; rw [hp2.2] at hj; exact hj
  · intro i hi hp
    have hx : rd_T185 ts (i : Int) = ts[i] := getD_at _ hi
    have hj : Ev (fun k => spec_l3ShapeOK.j5 k l n x ts (ts.length : Int) (i : Int) true ts[i].f0 ts[i].f1) false := Ev.succ (by simp only [spec_l3ShapeOK.j5, if_true]; exact Ev.now _)
    have hj2 : inV ts[i].f1 = false → Ev (fun k => spec_l3ShapeOK.j5 k l n x ts (ts.length : Int) (i : Int) false ts[i].f0 ts[i].f1) false := fun hv => Ev.succ (by
      simp only [spec_l3ShapeOK.j5, Bool.false_eq_true, if_false]
      exact Ev.val (between_V _) (Ev.neg (by simp [hv]) (Ev.now _)))
    refine Ev.succ ?_
    simp only [spec_l3ShapeOK.l2, hx]
    refine Ev.pos (by omega) (Ev.pos (by omega) (Ev.pos (by omega) ?_))
    unfold termB at hp
    by_cases h0 : ts[i].f0.size = 0
    · refine Ev.pos ((toList_nil _).2 h0) (hj2 ?_)
      simpa [h0] using hp
    · refine Ev.neg (fun e => h0 ((toList_nil _).1 e)) (Ev.bind (l2Name_ev _) ?_)
      cases h1 : nameb ts[i].f0 with
      | false => exact Ev.neg (by simp) hj
      | true =>
        refine Ev.pos rfl ?_
        by_cases h2 : ts[i].f1 = 0
        · have hb : (ts[i].f1 != 0) = false := by simp [h2]
          rw [hb]
          refine hj2 ?_
          rw [h1, h2] at hp
          rw [h2]; simpa [h0] using hp
        · have hb : (ts[i].f1 != 0) = true := by simp [h2]
          rw [hb]; exact hj
theorem sshape_l1 (l : List At) (hl : l.length ≤ 9223372036854775806) (hts : ∀ a, a ∈ l → a.f1.length ≤ 9223372036854775806) : Ev (fun k => spec_l3ShapeOK.l1 k l (l.length : Int) 0) (l.all atomB) := by
  refine Ev.to (Ev.all l atomB (g := fun k i => spec_l3ShapeOK.l1 k l (l.length : Int) (i : Int)) (R := true) (fun _ => Ev.succ ?_) ?_ ?_) (by simp)
  · simp only [spec_l3ShapeOK.l1]
    exact Ev.neg (by omega) (Ev.now _)
  · intro i hi hp R' ih
    have hx : rd_T148 l (i : Int) = l[i] := getD_at _ hi
    unfold atomB at hp
    simp only [Bool.and_eq_true, decide_eq_true_eq] at hp
    refine Ev.succ ?_
    simp only [spec_l3ShapeOK.l1, hx]
    refine Ev.pos (by omega) (Ev.pos (by omega) (Ev.pos (by omega) (Ev.bind (l2Name_ev _) (Ev.pos hp.1.1 ?_))))
    rw [show decide ((l[i].f1.length : Int) < 1) = false from decide_eq_false (by omega)]
    refine Ev.succ ?_
    simp only [spec_l3ShapeOK.j3, Bool.false_eq_true, if_false]
    refine Ev.to (sshape_l2 l (l.length : Int) (i : Int) l[i].f1 (hts _ (List.getElem_mem _)) R' (fun _ => ?_)) (by rw [hp.2]; rfl)
    rw [w64n (show i ≤ 9223372036854775806 by omega)]; exact ih
  · intro i hi hp
    have hx : rd_T148 l (i : Int) = l[i] := getD_at _ hi
    have hj : Ev (fun k => spec_l3ShapeOK.j3 k l (l.length : Int) (i : Int) true l[i].f0 l[i].f1) false := Ev.succ (by simp only [spec_l3ShapeOK.j3, if_true]; exact Ev.now _)
    unfold atomB at hp
    refine Ev.succ ?_
    simp only [spec_l3ShapeOK.l1, hx]
    refine Ev.pos (by omega) (Ev.pos (by omega) (Ev.pos (by omega) (Ev.bind (l2Name_ev _) ?_)))
    cases h1 : nameb l[i].f0 with
    | false => exact Ev.neg (by simp) hj
    | true =>
      refine Ev.pos rfl ?_
      by_cases h2 : l[i].f1.length = 0
      · rw [show decide ((l[i].f1.length : Int) < 1) = true from decide_eq_true (by omega)]; exact hj
      · rw [show decide ((l[i].f1.length : Int) < 1) = false from decide_eq_false (by omega)]
        refine Ev.succ ?_
        simp only [spec_l3ShapeOK.j3, Bool.false_eq_true, if_false]
        have hall : l[i].f1.all termB = false := by
          rw [h1] at hp; simp [h2] at hp
          simpa using hp
        exact Ev.to (sshape_l2 l (l.length : Int) (i : Int) l[i].f1 (hts _ (List.getElem_mem _)) true (fun h => by rw [h] at hall; cases hall)) (by rw [hall]; rfl)
theorem sshape_l0 (name : ByteArray) (head : List ByteArray) (ring : Int) (l : List At) (hh : head.length ≤ 9223372036854775806) (hl : l.length ≤ 9223372036854775806) (hts : ∀ a, a ∈ l → a.f1.length ≤ 9223372036854775806) :
    Ev (fun k => spec_l3ShapeOK.l0 k head (head.length : Int) 0 name head ring l) (head.all nameb && l.all atomB) := by
  refine Ev.all head nameb (g := fun k i => spec_l3ShapeOK.l0 k head (head.length : Int) (i : Int) name head ring l) (fun _ => Ev.succ ?_) ?_ ?_
  · simp only [spec_l3ShapeOK.l0]
    exact Ev.neg (by omega) (sshape_l1 l hl hts)
  · intro i hi hp R' ih
    refine Ev.succ ?_
    simp only [spec_l3ShapeOK.l0, rdOf_at hi, w64n (show i ≤ 9223372036854775806 by omega)]
    exact Ev.pos (by omega) (Ev.pos (by omega) (Ev.pos (by omega) (Ev.bind (l2Name_ev _) (Ev.pos hp ih))))
  · intro i hi hp
    refine Ev.succ ?_
    simp only [spec_l3ShapeOK.l0, rdOf_at hi]
    exact Ev.pos (by omega) (Ev.pos (by omega) (Ev.pos (by omega) (Ev.bind (l2Name_ev _) (Ev.neg (by simp [hp]) (Ev.now _)))))
theorem sshape_ev (name : ByteArray) (head : List ByteArray) (ring : Int) (l : List At) (hh : head.length ≤ 9223372036854775806) (hl : l.length ≤ 9223372036854775806) (hts : ∀ a, a ∈ l → a.f1.length ≤ 9223372036854775806) :
    Ev (fun k => spec_l3ShapeOK.f k name head ring l) (shapeB name head ring l) := by
  unfold spec_l3ShapeOK.f shapeB
  have hj : Ev (fun k => spec_l3ShapeOK.j0 k true name head ring l) false := Ev.succ (by simp only [spec_l3ShapeOK.j0, if_true]; exact Ev.now _)
  refine Ev.bind (l2Name_ev _) ?_
  cases h1 : nameb name with
  | false => exact Ev.neg (by simp) hj
  | true =>
    refine Ev.pos rfl (Ev.val (between_v _ _ _) ?_)
    by_cases h3 : 0 ≤ ring ∧ ring ≤ 3
    · refine Ev.pos (by simp [h3]) ?_
      by_cases h2 : l.length = 0
      · rw [show decide ((l.length : Int) < 1) = true from decide_eq_true (by omega)]
        exact Ev.to hj (by simp [h2])
      · rw [show decide ((l.length : Int) < 1) = false from decide_eq_false (by omega)]
        simp only [h2, h3, ne_eq, not_false_eq_true, and_self, decide_true, Bool.and_self, Bool.true_and]
        refine Ev.succ ?_
        simp only [spec_l3ShapeOK.j0, Bool.false_eq_true, if_false]
        exact sshape_l0 name head ring l hh hl hts
    · refine Ev.to (Ev.neg (by simp [h3]) hj) ?_
      simp only [decide_eq_false h3, Bool.and_false, Bool.false_and]
end Go.Proofs.Ytkolhpmhbgbphaa.PT
namespace Go.Proofs.Ytkolhpmhbgbphaa.PT
open Go.RowKit Go.Proofs.Ytkolhpmhbgbphaa.P Go.Proofs.YtkolhpmhbgbphaaW.PrintWords Go.Proofs.YtkolhpmhbgbphaaW.PrintLast Go.Proofs.Ytkolhpmhbgbphaa.EvKit
set_option linter.unusedSimpArgs false
set_option linter.unusedVariables false
def GStr (s : ByteArray) : Prop := s.size ≤ 9223372036854775807
def SStr (s : ByteArray) : Prop := s.size ≤ 1048576
def GL {α : Type} (G : α → Prop) (l : List α) : Prop := l.length ≤ 9223372036854775807 ∧ ∀ x, x ∈ l → G x
def SL {α : Type} (S : α → Prop) (l : List α) : Prop := l.length ≤ 1048576 ∧ ∀ x, x ∈ l → S x
theorem szStr_le {s : ByteArray} {a : Int} (ha : a ≤ 1048576) (h : 0 ≤ szStr1 s a) : SStr s ∧ szStr1 s a ≤ a ∧ 0 ≤ a := szStr1_le s a ha h
theorem w64s {s : ByteArray} {a : Int} (g : GStr s) (h0 : 0 ≤ a) (h1 : a ≤ 1048576) : wrap64 (a - (s.size : Int)) = a - s.size := w64 (by unfold GStr at g; omega) (by omega)
theorem w64l {α : Type} {l : List α} {a : Int} (g : l.length ≤ 9223372036854775807) (h0 : 0 ≤ a) (h1 : a ≤ 1048576) : wrap64 (a - (l.length : Int)) = a - l.length := w64 (by omega) (by omega)
theorem szHd_ev {α : Type} {l : List α} {s : α → Int → Int} {a : Int} {A : Nat → Option Int} (g : l.length ≤ 9223372036854775807) (h0 : 0 ≤ a) (h1 : a ≤ 1048576) (h : ¬ a - l.length < 0 → Ev A (szL s (a - l.length) l)) :
    Ev (fun k => if (wrap64 (a - (l.length : Int))) < 0 then some (-1) else A k) (szHd s l a) := by
  rw [w64l g h0 h1]
  unfold szHd
  by_cases c : a - l.length < 0
  · rw [if_pos c]; exact Ev.pos c (Ev.now _)
  · rw [if_neg c]; exact Ev.neg c (h c)
theorem szStringS_ev (l : List ByteArray) (a : Int) (g : GL GStr l) (h0 : 0 ≤ a) (h1 : a ≤ 1048576) : Ev (fun k => laws_szStringS.f k l a) (szHd szStr1 l a) := by
  unfold laws_szStringS.f
  refine szHd_ev g.1 h0 h1 (fun c => ?_)
  rw [w64l g.1 h0 h1]
  refine Ev.szS l szStr1 (S := SStr) (fun x a => szStr_le) (g := fun k b i => laws_szStringS.l0 k l b (i : Int)) (fun a => Ev.succ ?_) (fun i hi b R hb0 hb1 hp hn => Ev.succ ?_) _ (by omega) (by omega)
  · simp only [laws_szStringS.l0]
    exact Ev.neg (by omega) (Ev.now _)
  · have hle := g.1
    simp only [laws_szStringS.l0, rdOf_at hi, w64n (show i ≤ 9223372036854775806 by omega), w64s (g.2 _ (List.getElem_mem hi)) hb0 hb1]
    refine Ev.pos (by omega) (Ev.pos (by omega) ?_)
    unfold szStr1 at hp hn
    by_cases c : b - l[i].size < 0
    · rw [if_pos c] at hn; rw [hn (by omega)]; exact Ev.pos c (Ev.now _)
    · rw [if_neg c] at hp; exact Ev.neg c (hp (by omega))
def szTm (t : LTm) (a : Int) : Int := szStr1 t.f0 a
def GTm (t : LTm) : Prop := GStr t.f0
def STm (t : LTm) : Prop := SStr t.f0
theorem szTerm_v (t : LTm) (a : Int) (g : GTm t) (h0 : 0 ≤ a) (h1 : a ≤ 1048576) : laws_szTerm.f t.f0 t.f1 a = some (szTm t a) := by
  unfold laws_szTerm.f szTm szStr1
  rw [w64s g h0 h1]
  by_cases c : a - t.f0.size < 0
  · rw [if_pos c, if_pos c]
  · rw [if_neg c, if_neg c]
theorem szTermS_ev (l : List LTm) (a : Int) (g : GL GTm l) (h0 : 0 ≤ a) (h1 : a ≤ 1048576) : Ev (fun k => laws_szTermS.f k l a) (szHd szTm l a) := by
  unfold laws_szTermS.f
  refine szHd_ev g.1 h0 h1 (fun c => ?_)
  rw [w64l g.1 h0 h1]
  refine Ev.szS l szTm (S := STm) (fun x a => szStr_le) (g := fun k b i => laws_szTermS.l0 k l b (i : Int)) (fun a => Ev.succ ?_) (fun i hi b R hb0 hb1 hp hn => Ev.succ ?_) _ (by omega) (by omega)
  · simp only [laws_szTermS.l0]
    exact Ev.neg (by omega) (Ev.now _)
  · have hle := g.1
    have hx : rd_T237 l (i : Int) = l[i] := getD_at _ hi
    simp only [laws_szTermS.l0, hx, w64n (show i ≤ 9223372036854775806 by omega)]
    refine Ev.pos (by omega) (Ev.pos (by omega) (Ev.val (szTerm_v _ _ (g.2 _ (List.getElem_mem hi)) hb0 hb1) ?_))
    by_cases c : szTm l[i] b < 0
    · rw [hn c]; exact Ev.pos c (Ev.now _)
    · exact Ev.neg c (hp (by omega))
def szAt (x : LAt) (a : Int) : Int := if szStr1 x.f0 a < 0 then -1 else if szHd szTm x.f1 (szStr1 x.f0 a) < 0 then -1 else szHd szTm x.f1 (szStr1 x.f0 a)
def GAt (x : LAt) : Prop := GStr x.f0 ∧ GL GTm x.f1
def SAt (x : LAt) : Prop := SStr x.f0 ∧ SL STm x.f1
theorem szAt_le {x : LAt} {a : Int} (ha : a ≤ 1048576) (h : 0 ≤ szAt x a) : SAt x ∧ szAt x a ≤ a ∧ 0 ≤ a := by
  unfold szAt at h ⊢
  by_cases c1 : szStr1 x.f0 a < 0
  · rw [if_pos c1] at h; omega
  · rw [if_neg c1] at h ⊢
    obtain ⟨p1, p2, p3⟩ := szStr_le ha (Int.not_lt.1 c1)
    by_cases c2 : szHd szTm x.f1 (szStr1 x.f0 a) < 0
    · rw [if_pos c2] at h; omega
    · rw [if_neg c2]
      obtain ⟨q1, q2, q3⟩ := szHd_le (s := szTm) (S := STm) (fun _ _ => szStr_le) x.f1 _ (by omega) (Int.not_lt.1 c2)
      exact ⟨⟨p1, q1⟩, by omega, by omega⟩
theorem szFront {A : Int → Nat → Option Int} {s : ByteArray} {a : Int} {F : Int → Int} (g : GStr s) (h0 : 0 ≤ a) (h1 : a ≤ 1048576) (h : 0 ≤ szStr1 s a → szStr1 s a ≤ 1048576 → Ev (A (szStr1 s a)) (F (szStr1 s a))) :
    Ev (fun k => if (wrap64 (a - (s.size : Int))) < 0 then some (-1) else A (wrap64 (a - (s.size : Int))) k) (if szStr1 s a < 0 then -1 else F (szStr1 s a)) := by
  rw [w64s g h0 h1]
  by_cases c : a - s.size < 0
  · have e : szStr1 s a = -1 := if_pos c
    rw [e, if_pos (by omega)]; exact Ev.pos c (Ev.now _)
  · have e : szStr1 s a = a - s.size := if_neg c
    rw [e] at h ⊢
    rw [if_neg c]; exact Ev.neg c (h (by omega) (by omega))
theorem Ev.left {g : Nat → Option Int} {z : Int} {A : Int → Nat → Option Int} {R : Int} (h : Ev g z) (hA : 0 ≤ z → Ev (A z) R) : Ev (fun k => (g k).bind fun t => if t < 0 then some (-1) else A t k) (if z < 0 then -1 else R) := by
  refine Ev.bind h ?_
  by_cases c : z < 0
  · rw [if_pos c]; exact Ev.pos c (Ev.now _)
  · rw [if_neg c]; exact Ev.neg c (hA (by omega))
theorem szAtom_ev (x : LAt) (a : Int) (g : GAt x) (h0 : 0 ≤ a) (h1 : a ≤ 1048576) : Ev (fun k => laws_szAtom.f k x.f0 x.f1 a) (szAt x a) := by
  unfold laws_szAtom.f szAt
  exact szFront (F := fun b => if szHd szTm x.f1 b < 0 then -1 else szHd szTm x.f1 b) (A := fun b k => (laws_szTermS.f k x.f1 b).bind fun t => if t < 0 then some (-1) else some t) g.1 h0 h1 (fun p1 p2 => Ev.left (szTermS_ev x.f1 _ g.2 p1 p2) (fun _ => Ev.now _))
theorem szAtomS_ev (l : List LAt) (a : Int) (g : GL GAt l) (h0 : 0 ≤ a) (h1 : a ≤ 1048576) : Ev (fun k => laws_szAtomS.f k l a) (szHd szAt l a) := by
  unfold laws_szAtomS.f
  refine szHd_ev g.1 h0 h1 (fun c => ?_)
  rw [w64l g.1 h0 h1]
  refine Ev.szS l szAt (S := SAt) (fun x a => szAt_le) (g := fun k b i => laws_szAtomS.l0 k l b (i : Int)) (fun a => Ev.succ ?_) (fun i hi b R hb0 hb1 hp hn => Ev.succ ?_) _ (by omega) (by omega)
  · simp only [laws_szAtomS.l0]
    exact Ev.neg (by omega) (Ev.now _)
  · have hle := g.1
    have hx : rd_T182 l (i : Int) = l[i] := getD_at _ hi
    simp only [laws_szAtomS.l0, hx, w64n (show i ≤ 9223372036854775806 by omega)]
    refine Ev.pos (by omega) (Ev.pos (by omega) (Ev.bind (szAtom_ev _ _ (g.2 _ (List.getElem_mem hi)) hb0 hb1) ?_))
    by_cases c : szAt l[i] b < 0
    · rw [hn c]; exact Ev.pos c (Ev.now _)
    · exact Ev.neg c (hp (by omega))
def szQ (nm : ByteArray) (hd : List ByteArray) (l : List LAt) (a : Int) : Int :=
  if szStr1 nm a < 0 then -1 else if szHd szStr1 hd (szStr1 nm a) < 0 then -1 else if szHd szAt l (szHd szStr1 hd (szStr1 nm a)) < 0 then -1 else szHd szAt l (szHd szStr1 hd (szStr1 nm a))
theorem szQ_le {nm : ByteArray} {hd : List ByteArray} {l : List LAt} {a : Int} (ha : a ≤ 1048576) (h : 0 ≤ szQ nm hd l a) : SStr nm ∧ SL SStr hd ∧ SL SAt l ∧ szQ nm hd l a ≤ a ∧ 0 ≤ a := by
  unfold szQ at h ⊢
  by_cases c1 : szStr1 nm a < 0
  · rw [if_pos c1] at h; omega
  · rw [if_neg c1] at h ⊢
    obtain ⟨p1, p2, p3⟩ := szStr_le ha (Int.not_lt.1 c1)
    by_cases c2 : szHd szStr1 hd (szStr1 nm a) < 0
    · rw [if_pos c2] at h; omega
    · rw [if_neg c2] at h ⊢
      obtain ⟨q1, q2, q3⟩ := szHd_le (s := szStr1) (S := SStr) (fun _ _ => szStr_le) hd _ (by omega) (Int.not_lt.1 c2)
      by_cases c3 : szHd szAt l (szHd szStr1 hd (szStr1 nm a)) < 0
      · rw [if_pos c3] at h; omega
      · rw [if_neg c3]
        obtain ⟨r1, r2, r3⟩ := szHd_le (s := szAt) (S := SAt) (fun _ _ => szAt_le) l _ (by omega) (Int.not_lt.1 c3)
        exact ⟨p1, q1, r1, by omega, by omega⟩
theorem szQuery_ev (nm : ByteArray) (hd : List ByteArray) (rg : Int) (l : List LAt) (a : Int) (g1 : GStr nm) (g2 : GL GStr hd) (g3 : GL GAt l) (h0 : 0 ≤ a) (h1 : a ≤ 1048576) : Ev (fun k => laws_szQuery.f k nm hd rg l a) (szQ nm hd l a) := by
  unfold laws_szQuery.f szQ
  refine szFront (F := fun b => if szHd szStr1 hd b < 0 then -1 else if szHd szAt l (szHd szStr1 hd b) < 0 then -1 else szHd szAt l (szHd szStr1 hd b))
    (A := fun b k => (laws_szStringS.f k hd b).bind fun t => if t < 0 then some (-1) else (laws_szAtomS.f k l t).bind fun u => if u < 0 then some (-1) else some u) g1 h0 h1 (fun p1 p2 => ?_)
  refine Ev.left (A := fun t k => (laws_szAtomS.f k l t).bind fun u => if u < 0 then some (-1) else some u) (szStringS_ev hd _ g2 p1 p2) (fun q1 => ?_)
  have q2 := (szHd_le (s := szStr1) (S := SStr) (fun _ _ => szStr_le) hd _ p2 q1).2.1
  exact Ev.left (szAtomS_ev l _ g3 q1 (by omega)) (fun _ => Ev.now _)
def toTm (t : LTm) : Tm := ⟨t.f0, t.f1⟩
def toAt (x : LAt) : At := ⟨x.f0, x.f1.map toTm⟩
theorem toStringS_ev (l : List ByteArray) (hl : l.length ≤ 1048576) : Ev (fun k => laws_toStringS.f k l) l := by
  unfold laws_toStringS.f
  refine Ev.pos (by omega) (Ev.pos (by omega) ?_)
  simp only [Int.toNat_natCast]
  have h := Ev.mapS l (fun x => x) (⟨#[]⟩ : ByteArray) (g := fun k acc i => laws_toStringS.l0 k l acc (i : Int)) (fun acc _ => Ev.succ (by simp only [laws_toStringS.l0]; exact Ev.neg (by omega) (Ev.now _))) (fun i hi acc R ha ih => Ev.succ ?_)
  · rw [List.map_id'] at h; exact h
  · simp only [laws_toStringS.l0, rdOf_at hi, w64n (show i ≤ 9223372036854775806 by omega), Int.toNat_natCast]
    exact Ev.pos (by omega) (Ev.pos (by omega) (Ev.pos (by omega) ih))
theorem toTermS_ev (l : List LTm) (hl : l.length ≤ 1048576) : Ev (fun k => laws_toTermS.f k l) (l.map toTm) := by
  unfold laws_toTermS.f
  refine Ev.pos (by omega) (Ev.pos (by omega) ?_)
  simp only [Int.toNat_natCast]
  refine Ev.mapS l toTm z185 (g := fun k acc i => laws_toTermS.l0 k l acc (i : Int)) (fun acc _ => Ev.succ (by simp only [laws_toTermS.l0]; exact Ev.neg (by omega) (Ev.now _))) (fun i hi acc R ha ih => Ev.succ ?_)
  have hx : rd_T237 l (i : Int) = l[i] := getD_at _ hi
  simp only [laws_toTermS.l0, hx, w64n (show i ≤ 9223372036854775806 by omega), laws_toTerm.f, Option.bind_some, Int.toNat_natCast]
  exact Ev.pos (by omega) (Ev.pos (by omega) (Ev.pos (by omega) ih))
theorem toAtomS_ev (l : List LAt) (hl : SL SAt l) : Ev (fun k => laws_toAtomS.f k l) (l.map toAt) := by
  unfold laws_toAtomS.f
  have hl1 := hl.1
  refine Ev.pos (by omega) (Ev.pos (by omega) ?_)
  simp only [Int.toNat_natCast]
  refine Ev.mapS l toAt z148 (g := fun k acc i => laws_toAtomS.l0 k l acc (i : Int)) (fun acc _ => Ev.succ (by simp only [laws_toAtomS.l0]; exact Ev.neg (by omega) (Ev.now _))) (fun i hi acc R ha ih => Ev.succ ?_)
  have hx : rd_T182 l (i : Int) = l[i] := getD_at _ hi
  simp only [laws_toAtomS.l0, hx, w64n (show i ≤ 9223372036854775806 by omega), Int.toNat_natCast]
  refine Ev.pos (by omega) (Ev.pos (by omega) (Ev.bind (a := (l[i].f0, l[i].f1.map toTm)) ?_ (Ev.pos (by omega) ih)))
  unfold laws_toAtom.f
  exact Ev.bind (toTermS_ev _ (hl.2 _ (List.getElem_mem hi)).2.1) (Ev.now _)
theorem toQuery_ev (nm : ByteArray) (hd : List ByteArray) (rg : Int) (l : List LAt) (h2 : SL SStr hd) (h3 : SL SAt l) : Ev (fun k => laws_toQuery.f k nm hd rg l) (nm, hd, rg, l.map toAt) := by
  unfold laws_toQuery.f
  exact Ev.bind (toStringS_ev hd h2.1) (Ev.bind (toAtomS_ev l h3) (Ev.now _))
theorem eqStringS_ev (l : List ByteArray) (hl : l.length ≤ 1048576) : Ev (fun k => laws_eqStringS.f k l l) true := by
  unfold laws_eqStringS.f
  refine Ev.pos rfl (Ev.to (Ev.all l (fun _ => true) (g := fun k i => laws_eqStringS.l0 k l l (i : Int)) (R := true) (fun _ => Ev.succ ?_) ?_ ?_) (by simp))
  · simp only [laws_eqStringS.l0]
    exact Ev.neg (by omega) (Ev.now _)
  · intro i hi _ R' ih
    refine Ev.succ ?_
    simp only [laws_eqStringS.l0, rdOf_at hi, w64n (show i ≤ 9223372036854775806 by omega)]
    exact Ev.pos (by omega) (Ev.pos (by omega) (Ev.pos (by omega) (Ev.pos trivial ih)))
  · intro i hi hp; simp at hp
theorem eqTermS_ev (l : List Tm) (hl : l.length ≤ 1048576) : Ev (fun k => laws_eqTermS.f k l l) true := by
  unfold laws_eqTermS.f
  refine Ev.pos rfl (Ev.to (Ev.all l (fun _ => true) (g := fun k i => laws_eqTermS.l0 k l l (i : Int)) (R := true) (fun _ => Ev.succ ?_) ?_ ?_) (by simp))
  · simp only [laws_eqTermS.l0]
    exact Ev.neg (by omega) (Ev.now _)
  · intro i hi _ R' ih
    have hx : rd_T185 l (i : Int) = l[i] := getD_at _ hi
    refine Ev.succ ?_
    simp only [laws_eqTermS.l0, hx, w64n (show i ≤ 9223372036854775806 by omega), laws_eqTerm.f, if_true, Option.bind_some]
    exact Ev.pos (by omega) (Ev.pos (by omega) (Ev.pos (by omega) ih))
  · intro i hi hp; simp at hp
theorem eqAtomS_ev (l : List At) (hl : l.length ≤ 1048576) (h : ∀ x, x ∈ l → x.f1.length ≤ 1048576) : Ev (fun k => laws_eqAtomS.f k l l) true := by
  unfold laws_eqAtomS.f
  refine Ev.pos rfl (Ev.to (Ev.all l (fun _ => true) (g := fun k i => laws_eqAtomS.l0 k l l (i : Int)) (R := true) (fun _ => Ev.succ ?_) ?_ ?_) (by simp))
  · simp only [laws_eqAtomS.l0]
    exact Ev.neg (by omega) (Ev.now _)
  · intro i hi _ R' ih
    have hx : rd_T148 l (i : Int) = l[i] := getD_at _ hi
    refine Ev.succ ?_
    simp only [laws_eqAtomS.l0, hx, w64n (show i ≤ 9223372036854775806 by omega)]
    refine Ev.pos (by omega) (Ev.pos (by omega) (Ev.pos (by omega) (Ev.bind (a := true) ?_ (Ev.pos rfl ih))))
    unfold laws_eqAtom.f
    exact Ev.pos rfl (Ev.bind (eqTermS_ev _ (h _ (List.getElem_mem hi))) (Ev.pos rfl (Ev.now _)))
  · intro i hi hp; simp at hp
theorem eqQuery_ev (nm : ByteArray) (hd : List ByteArray) (rg : Int) (l : List At) (h2 : hd.length ≤ 1048576) (hl : l.length ≤ 1048576) (h : ∀ x, x ∈ l → x.f1.length ≤ 1048576) : Ev (fun k => laws_eqQuery.f k nm hd rg l nm hd rg l) true := by
  unfold laws_eqQuery.f
  exact Ev.pos rfl (Ev.bind (eqStringS_ev hd h2) (Ev.pos rfl (Ev.pos rfl (Ev.bind (eqAtomS_ev l hl h) (Ev.pos rfl (Ev.now _))))))
theorem toAt_len {l : List LAt} (h : SL SAt l) : (l.map toAt).length ≤ 1048576 ∧ ∀ x, x ∈ l.map toAt → x.f1.length ≤ 1048576 := by
  refine ⟨by simpa using h.1, fun x hx => ?_⟩
  obtain ⟨y, hy, rfl⟩ := List.mem_map.1 hx
  have := (h.2 y hy).2.1
  simpa [toAt] using this
theorem varsT_len : ∀ (ts : List Tm) (out : List ByteArray), (varsT out ts).length ≤ out.length + ts.length
  | [], out => by simp [varsT]
  | t :: r, out => by
    have h := varsT_len r (addVar out t.f0)
    have h2 : (addVar out t.f0).length ≤ out.length + 1 := by unfold addVar; split <;> simp
    simp only [varsT, List.length_cons]
    omega
def tsum : List At → Nat
  | [] => 0
  | a :: r => a.f1.length + tsum r
theorem varsG_len : ∀ (l : List At) (out : List ByteArray), (varsG out l).length ≤ out.length + tsum l
  | [], out => by simp [varsG, tsum]
  | a :: r, out => by
    have h := varsG_len r (varsT out a.f1)
    have h2 := varsT_len a.f1 out
    simp only [varsG, tsum]
    omega
theorem szL_sum : ∀ (l : List LAt) (a : Int), a ≤ 1048576 → 0 ≤ szL szAt a l → szL szAt a l + tsum (l.map toAt) ≤ a
  | [], a, _, h => by simp [szL, tsum]
  | x :: r, a, ha, h => by
    simp only [szL] at h ⊢
    by_cases c : szAt x a < 0
    · rw [if_pos c] at h; omega
    · rw [if_neg c] at h ⊢
      have h1 := (szAt_le ha (Int.not_lt.1 c)).2
      have ih := szL_sum r (szAt x a) (by omega) h
      have h2 : szAt x a + x.f1.length ≤ a := by
        unfold szAt at c ⊢
        by_cases c1 : szStr1 x.f0 a < 0
        · rw [if_pos c1] at c; omega
        · rw [if_neg c1] at c ⊢
          have q := (szStr_le ha (Int.not_lt.1 c1)).2.1
          by_cases c2 : szHd szTm x.f1 (szStr1 x.f0 a) < 0
          · rw [if_pos c2] at c; omega
          · rw [if_neg c2]
            unfold szHd at c2 ⊢
            by_cases c3 : szStr1 x.f0 a - x.f1.length < 0
            · rw [if_pos c3] at c2; omega
            · rw [if_neg c3] at c2 ⊢
              have := (szL_le (s := szTm) (S := STm) (fun _ _ => szStr_le) x.f1 _ (by omega) (Int.not_lt.1 c2)).2.1
              omega
      simp only [List.map_cons, tsum, toAt, List.length_map]
      omega
theorem varsF_len {l : List LAt} {a : Int} (ha : a ≤ 1048576) (h : 0 ≤ szHd szAt l a) : (varsF (l.map toAt)).length ≤ 1048576 := by
  unfold szHd at h
  by_cases c : a - l.length < 0
  · rw [if_pos c] at h; omega
  · rw [if_neg c] at h
    have h1 := szL_sum l _ (by omega) h
    have h2 := varsG_len (l.map toAt) []
    unfold varsF
    simp at h2
    omega
end Go.Proofs.Ytkolhpmhbgbphaa.PT
namespace Go.Proofs.Ytkolhpmhbgbphaa.P
open Go.RowKit Go.Proofs.YtkolhpmhbgbphaaW.PrintWords Go.Proofs.YtkolhpmhbgbphaaW.PrintLast Go.Proofs.YtkolhpmhbgbphaaW.PrintMore
attribute [local go_sem] max2_int min2_int max_two min_two max_three min_three max_four min_four
set_option linter.unusedVariables false
set_option linter.unusedSimpArgs false
def laws_markText.l0 : Nat → Int → ByteArray → Option (ByteArray)
 | 0, _, _ => none
 | k + 1, x0, x3 => if x0 > 0 then ((some (([(wrap64 (48 + (Int.tmod x0 10))) % 256] : List Int) : List Int)).bind fun y272 => (if (strOfNums y272).size + x3.size ≤ 9223372036854775807 then (laws_markText.l0 k (wrap64 (Int.tdiv x0 10)) ((strOfNums y272) ++ x3)) else (none))) else (if 1 + x3.size ≤ 9223372036854775807 then (some ((⟨#[109]⟩ : ByteArray) ++ x3)) else (none))
def laws_markText.f (k : Nat) (a0 : Int) : Option (ByteArray) := if a0 ≤ 0 then (some (⟨#[109, 48]⟩ : ByteArray)) else (laws_markText.l0 k a0 (⟨#[]⟩ : ByteArray))
theorem laws_markText.mono_l : ∀ k, (∀ y0 y1, LeO (laws_markText.l0 k y0 y1) (laws_markText.l0 (k + 1) y0 y1))
 | 0 => fun _ _ r h => by simp [laws_markText.l0] at h
 | k + 1 => by
  have ih0 := laws_markText.mono_l k
  ·intro y0 y1
   unfold laws_markText.l0
   repeat' first
   | (with_reducible exact ih0 _ _)
   | (with_reducible exact LeO.refl _)
   | (with_reducible exact LeO.none _)
   | (with_reducible refine LeO.ite ?_ ?_)
   | (with_reducible refine LeO.bind ?_ (fun _ => ?_))
   | exact ih0 _ _
   | exact LeO.none _
   | refine LeO.ite ?_ ?_
   | refine LeO.bind ?_ (fun _ => ?_)
theorem laws_markText.mono : ∀ a0 k, LeO (laws_markText.f k a0) (laws_markText.f (k + 1) a0) := by
 intro a0 k
 have ih0 := laws_markText.mono_l k
 unfold laws_markText.f
 repeat' first
   | (with_reducible exact ih0 _ _)
   | (with_reducible exact LeO.refl _)
   | (with_reducible exact LeO.none _)
   | (with_reducible refine LeO.ite ?_ ?_)
   | (with_reducible refine LeO.bind ?_ (fun _ => ?_))
   | exact ih0 _ _
   | exact LeO.none _
   | refine LeO.ite ?_ ?_
   | refine LeO.bind ?_ (fun _ => ?_)
set_option maxHeartbeats 8000000 in
set_option maxRecDepth 100000 in
theorem laws_markText.calls (k : Nat) (a0 : Int) (r : ByteArray) (w : World) (h : laws_markText.f k a0 = some r) :
  Calls Try.prog 79 #[.int .i64 a0] w fun e w' => e = .returned (.string r) ∧ Below w.heap.size w w' := by
 have HB := Aside0.mk (Below.refl w.heap.size w)
 have H : (if a0 ≤ 0 then (some (⟨#[109, 48]⟩ : ByteArray)) else (laws_markText.l0 k a0 (⟨#[]⟩ : ByteArray))) = some r := h
 clear h
 by_cases c2 : a0 ≤ 0
 ·rw [if_pos c2] at H
  have c2b0 : decide (a0 ≤ 0) = true := decide_eq_true c2
  clear c2
  obtain rfl := Option.some.inj H
  go_enter Try.func79, Try.ntmps79
  go_wp2
  go_ret
  exact ⟨by first | rfl | (simp [errW_none, errW_some] <;> rfl) | (simp [*, errW_none, errW_some] <;> rfl), by repeat (first | (with_reducible first | exact HB.out | apply below_alloc | apply pw_below_drewN | apply below_drew1) | exact HB.out)⟩
 ·rw [if_neg c2] at H
  have c2b0 : decide (a0 ≤ 0) = false := decide_eq_false c2
  clear c2
  have H' := Aside0.mk H
  clear H
  go_enter Try.func79, Try.ntmps79
  go_wp2
  go_loopg [0, 3] k (fun kq v0 v3 w' => ∃ (x0_1 : Int) (x3_1 : ByteArray), v0 = .int .i64 x0_1 ∧ v3 = .string x3_1 ∧ Aside0 (laws_markText.l0 kq x0_1 x3_1 = some r) ∧ Aside0 (kq ≤ k) ∧ Aside0 (Below w.heap.size w w'))
  case atStart => exact ⟨(a0), ((⟨#[]⟩ : ByteArray)), (by first | rfl | (simp; done) | (simp [*]; done)), (by first | rfl | (simp; done) | (simp [*]; done)), H', ⟨Nat.le_refl _⟩, ⟨by repeat (first | (with_reducible first | exact HB.out | apply below_alloc | apply pw_below_drewN | apply below_drew1) | exact HB.out)⟩⟩
  case round =>
   clear H'
   try clear c2
   try clear c2b0
   try clear p2
   obtain ⟨x0_1, x3_1, rfl, rfl, HA, HK1, HB⟩ := hrel
   cases gk with
   | zero => exact absurd HA.out (by simp [laws_markText.l0])
   | succ k1 =>
    have H := HA.out
    clear HA
    simp only [laws_markText.l0] at H
    by_cases c3 : x0_1 > 0
    ·rw [if_pos c3] at H
     have c3b0 : decide (0 < x0_1) = true := decide_eq_true c3
     clear c3
     obtain ⟨y272, hy272⟩ : ∃ y_ : List Int, y_ = (([(wrap64 (48 + (Int.tmod x0_1 10))) % 256] : List Int)) := ⟨_, rfl⟩
     replace H : (if (strOfNums y272).size + x3_1.size ≤ 9223372036854775807 then (laws_markText.l0 k1 (wrap64 (Int.tdiv x0_1 10)) ((strOfNums y272) ++ x3_1)) else (none)) = some r := by first | (rw [hy272]; with_reducible exact H) | (have H2_ := (Option.bind_some _ _).symm.trans H; rw [hy272]; with_reducible exact H2_) | (have H2_ := (Option.bind_some _ _).symm.trans H; with_reducible exact H2_) | with_reducible exact H | (rw [hy272]; exact H) | exact H
     have Ny272 := Aside0.mk hy272
     clear hy272
     by_cases c4 : (strOfNums y272).size + x3_1.size ≤ 9223372036854775807
     ·rw [if_pos c4] at H
      have c4b0 := eq_true c4
      have c4b1 : decide ((strOfNums y272).size + x3_1.size ≤ 9223372036854775807) = true := decide_eq_true c4
      try have c4b2 : (9223372036854775807 < (strOfNums y272).size + x3_1.size) = False := eq_false (Nat.not_lt.2 c4)
      have H' := Aside0.mk H
      clear H
      go_wp2_with (first | ((with_reducible refine gate_dst (N := 12) rfl ?_); refine Kd.R_lit (Kd.int .u8) _ 5 ?hg (N := 12) ?hd (xs := ([(wrap64 (48 + (Int.tmod x0_1 10))) % 256] : List Int)) (inner := [.int .u8 ((wrap64 (48 + (Int.tmod x0_1 10))) % 256)]) (ok := fun _ => True) (okp := fun _ => True) ?hr ?hp (fun _ hk => hk) trivial (Below.refl _ _) (Nat.le_refl _) (by simp) ?_; (case hd => rfl); (case hg => rfl); (case hr => first | (go_simp; done) | (go_simp; rfl)); (case hp => exact (Reps.one (show Kd.M (Kd.int .u8) _ _ _ ((wrap64 (48 + (Int.tmod x0_1 10))) % 256) [.int .u8 ((wrap64 (48 + (Int.tmod x0_1 10))) % 256)] from rfl) (Reps.none _ _))); intro v273 w5 ho6 hb hg_ hnew_; clear hg_ hnew_; (first | rw [← Ny272.out] at ho6 | (simp only [Int.reduceToNat] at ho6; rw [← Ny272.out] at ho6)); have n0_ := Aside0.mk (Kd.R_lower ho6 (below_size (by repeat (first | (with_reducible first | exact HB.out | apply below_alloc | apply pw_below_drewN | apply below_drew1) | exact HB.out)))); have n1_ := Aside0.mk (below_step (by repeat (first | (with_reducible first | exact HB.out | apply below_alloc | apply pw_below_drewN | apply below_drew1) | exact HB.out)) hb); clear HB; have HO274 := n0_; have HB := n1_; clear n0_ n1_; clear hb ho6; have hcv7 := own_string (P := Try.prog) Try.underlying56 Try.underlying5 Try.underlying9 (Kd.own_of_R HO274.out)))
      go_roundg k1
      case measure => have := HK1.out; omega
      case rel => exact ⟨(wrap64 (Int.tdiv x0_1 10)), ((strOfNums y272) ++ x3_1), (by first | rfl | (simp; done) | (simp [*]; done)), (by first | rfl | (simp; done) | (simp [*]; done)), H', ⟨by have := HK1.out; omega⟩, ⟨by repeat (first | (with_reducible first | exact HB.out | apply below_alloc | apply pw_below_drewN | apply below_drew1) | exact HB.out)⟩⟩
     ·rw [if_neg c4] at H
      exact absurd H (by simp)
    ·rw [if_neg c3] at H
     have c3b0 : decide (0 < x0_1) = false := decide_eq_false c3
     clear c3
     by_cases c8 : 1 + x3_1.size ≤ 9223372036854775807
     ·rw [if_pos c8] at H
      have c8b0 := eq_true c8
      have c8b1 : decide (1 + x3_1.size ≤ 9223372036854775807) = true := decide_eq_true c8
      try have c8b2 : (9223372036854775807 < 1 + x3_1.size) = False := eq_false (Nat.not_lt.2 c8)
      obtain rfl := Option.some.inj H
      go_wp2
      go_ret
      exact ⟨by first | rfl | (simp [errW_none, errW_some] <;> rfl) | (simp [*, errW_none, errW_some] <;> rfl), by repeat (first | (with_reducible first | exact HB.out | apply below_alloc | apply pw_below_drewN | apply below_drew1) | exact HB.out)⟩
     ·rw [if_neg c8] at H
      exact absurd H (by simp)
end Go.Proofs.Ytkolhpmhbgbphaa.P
namespace Go.Proofs.Ytkolhpmhbgbphaa.P
open Go.RowKit Go.Proofs.YtkolhpmhbgbphaaW.PrintWords Go.Proofs.YtkolhpmhbgbphaaW.PrintLast Go.Proofs.YtkolhpmhbgbphaaW.PrintMore
attribute [local go_sem] max2_int min2_int max_two min_two max_three min_three max_four min_four
set_option linter.unusedVariables false
set_option linter.unusedSimpArgs false
def laws_markStringS.l0 : Nat → List ByteArray → Int → Int → Option (Int × List ByteArray)
 | 0, _, _, _ => none
 | k + 1, x0, x1, x5 => if x5 < (x0.length : Int) then ((laws_markText.f k x1).bind fun t275 => (if 0 ≤ x5 then (laws_markStringS.l0 k (x0.set (x5 : Int).toNat t275) (wrap64 (x1 + 1)) (wrap64 (x5 + 1))) else (none))) else (some (x1, x0))
def laws_markStringS.f (k : Nat) (l0 : List ByteArray) (a1 : Int) : Option (Int × List ByteArray) := laws_markStringS.l0 k l0 a1 0
theorem laws_markStringS.mono_l : ∀ k, (∀ y0 y1 y2, LeO (laws_markStringS.l0 k y0 y1 y2) (laws_markStringS.l0 (k + 1) y0 y1 y2))
 | 0 => fun _ _ _ r h => by simp [laws_markStringS.l0] at h
 | k + 1 => by
  have ih0 := laws_markStringS.mono_l k
  ·intro y0 y1 y2
   unfold laws_markStringS.l0
   repeat' first
   | (with_reducible exact ih0 _ _ _)
   | (with_reducible exact laws_markText.mono _ _)
   | (with_reducible exact LeO.refl _)
   | (with_reducible exact LeO.none _)
   | (with_reducible refine LeO.ite ?_ ?_)
   | (with_reducible refine LeO.bind ?_ (fun _ => ?_))
   | exact ih0 _ _ _
   | exact laws_markText.mono _ _
   | exact LeO.none _
   | refine LeO.ite ?_ ?_
   | refine LeO.bind ?_ (fun _ => ?_)
theorem laws_markStringS.mono : ∀ a0 a1 k, LeO (laws_markStringS.f k a0 a1) (laws_markStringS.f (k + 1) a0 a1) := by
 intro a0 a1 k
 have ih0 := laws_markStringS.mono_l k
 unfold laws_markStringS.f
 repeat' first
   | (with_reducible exact ih0 _ _ _)
   | (with_reducible exact laws_markText.mono _ _)
   | (with_reducible exact LeO.refl _)
   | (with_reducible exact LeO.none _)
   | (with_reducible refine LeO.ite ?_ ?_)
   | (with_reducible refine LeO.bind ?_ (fun _ => ?_))
   | exact ih0 _ _ _
   | exact laws_markText.mono _ _
   | exact LeO.none _
   | refine LeO.ite ?_ ?_
   | refine LeO.bind ?_ (fun _ => ?_)
set_option maxHeartbeats 8000000 in
set_option maxRecDepth 100000 in
theorem laws_markStringS.calls (k : Nat) (P0_ : Nat → Prop) (u9000_ : Value) (l0 : List ByteArray) (a1 : Int) (r1 : Int) (r2 : List ByteArray) (w0 w : World) (hB : Below w0.heap.size w0 w) (ho0 : Kd.R Kd.string 9 w w0.heap.size P0_ u9000_ l0) (h : laws_markStringS.f k l0 a1 = some (r1, r2)) :
  Calls Try.prog 28 #[u9000_, .int .i64 a1] w fun e w' => e = .returned (.int .i64 r1) ∧ Kd.R Kd.string 9 w' w0.heap.size (fun k_ => (P0_ k_ ∨ w.heap.size ≤ k_)) u9000_ r2 ∧ Below w0.heap.size w0 w' ∧ Kept w w' (fun k_ => P0_ k_) := by
 have HO0 := Aside0.mk (show Kd.R Kd.string 9 w w0.heap.size (fun k_ => (P0_ k_ ∨ w.heap.size ≤ k_)) u9000_ l0 from Kd.R_mono ho0 (fun k_ hk => (.inl hk)))
 have HK := Aside0.mk (Kept.refl w (fun k_ => P0_ k_))
 have HW0 := Aside0.mk hB.size
 have HB := Aside0.mk hB
 clear hB
 have H : (laws_markStringS.l0 k l0 a1 0) = some (r1, r2) := h
 clear h
 have H' := Aside0.mk H
 clear H
 go_enter Try.func28, Try.ntmps28
 go_wp2
 go_loopg [1, 5] k (fun kq v1 v5 w' => ∃ (x0_1 : List ByteArray) (x1_1 : Int) (x5_1 : Int), v1 = .int .i64 x1_1 ∧ v5 = .int .i64 x5_1 ∧ Aside0 (laws_markStringS.l0 kq x0_1 x1_1 x5_1 = some (r1, r2)) ∧ Aside0 (kq ≤ k) ∧ Aside0 (Kd.R Kd.string 9 w' w0.heap.size (fun k_ => (P0_ k_ ∨ w.heap.size ≤ k_)) u9000_ x0_1) ∧ Aside0 (Kept w w' (fun k_ => P0_ k_)) ∧ Aside0 (Below w0.heap.size w0 w'))
 case atStart => exact ⟨(l0), (a1), (0), (by first | rfl | (simp; done) | (simp [*]; done)), (by first | rfl | (simp; done) | (simp [*]; done)), H', ⟨Nat.le_refl _⟩, ⟨by (with_reducible repeat (first | apply Kd.R_alloc | apply Kd.R_drewN | apply Kd.R_drew)); exact HO0.out⟩, ⟨by repeat (first | (with_reducible first | exact HK.out | apply Kept.alloc | apply Kept.drewN | apply Kept.drew) | exact HK.out)⟩, ⟨by repeat (first | (with_reducible first | exact HB.out | apply below_alloc | apply pw_below_drewN | apply below_drew1) | exact HB.out)⟩⟩
 case round =>
  clear H'
  try clear c2
  try clear p2
  obtain ⟨x0_1, x1_1, x5_1, rfl, rfl, HA, HK1, HO_0, HK, HB⟩ := hrel
  cases gk with
  | zero => exact absurd HA.out (by simp [laws_markStringS.l0])
  | succ k1 =>
   have H := HA.out
   clear HA
   simp only [laws_markStringS.l0] at H
   by_cases c3 : x5_1 < (x0_1.length : Int)
   ·rw [if_pos c3] at H
    have c3b0 : decide (x5_1 < (x0_1.length : Int)) = true := decide_eq_true c3
    clear c3
    replace H := Option.bind_eq_some_iff.mp H
    obtain ⟨t275, A40, H⟩ := H
    replace H : (if 0 ≤ x5_1 then (laws_markStringS.l0 k1 (x0_1.set (x5_1 : Int).toNat t275) (wrap64 (x1_1 + 1)) (wrap64 (x5_1 + 1))) else (none)) = some (r1, r2) := H
    have A4 := Aside0.mk A40
    clear A40
    by_cases c5 : 0 ≤ x5_1
    ·rw [if_pos c5] at H
     have c5b0 : decide (0 ≤ x5_1) = true := decide_eq_true c5
     clear c5
     obtain ⟨y276, hy276⟩ : ∃ y_ : List ByteArray, y_ = (x0_1.set (x5_1 : Int).toNat t275) := ⟨_, rfl⟩
     replace H : (laws_markStringS.l0 k1 y276 (wrap64 (x1_1 + 1)) (wrap64 (x5_1 + 1))) = some (r1, r2) := by first | (rw [hy276]; with_reducible exact H) | (have H2_ := (Option.bind_some _ _).symm.trans H; rw [hy276]; with_reducible exact H2_) | (have H2_ := (Option.bind_some _ _).symm.trans H; with_reducible exact H2_) | with_reducible exact H | (rw [hy276]; exact H) | exact H
     have Ny276 := Aside0.mk hy276
     clear hy276
     have H' := Aside0.mk H
     clear H
     obtain ⟨Ao7, co7, eo7⟩ := Kd.R_slice HO_0.out
     subst eo7
     go_wp2_with (first | ((with_reducible refine gate_callee (f := 79) rfl ?_); refine goesL_ (some 15) rfl rfl Try.func79 (by kernel_rfl) rfl #[.int .i64 x1_1] rfl (by (try simp only [List.map_toArray, List.map_cons, List.map_nil]); first | done | rfl | (simp only [List.length_drop, List.length_take]; rfl)) ?_; (with_reducible refine (laws_markText.calls k1 x1_1 t275 _ A4.out).mono ?_); rintro e w8 ⟨rfl, hb⟩; refine ⟨_, rfl, ?_⟩; have n0_ := Aside0.mk (Kd.R_below (by (with_reducible repeat (first | apply Kd.R_alloc | apply Kd.R_drewN | apply Kd.R_drew)); exact HO_0.out) hb); have n1_ := Aside0.mk (Kept.below (S := (fun k_ => P0_ k_)) (by repeat (first | (with_reducible first | exact HK.out | apply Kept.alloc | apply Kept.drewN | apply Kept.drew) | exact HK.out)) hb); have n2_ := Aside0.mk (below_step (by repeat (first | (with_reducible first | exact HB.out | apply below_alloc | apply pw_below_drewN | apply below_drew1) | exact HB.out)) hb); clear HO_0; clear HK; clear HB; have HO_0 := n0_; have HK := n1_; have HB := n2_; clear n0_ n1_ n2_; (try clear hb); (try clear hb2); (try clear hk); (try clear hi); have p6 : 0 ≤ (x5_1 : Int) := of_decide_eq_true (by first | (with_reducible assumption) | assumption); have q6 : (x5_1 : Int) < ((x0_1.length : Int) : Int) := of_decide_eq_true (by first | (with_reducible assumption) | assumption); obtain ⟨go6, co6, eo6, gb6, gl6, cl6, HG6⟩ := Kd.R_form HO_0.out (by omega); (first | cases eo6 | (injection eo6 with ea_ en_ ec_; (first | subst ea_ | (injection ea_ with ea_; subst ea_)); subst ec_; clear en_)); have GB6 := Aside0.mk gb6; have GG6 := Aside0.mk HG6; clear gb6 gl6 HG6; have HMgo6 := Aside0.mk (show (P0_ go6 ∨ w.heap.size ≤ go6) from (HO_0.out.1 _ rfl)); obtain ⟨hx6_0, hf6_0⟩ := Kd.R_celln (⟨#[]⟩ : ByteArray) HO_0.out (x5_1 : Int) p6 q6; replace p6 := eq_true p6; replace q6 := eq_true q6; obtain ⟨hy9_, hz9_⟩ := Kd.R_celln (⟨#[]⟩ : ByteArray) HO_0.out (x5_1 : Int) (of_decide_eq_true (by first | (with_reducible assumption) | assumption)) (of_decide_eq_true (by first | (with_reducible assumption) | assumption)); have HP9 := Kd.R_putg HO_0.out (x5_1 : Int) t275) | ((with_reducible refine gate_store (t := 9) (p := 16) rfl ?_); refine store_event (t := 9) (p := 16) (v := ?vo_w10) (w1 := (w8.setCell ⟨go6, (x5_1 : Int).toNat, none⟩ (.string t275))) ?hg ?ho ?hn ?hr ?_; (case ho => rfl); (case hg => rfl); (case hn => rfl); (case hr => first | (go_simp; done) | (go_simp; rfl) | ((try (obtain ⟨_, _, e_⟩ := Kd.R_slice HO_0.out; rw [e_])); (try (obtain ⟨_, _, e_⟩ := Kd.S_slice HO_0.out; rw [e_])); (try (obtain ⟨_, _, e_⟩ := Kd.N_slice HO_0.out; rw [e_])); (try (obtain ⟨_, _, e_⟩ := Kd.V_slice HO_0.out; rw [e_])); go_simp; first | done | rfl)); intro w10 hw; have hg : w8.grownBy w10 (some go6) := (by rw [hw]; exact HP9.2); have hp_ : Kd.R Kd.string 9 w10 w0.heap.size (fun k_ => (P0_ k_ ∨ w.heap.size ≤ k_)) (.slice (some ⟨go6, 0, none⟩) x0_1.length co7) y276 := (by rw [hw, Ny276.out]; exact HP9.1); clear HP9; have n0_ := Aside0.mk (hp_); have n1_ := Aside0.mk ((by rw [hw]; exact below_set (HB.out) GB6.out : Below w0.heap.size w0 w10)); have n2_ := Aside0.mk (Kept.of_grown (S := (fun k_ => P0_ k_)) hg (by repeat (first | (with_reducible first | exact HK.out | apply Kept.alloc | apply Kept.drewN | apply Kept.drew) | exact HK.out)) (fun k_ e_ => (HO_0.out.1 k_ e_))); clear HO_0; clear HB; clear HK; have HO_0 := n0_; have HB := n1_; have HK := n2_; clear n0_ n1_ n2_; clear hg hw hp_))
     go_roundg k1
     case measure => have := HK1.out; omega
     case rel => exact ⟨(y276), (wrap64 (x1_1 + 1)), (wrap64 (x5_1 + 1)), (by first | rfl | (simp; done) | (simp [*]; done)), (by first | rfl | (simp; done) | (simp [*]; done)), H', ⟨by have := HK1.out; omega⟩, ⟨by (with_reducible repeat (first | apply Kd.R_alloc | apply Kd.R_drewN | apply Kd.R_drew)); exact HO_0.out⟩, ⟨by repeat (first | (with_reducible first | exact HK.out | apply Kept.alloc | apply Kept.drewN | apply Kept.drew) | exact HK.out)⟩, ⟨by repeat (first | (with_reducible first | exact HB.out | apply below_alloc | apply pw_below_drewN | apply below_drew1) | exact HB.out)⟩⟩
    ·rw [if_neg c5] at H
     exact absurd H (by simp)
   ·rw [if_neg c3] at H
    have c3b0 : decide (x5_1 < (x0_1.length : Int)) = false := decide_eq_false c3
    clear c3
    simp only [Option.some.injEq, Prod.mk.injEq] at H
    obtain ⟨rfl, rfl⟩ := H
    obtain ⟨Ao11, co11, eo11⟩ := Kd.R_slice HO_0.out
    subst eo11
    go_wp2
    go_ret
    exact ⟨by first | rfl | (simp [errW_none, errW_some] <;> rfl) | (simp [*, errW_none, errW_some] <;> rfl), by (with_reducible repeat (first | apply Kd.R_alloc | apply Kd.R_drewN | apply Kd.R_drew)); exact HO_0.out, by repeat (first | (with_reducible first | exact HB.out | apply below_alloc | apply pw_below_drewN | apply below_drew1) | exact HB.out), by repeat (first | (with_reducible first | exact HK.out | apply Kept.alloc | apply Kept.drewN | apply Kept.drew) | exact HK.out)⟩
end Go.Proofs.Ytkolhpmhbgbphaa.P
