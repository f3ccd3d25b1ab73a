/-
  The law FnExactPrintQuery answers true at every argument.
-/
import Derived.Test.YtjlglimikbfgmaaDoorRows
import Derived.Test.YtjlglimikbfgmaaDoorTie
import Derived.Test.YtjlglimikbfgmaaDoorCards
import Derived.Test.YtjlglimikbfgmaaDoorKPrintQuery1
import Derived.Test.YtjlglimikbfgmaaDoorKPrintQuery6
import Derived.Test.YtjlglimikbfgmaaDoorKPrintQuery8
import Derived.Deep.RegionHeld3
import Derived.WalkKit
import Derived.LaidMore
import Derived.MakeChecks
import Derived.Stop.Joined
import Derived.ChangeVars
import Derived.SevenTiedAt
import Derived.ProofKit
import Derived.OpenShut
import Derived.ShutString
import Derived.ChangeOld
import Derived.Below
import Derived.SizedLaws
import Derived.Lib.SmallJoins
namespace Go.Proofs.YtjlglimikbfgmaaDoor.PT
open Go.RowKit Go.Proofs.YtjlglimikbfgmaaDoor.P Go.Proofs.YtjlglimikbfgmaaDoorW.PrintWords Go.Proofs.YtjlglimikbfgmaaDoorW.PrintLast Go.Proofs.YtjlglimikbfgmaaDoor.EvKit
set_option linter.unusedVariables false
set_option linter.unusedSimpArgs false
theorem addr_of {w : World} {a : Addr} {v : Value} (h : w.cell? a = some v) : a = ⟨a.block, a.off, none⟩ := by
  obtain ⟨b, o, s⟩ := a
  cases s with
  | none => rfl
  | some s =>
    unfold World.cell? at h
    split at h
    · simp at h
    · cases h
theorem addr_add (b o j : Nat) : (⟨b, o, none⟩ : Addr).add j = ⟨b, o + j, none⟩ := by
  unfold Addr.add
  split
  · rename_i h; subst h; rfl
  · rfl
theorem below_grow (w : World) (k : Nat) (os : Array Obj) : Below w.heap.size w (Sort.grow (w.drewN k) os) :=
  ⟨rfl, rfl, rfl, by show w.heap.size ≤ (w.heap ++ os).size; rw [Array.size_append]; omega, fun j hj => by show (w.heap ++ os)[j]? = _; exact Array.getElem?_append_left hj⟩
theorem join_walk (A : Option Addr) (c : Nat) (l : List ByteArray) (w : World) (hr : Kd.C Kd.string w A l.length l) (hc : l.length ≤ c) (hl : l.length ≤ 1048576) (hs : (jn (l.map bl)).length ≤ 33554463) :
    Calls Tryd.prog 40 #[.slice A l.length c, .string ⟨#[44, 32]⟩] w fun e w' => e = .returned (.string (ba (jn (l.map bl)))) ∧ Below w.heap.size w w' := by
  cases l with
  | nil =>
    refine (Tryd.strings_Join_none A c ⟨#[44, 32]⟩ w).mono ?_
    rintro e w' ⟨rfl, rfl⟩
    exact ⟨rfl, Below.refl _ _⟩
  | cons x r =>
    obtain ⟨ad, rfl, h0⟩ := Kd.at_string hr 0 (by omega) (by simp)
    have h0' : w.cell? ad = some (.string (rdOf ByteArray.empty (x :: r) 0)) := by simpa [Addr.add] using h0
    have e := addr_of h0'
    obtain ⟨b, o, s⟩ := ad
    simp only [Addr.mk.injEq] at e
    obtain ⟨_, _, rfl⟩ := e
    refine (Tryd.strings_Join b o c (x :: r) ⟨#[44, 32]⟩ w ?_ (World.block_lt_of_cell? w _ h0') (by omega) hc ?_).mono ?_
    · intro j y hy
      have hj : j < (x :: r).length := (List.getElem?_eq_some_iff.1 hy).1
      obtain ⟨ad, e, h1⟩ := Kd.at_string hr (j : Int) (by omega) (by omega)
      cases e
      rw [rdOf_at hj, (List.getElem?_eq_some_iff.1 hy).2] at h1
      have h2 : ((j : Int)).toNat = j := by omega
      rw [h2, addr_add] at h1
      exact h1
    · exact Nat.le_trans hs (by omega)
    · rintro e w' ⟨rfl, hb⟩
      exact ⟨rfl, hb⟩
set_option maxHeartbeats 4000000 in
set_option maxRecDepth 100000 in
theorem termString_walk (t0 : ByteArray) (t1 : Int) (w : World) (hp : Pow10 w) (h0 : -9223372036854775808 ≤ t1) (h1 : t1 ≤ 9223372036854775807) :
    Calls Tryd.prog 41 #[.agg #[.string t0, .int .i64 t1]] w fun e w' => e = .returned (.string (ba (termT ⟨t0, t1⟩))) ∧ Below w.heap.size w w' := by
  have hu := Tryd.underlying78
  have HP := Aside0.mk (fun W (hW : Below w.heap.size w W) => Tryd.strconv_Itoa t1 h0 h1 W (hp.below hW))
  have HB := Aside0.mk (Below.refl w.heap.size w)
  clear hp h0 h1
  by_cases hq : t0.size = 0
  · have e0 := (toList_nil t0).2 hq
    have e1 : (t0.toList != ([] : List UInt8)) = false := by rw [e0]; rfl
    have e2 : t0.toList.isEmpty = true := by rw [e0]; rfl
    have H : Aside0 (ba (termT ⟨t0, t1⟩) = ⟨(Lib.itoa t1).toArray⟩) := ⟨by unfold termT; rw [if_pos hq]; rfl⟩
    clear e0 hq
    go_enter Tryd.func41, Tryd.ntmps41
    go_wp2_with (first | (go_at_call 59; refine (HP.out _ (below_alloc HB.out _)).mono ?_; rintro e w1 ⟨rfl, ⟨k, os, hw1⟩⟩))
    go_ret
    refine ⟨by rw [H.out]; rfl, ?_⟩
    subst hw1
    exact below_step (below_alloc HB.out _) (below_grow _ _ _)
  · have e0 : t0.toList ≠ [] := fun h => hq ((toList_nil t0).1 h)
    have e1 : (t0.toList != ([] : List UInt8)) = true := bne_iff_ne.mpr e0
    have e2 : t0.toList.isEmpty = false := by simpa using e0
    have H : Aside0 (ba (termT ⟨t0, t1⟩) = t0) := ⟨by unfold termT; rw [if_neg hq, ba_bl]⟩
    clear e0 hq
    go_enter Tryd.func41, Tryd.ntmps41
    go_wp2
    go_ret
    exact ⟨by rw [H.out]; rfl, below_alloc HB.out _⟩
abbrev BT (b : Nat) (t : List UInt8) (W : World) : Prop := BldU b b (Lib.byteCells t) W
theorem ws_walk (b : Nat) (t : List UInt8) (s : ByteArray) (W : World) (h : Bld b b (Lib.byteCells t) W) (hlen : t.length + s.size ≤ 140737488355328) (hW : b ≤ W.heap.size) :
    Calls Tryd.prog 39 #[.pointer (some ⟨b, 0, none⟩), .string s] W fun e w' => e = .returned (.tuple #[.int .i64 s.size, .nilIface]) ∧ BT b (t ++ bl s) w' ∧ Below b W w' ∧ Keep b W w' := by
  refine (writeString_walk b b (Lib.byteCells t) s W h (by rw [Lib.byteCells_length]; exact hlen) hW).mono ?_
  rintro e w' ⟨rfl, h1, h2, h3⟩
  refine ⟨rfl, ?_, h2, h3⟩
  show BldU b b (Lib.byteCells (t ++ bl s)) w'
  rw [Lib.byteCells_append]
  exact h1
theorem bldAt_below {B b : Nat} {p : Value} {bs : List Value} {W W' : World} (h : Lib.BuilderAt 61 5 B b p bs W) (hb : Below W.heap.size W W') : Lib.BuilderAt 61 5 B b p bs W' := by
  have hlt := h.lt
  obtain ⟨h1, v, h2, h3, h4⟩ := h
  exact ⟨h1, v, (hb.block b hlt).trans h2, pw_own_below h3 hb, h4⟩
theorem fresh_at (w : World) : Lib.BuilderAt 61 5 w.heap.size w.heap.size (.pointer none) [] (w.alloc (.cells #[.pointer none, .slice none 0 0] 61)) := by
  rcases Lib.fresh_isBuilder 61 5 w with h | h
  · exact h
  · exact absurd h.cell0 (by simp)
theorem at_new (W : World) (o : Obj) : (W.alloc o).heap[W.heap.size]? = some o := by
  have : (W.alloc o).heap = W.heap.push o := rfl
  rw [this]; simp
theorem below_le {B C : Nat} {W W' : World} (h : Below C W W') (hle : B ≤ C) : Below B W W' := ⟨h.os, h.tape, h.output, h.size, fun k hk => h.block k (by omega)⟩
def Q4 (W : World) (n : Nat) (b c d e : Value) : Prop := W.cell? ⟨n, 0, none⟩ = some b ∧ W.cell? ⟨n, 1, none⟩ = some c ∧ W.cell? ⟨n, 2, none⟩ = some d ∧ W.cell? ⟨n, 3, none⟩ = some e
theorem Q4.on {W W' : World} {n B : Nat} {b c d e : Value} (h : Q4 W n b c d e) (hb : Below B W W') (hn : n < B) : Q4 W' n b c d e := ⟨(hb.cell (p := ⟨n, 0, none⟩) hn).trans h.1, (hb.cell (p := ⟨n, 1, none⟩) hn).trans h.2.1, (hb.cell (p := ⟨n, 2, none⟩) hn).trans h.2.2.1, (hb.cell (p := ⟨n, 3, none⟩) hn).trans h.2.2.2⟩
theorem ring_cell {w : World} (h : Rings w) (r : Int) (h0 : 0 < r) (h3 : r ≤ 3) : w.cell? ⟨0, r.toNat, none⟩ = some (.string (ba (ringT r))) := by
  have : r = 1 ∨ r = 2 ∨ r = 3 := by omega
  rcases this with rfl | rfl | rfl
  · exact h.2.1
  · exact h.2.2.1
  · exact h.2.2.2
theorem bl_of {s : ByteArray} {l : List UInt8} (h : s = ba l) : bl s = l := by rw [h, bl_ba]
set_option maxHeartbeats 8000000 in
set_option maxRecDepth 100000 in
theorem printQ_walk (a1 : ByteArray) (A1 : Option Addr) (c1 : Nat) (hd : List ByteArray) (a2 : Int) (A3 : Option Addr) (c3 : Nat) (ats : List At) (w : World) (hr1 : Kd.C Kd.string w A1 hd.length hd) (hc1 : hd.length ≤ c1) (hr3 : Kd.C k76 w A3 ats.length ats) (hc3 : ats.length ≤ c3)
    (hS : ∃ k, impl_Query_shape.f k a1 hd a2 ats = some (shapeB a1 hd a2 ats)) (hp : Pow10 w) (hg : Rings w) (hh : hd.length ≤ 1048576) (hl : ats.length ≤ 1048576) (hts : ∀ a, a ∈ ats → a.f1.length ≤ 1048576) :
    Calls Tryd.prog 14 #[.agg #[.string a1, .slice A1 hd.length c1, .int .i64 a2, .slice A3 ats.length c3]] w fun e w' => e = .returned (.string (printQ a1 hd a2 ats)) ∧ Below w.heap.size w w' := by
  have hu1 := Tryd.underlying41
  have hu2 := Tryd.underlying76
  have hu3 := Tryd.underlying78
  have hu4 := Tryd.underlying61
  obtain ⟨kS, hS⟩ := hS
  have HB := Aside0.mk (Below.refl w.heap.size w)
  have HS : Aside0 (∀ W, Below w.heap.size w W → Calls Tryd.prog 38 #[.agg #[.string a1, .slice A1 hd.length c1, .int .i64 a2, .slice A3 ats.length c3]] W fun e W' => e = .returned (.bool (shapeB a1 hd a2 ats)) ∧ Below W.heap.size W W') := ⟨fun W hW => impl_Query_shape.calls kS a1 A1 c1 hd a2 A3 c3 ats _ W (Kd.C_below hr1 hW) hc1 (Kd.C_below hr3 hW) hc3 hS⟩
  by_cases h : shapeB a1 hd a2 ats = true
  · have HG : Aside0 (printQ a1 hd a2 ats = ba ((frontT a1 hd ++ ringT2 a2) ++ [41, 32, 58, 45, 32] ++ jn (ats.map atomT) ++ [46])) := ⟨by unfold printQ; rw [if_pos h]; unfold queryT; simp only [List.append_assoc]⟩
    have HR3 := Aside0.mk hr3
    have HP0 := Aside0.mk hp
    obtain ⟨h0, h1, h2, h3⟩ := shape_parts h
    have hfl := frontT_len h0 h1 hh
    have hjl : (jn (hd.map bl)).length ≤ 33554463 := by unfold frontT at hfl; simp only [List.length_append, List.length_cons, List.length_nil] at hfl; omega
    obtain ⟨J, hJ⟩ : ∃ J, J = ba (jn (hd.map bl)) := ⟨_, rfl⟩
    have HJ : Aside0 (∀ W, Below w.heap.size w W → Calls Tryd.prog 40 #[.slice A1 hd.length c1, .string ⟨#[44, 32]⟩] W fun e w' => e = .returned (.string J) ∧ Below W.heap.size W w') := ⟨fun W hW => by rw [hJ]; exact join_walk A1 c1 hd W (Kd.C_below hr1 hW) hc1 hh hjl⟩
    have HF : Aside0 (a1 ++ ⟨#[40]⟩ ++ J = ba (frontT a1 hd)) := ⟨by
      rw [hJ]
      unfold frontT
      conv => lhs; rw [← ba_bl a1]
      rw [show (⟨#[40]⟩ : ByteArray) = ba [40] from rfl]
      simp only [ba_append, List.append_assoc]⟩
    have HFL := Aside0.mk hfl
    have hJs : J.size ≤ 33554463 := by rw [hJ, ba_size]; exact hjl
    have s1 : (9223372036854775807 < a1.size + 1) = False := eq_false (by omega)
    have s2 : (9223372036854775807 < a1.size + 1 + J.size) = False := eq_false (by omega)
    rw [h] at HS
    clear h h0 hjl hJ hJs hfl
    go_enter Tryd.func14, Tryd.ntmps14
    go_wp2_with (first | (go_at_call 38; (with_reducible refine (HS.out _ (below_alloc HB.out _)).mono ?_); rintro e w1 ⟨rfl, hb1⟩; have HB1 : Aside0 (Below w.heap.size w w1) := ⟨below_step (below_alloc HB.out _) hb1⟩; have HQ1 : Aside0 (Q4 w1 w.heap.size (.string a1) (.slice A1 hd.length c1) (.int .i64 a2) (.slice A3 ats.length c3)) := ⟨Q4.on ⟨by go_simp, by go_simp, by go_simp, by go_simp⟩ hb1 (by simp)⟩; have HZ : Aside0 (w.heap.size < w1.heap.size) := ⟨by have := hb1.size; simp at this; omega⟩; clear hb1))
    go_region_held3 (fun w' => w'.cell? ⟨w.heap.size, 0, none⟩ = some (.string a1) ∧ w'.cell? ⟨w.heap.size, 1, none⟩ = some (.slice A1 hd.length c1) ∧ w'.cell? ⟨w.heap.size, 2, none⟩ = some (.int .i64 a2) ∧ w'.cell? ⟨w.heap.size, 3, none⟩ = some (.slice A3 ats.length c3)) (first | exact HQ3.out | exact HQ2.out | exact HQ1.out.on (below_drew1 (below_alloc (Below.refl _ _) _)) HZ.out) (first | (go_at_call 40; refine (HJ.out _ (below_drew1 (below_alloc HB1.out _))).mono ?_; rintro e w2 ⟨rfl, hb2⟩; have HB2 : Aside0 (Below w.heap.size w w2) := ⟨below_step (below_drew1 (below_alloc HB1.out _)) hb2⟩; have HQ2 : Aside0 (Q4 w2 w.heap.size (.string a1) (.slice A1 hd.length c1) (.int .i64 a2) (.slice A3 ats.length c3)) := ⟨HQ1.out.on (below_step (below_drew1 (below_alloc (Below.refl _ _) _)) hb2) HZ.out⟩; have HW2 : Aside0 (Bld w1.heap.size w1.heap.size (Lib.byteCells []) w2) := ⟨.inl (bldAt_below (p := .pointer none) (W := (w1.alloc (.cells #[.pointer none, .slice none 0 0] 61)).drew) (fresh_at w1) hb2)⟩; have HS2 : Aside0 (w1.heap.size ≤ w2.heap.size) := ⟨by have := hb2.size; simp at this; omega⟩; clear hb2) | (go_at_call 39; refine (ws_walk w1.heap.size [] _ _ HW2.out (by rw [HF.out, ba_size]; have := HFL.out; simp; omega) HS2.out).mono ?_; rintro e w3 ⟨rfl, ht3, hb3, hk3⟩; have HB3 : Aside0 (Below w.heap.size w w3) := ⟨HB2.out.trans (below_le hb3 (by have := HZ.out; omega))⟩; have HQ3 : Aside0 (Q4 w3 w.heap.size (.string a1) (.slice A1 hd.length c1) (.int .i64 a2) (.slice A3 ats.length c3)) := ⟨HQ2.out.on hb3 HZ.out⟩; have HT3 : Aside0 (BT w1.heap.size (frontT a1 hd) w3) := ⟨by rw [List.nil_append, bl_of HF.out] at ht3; exact ht3⟩; have HS3 : Aside0 (w1.heap.size ≤ w3.heap.size) := ⟨by have := hb3.size; have := HS2.out; omega⟩; clear ht3 hb3 hk3))
    have HB3' := HB3.out
    obtain ⟨q0, q1, q2, q3⟩ := HQ3.out
    clear HJ HS
    go_upto_if 21 with (fail)
    go_cut [3] (fun v3 wc => v3 = .pointer (some ⟨w1.heap.size, 0, none⟩) ∧ Aside0 (BT w1.heap.size (frontT a1 hd ++ ringT2 a2) wc) ∧ Aside0 (Q4 wc w.heap.size (.string a1) (.slice A1 hd.length c1) (.int .i64 a2) (.slice A3 ats.length c3)) ∧ Aside0 (Below w.heap.size w wc) ∧ Aside0 (w1.heap.size ≤ wc.heap.size))
    case first =>
      by_cases hr : 0 < a2
      · have e1 : decide (0 < a2) = true := decide_eq_true hr
        obtain ⟨X, hX⟩ : ∃ X, X = ba (ringT a2) := ⟨_, rfl⟩
        have hcell : w3.cell? ⟨0, a2.toNat, none⟩ = some (.string X) := by rw [hX]; exact ring_cell (hg.below HB3.out) a2 hr (h2.2)
        have HR : Aside0 (bl (⟨#[59, 32]⟩ ++ X) = ringT2 a2) := ⟨by rw [hX]; unfold ringT2; rw [if_pos hr]; rfl⟩
        have hXs : X.size ≤ 5 := by rw [hX, ba_size]; exact ringT_len a2
        have s3 : (9223372036854775807 < 2 + X.size) = False := eq_false (by omega)
        have r0 : 0 ≤ a2 := by omega
        have r4 : a2 < 4 := by omega
        have HXs : Aside0 ((⟨#[59, 32]⟩ ++ X : ByteArray).size ≤ 7) := ⟨by rw [ByteArray.size_append]; have : (⟨#[59, 32]⟩ : ByteArray).size = 2 := rfl; omega⟩
        clear hX hXs
        go_wp2_with (first | (go_at_call 39; refine (ws_walk w1.heap.size (frontT a1 hd) _ _ (.inr HT3.out) (by have := HFL.out; have := HXs.out; omega) HS3.out).mono ?_; rintro e w4 ⟨rfl, ht4, hb4, hk4⟩))
        go_meet
        case rel => exact ⟨rfl, ⟨by rw [HR.out] at ht4; exact ht4⟩, ⟨HQ3.out.on hb4 HZ.out⟩, ⟨HB3.out.trans (below_le hb4 (by have := HZ.out; omega))⟩, ⟨by have := hb4.size; have := HS3.out; omega⟩⟩
      · have e1 : decide (0 < a2) = false := decide_eq_false hr
        have HR : Aside0 (ringT2 a2 = []) := ⟨by unfold ringT2; rw [if_neg hr]⟩
        go_wp2
        go_meet
        case rel => exact ⟨rfl, ⟨by rw [HR.out, List.append_nil]; exact HT3.out⟩, HQ3, HB3, HS3⟩
    case rest =>
      obtain ⟨rfl, HT, HQ, HB4, HS4⟩ := hcut
      obtain ⟨W4, hW4⟩ : ∃ W4, W4 = wc := ⟨_, rfl⟩
      subst hW4
      clear HB3' q0 q1 q2 q3
      obtain ⟨q0, q1, q2, q3⟩ := HQ.out
      have HFT : Aside0 ((frontT a1 hd ++ ringT2 a2).length ≤ 33554470) := ⟨by have := HFL.out; have := ringT2_len a2; rw [List.length_append]; omega⟩
      generalize frontT a1 hd ++ ringT2 a2 = F at *
      go_wp2_with (first | (go_at_call 39; refine (ws_walk w1.heap.size F _ _ (.inr HT.out) (by have := HFT.out; show F.length + 5 ≤ _; omega) HS4.out).mono ?_; rintro e w5 ⟨rfl, ht5, hb5, hk5⟩; have HT5 : Aside0 (BT w1.heap.size (F ++ [41, 32, 58, 45, 32]) w5) := ⟨ht5⟩; have HQ5 : Aside0 (Q4 w5 w.heap.size (.string a1) (.slice A1 hd.length c1) (.int .i64 a2) (.slice A3 ats.length c3)) := ⟨HQ.out.on hb5 HZ.out⟩; have HB5 : Aside0 (Below w.heap.size w w5) := ⟨HB4.out.trans (below_le hb5 (by have := HZ.out; omega))⟩; have HS5 : Aside0 (w1.heap.size ≤ w5.heap.size) := ⟨by have := hb5.size; have := HS4.out; omega⟩; clear ht5 hb5 hk5 q0 q1 q2 q3; obtain ⟨q0, q1, q2, q3⟩ := HQ5.out))
      go_loopw [32] (fun i wr => ∃ x : Int, i = .int .i64 x ∧ 0 ≤ x ∧ x ≤ (ats.length : Int) ∧ Aside0 (BT w1.heap.size (F ++ [41, 32, 58, 45, 32] ++ jn ((ats.take x.toNat).map atomT)) wr) ∧ Aside0 (Below w.heap.size w wr) ∧ Aside0 (w1.heap.size ≤ wr.heap.size)) (fun i _ => ats.length - (intOf i).toNat)
      case atStart => exact ⟨0, rfl, by omega, by omega, ⟨by simpa [jn_nil] using HT5.out⟩, HB5, HS5⟩
      case round =>
        clear HT HQ HB4 HS4 HT5 HQ5 HB5 HS5 q0 q1 q2 q3 HQ1 HB1 HF s1 s2 HT3 HQ3 HB3 HS3 HB2 HQ2 HW2 HS2
        obtain ⟨x, rfl, h0, hle, HT6, HB6, HS6⟩ := hrel
        obtain ⟨W6, hW6⟩ : ∃ W6, W6 = wr := ⟨_, rfl⟩
        subst hW6
        obtain ⟨T, hT⟩ : ∃ T, T = F ++ [41, 32, 58, 45, 32] ++ jn ((ats.take x.toNat).map atomT) := ⟨_, rfl⟩
        have HL6 : Aside0 (T.length ≤ 33554475 + x.toNat * 33554466) := ⟨by
          have h5 := jn_take_len atomT ats 33554464 (fun t ht => atomT_len (h3 t ht) (hts t ht)) x.toNat (by omega)
          have h6 := HFT.out
          rw [hT]; simp only [List.length_append, List.length_cons, List.length_nil]; omega⟩
        rw [← hT] at HT6
        by_cases hlt : x < (ats.length : Int)
        · obtain ⟨ad, A5, c5, e, hx0, hx1, hl5, hi5⟩ := at_T76 HR3.out x h0 hlt
          cases e
          have hn : x.toNat < ats.length := by omega
          have hrd : rd_T76 ats x = ats[x.toNat] := by unfold rd_T76; simp [List.getD_eq_getElem?_getD, hn]
          have HE : Aside0 (F ++ [41, 32, 58, 45, 32] ++ jn ((ats.take (x + 1).toNat).map atomT) = T ++ ((if x.toNat = 0 then [] else [44, 32]) ++ atomT (rd_T76 ats x))) := ⟨by
            rw [hrd, show (x + 1).toNat = x.toNat + 1 by omega, jn_take atomT ats x.toNat hn, hT]; simp only [List.append_assoc]⟩
          have hA : atomB (rd_T76 ats x) = true := by rw [hrd]; exact h3 _ (List.getElem_mem hn)
          have hTl : (rd_T76 ats x).f1.length ≤ 1048576 := by rw [hrd]; exact hts _ (List.getElem_mem hn)
          clear hrd hT
          replace hx0 := (HB6.out.cell (World.block_lt_of_cell? w _ hx0)).trans hx0
          replace hx1 := (HB6.out.cell (World.block_lt_of_cell? w _ hx1)).trans hx1
          have HR5 := Aside0.mk hi5
          have hlen5 := hi5.2.1
          clear hi5
          generalize rd_T76 ats x = q at *
          obtain ⟨b0, ts⟩ := q
          dsimp only at *
          unfold atomB at hA
          simp only [Bool.and_eq_true, decide_eq_true_eq, List.all_eq_true] at hA
          have hb0 := (nameb_len hA.1.1).2
          have HTB := Aside0.mk hA.2
          have HTL : Aside0 (T.length ≤ 36000000000000) := ⟨by have := HL6.out; omega⟩
          clear hA
          have s4 : (9223372036854775807 < b0.size + 1) = False := eq_false (by omega)
          go_upto_if 38 with (fail)
          go_cut [3] (fun v3 wc => v3 = .pointer (some ⟨w1.heap.size, 0, none⟩) ∧ Aside0 (BT w1.heap.size (T ++ (if x.toNat = 0 then [] else [44, 32])) wc) ∧ Aside0 (wc.heap[W6.heap.size]? = some (.cells #[.string b0, .slice A5 ts.length c5] 76 (0, 0))) ∧ Aside0 (Below w.heap.size w wc) ∧ Aside0 (w1.heap.size ≤ wc.heap.size))
          case first =>
            by_cases hx : 0 < x
            · have e1 : decide (0 < x) = true := decide_eq_true hx
              have HSp : Aside0 ((if x.toNat = 0 then [] else [44, 32] : List UInt8) = [44, 32]) := ⟨if_neg (by omega)⟩
              go_wp2_with (first | (go_at_call 39; refine (ws_walk w1.heap.size T _ _ (.inr (bldU_below HT6.out (below_alloc (Below.refl _ _) _))) (by have := HTL.out; show T.length + 2 ≤ _; omega) (by have := HS6.out; simp; omega)).mono ?_; rintro e w7 ⟨rfl, ht7, hb7, hk7⟩))
              go_meet
              case rel => exact ⟨rfl, ⟨by rw [HSp.out]; exact ht7⟩, ⟨hk7 _ _ _ _ (by have := HT6.out.lt; omega) (by decide) (at_new _ _)⟩, ⟨(below_alloc HB6.out _).trans (below_le hb7 (by have := HZ.out; omega))⟩, ⟨by have h9 := hb7.size; have h8 := HS6.out; simp at h9; omega⟩⟩
            · have e1 : decide (0 < x) = false := decide_eq_false hx
              have HSp : Aside0 ((if x.toNat = 0 then [] else [44, 32] : List UInt8) = []) := ⟨if_pos (by omega)⟩
              go_wp2
              go_meet
              case rel => exact ⟨rfl, ⟨by rw [HSp.out, List.append_nil]; exact bldU_below HT6.out (below_alloc (Below.refl _ _) _)⟩, ⟨at_new _ _⟩, ⟨below_alloc HB6.out _⟩, ⟨by have := HS6.out; simp; omega⟩⟩
          case rest =>
            obtain ⟨rfl, HT7, HK7, HB7, HS7⟩ := hcut
            obtain ⟨W7, hW7⟩ : ∃ W7, W7 = wc := ⟨_, rfl⟩
            subst hW7
            have HZ7 : Aside0 (W6.heap.size ≠ w1.heap.size) := ⟨by have := HT6.out.lt; omega⟩
            clear hx0 hx1 HT6 HB6 HS6
            have HLS : Aside0 ((T ++ (if x.toNat = 0 then [] else [44, 32])).length ≤ 36000000000002) := ⟨by have := HTL.out; rw [List.length_append]; split <;> simp <;> omega⟩
            rw [← List.append_assoc] at HE
            generalize T ++ (if x.toNat = 0 then [] else [44, 32]) = U at *
            have p0 : W7.cell? ⟨W6.heap.size, 0, none⟩ = some (.string b0) := by rw [Lib.cell_of_heap HK7.out]; rfl
            have p1 : W7.cell? ⟨W6.heap.size, 1, none⟩ = some (.slice A5 ts.length c5) := by rw [Lib.cell_of_heap HK7.out]; rfl
            have HBs : Aside0 ((b0 ++ ⟨#[40]⟩ : ByteArray).size ≤ 31) := ⟨by rw [ByteArray.size_append]; have : (⟨#[40]⟩ : ByteArray).size = 1 := rfl; omega⟩
            have HBl : Aside0 (bl (b0 ++ ⟨#[40]⟩) = bl b0 ++ [40]) := ⟨by rw [bl_append]; rfl⟩
            go_wp2_with (first | (go_at_call 39; refine (ws_walk w1.heap.size U _ _ (.inr HT7.out) (by have := HLS.out; have := HBs.out; omega) HS7.out).mono ?_; rintro e w8 ⟨rfl, ht8, hb8, hk8⟩; have HT8 : Aside0 (BT w1.heap.size (U ++ (bl b0 ++ [40])) w8) := ⟨by rw [HBl.out] at ht8; exact ht8⟩; have HK8 := Aside0.mk (hk8 _ _ _ _ HZ7.out (by decide) HK7.out); have HB8 : Aside0 (Below w.heap.size w w8) := ⟨HB7.out.trans (below_le hb8 (by have := HZ.out; omega))⟩; have HS8 : Aside0 (w1.heap.size ≤ w8.heap.size) := ⟨by have := hb8.size; have := HS7.out; omega⟩; clear ht8 hb8 hk8 p0 p1; have p1 : w8.cell? ⟨W6.heap.size, 1, none⟩ = some (.slice A5 ts.length c5) := by rw [Lib.cell_of_heap HK8.out]; rfl))
            have HL8 : Aside0 ((U ++ (bl b0 ++ [40])).length ≤ 36000000000040) := ⟨by have := HLS.out; simp only [List.length_append, bl_len, List.length_cons, List.length_nil]; omega⟩
            have HE2 : Aside0 (F ++ [41, 32, 58, 45, 32] ++ jn ((ats.take (x + 1).toNat).map atomT) = U ++ (bl b0 ++ [40]) ++ (jn (ts.map termT) ++ [41])) := ⟨by rw [HE.out]; unfold atomT; simp only [List.append_assoc]⟩
            generalize U ++ (bl b0 ++ [40]) = V at *
            go_loopw [47] (fun j wi => ∃ y : Int, j = .int .i64 y ∧ 0 ≤ y ∧ y ≤ (ts.length : Int) ∧ Aside0 (BT w1.heap.size (V ++ jn ((ts.take y.toNat).map termT)) wi) ∧ Aside0 (Below w.heap.size w wi) ∧ Aside0 (w1.heap.size ≤ wi.heap.size)) (fun j _ => ts.length - (intOf j).toNat)
            case atStart => exact ⟨0, rfl, by omega, by omega, ⟨by simpa [jn_nil] using HT8.out⟩, HB8, HS8⟩
            case round =>
              clear HT7 HK7 HB7 HS7 HT8 HK8 HB8 HS8 HE p1
              obtain ⟨y, rfl, h20, h2le, HT9, HB9, HS9⟩ := hrel
              obtain ⟨W9, hW9⟩ : ∃ W9, W9 = wr := ⟨_, rfl⟩
              subst hW9
              obtain ⟨R, hR⟩ : ∃ R, R = V ++ jn ((ts.take y.toNat).map termT) := ⟨_, rfl⟩
              have HL9 : Aside0 (R.length ≤ 36000033554480) := ⟨by
                have h5 := jn_take_len termT ts 30 (fun t ht => termT_len (HTB.out t ht)) y.toNat (by omega)
                have h6 := HL8.out
                rw [hR]; simp only [List.length_append]; omega⟩
              rw [← hR] at HT9
              by_cases hlt2 : y < (ts.length : Int)
              · obtain ⟨ad2, e, hz0, hz1⟩ := at_T78 HR5.out y h20 hlt2
                cases e
                have hn2 : y.toNat < ts.length := by omega
                have hrd : rd_T78 ts y = ts[y.toNat] := by unfold rd_T78; simp [List.getD_eq_getElem?_getD, hn2]
                have HF2 : Aside0 (V ++ jn ((ts.take (y + 1).toNat).map termT) = R ++ ((if y.toNat = 0 then [] else [44, 32]) ++ termT (rd_T78 ts y))) := ⟨by
                  rw [hrd, show (y + 1).toNat = y.toNat + 1 by omega, jn_take termT ts y.toNat hn2, hR]; simp only [List.append_assoc]⟩
                have hB2 : termB (rd_T78 ts y) = true := by rw [hrd]; exact HTB.out _ (List.getElem_mem hn2)
                clear hrd hR
                replace hz0 := (HB9.out.cell (World.block_lt_of_cell? w _ hz0)).trans hz0
                replace hz1 := (HB9.out.cell (World.block_lt_of_cell? w _ hz1)).trans hz1
                generalize rd_T78 ts y = q at *
                obtain ⟨t0, t1⟩ := q
                dsimp only at *
                have hS30 := termT_len hB2
                obtain ⟨Z, hZ⟩ : ∃ Z, Z = ba (termT ⟨t0, t1⟩) := ⟨_, rfl⟩
                have HZs : Aside0 (Z.size ≤ 30) := ⟨by rw [hZ, ba_size]; exact hS30⟩
                have HZl : Aside0 (bl Z = termT ⟨t0, t1⟩) := ⟨by rw [hZ, bl_ba]⟩
                have HTS : Aside0 (∀ W, Below w.heap.size w W → Calls Tryd.prog 41 #[.agg #[.string t0, .int .i64 t1]] W fun e w' => e = .returned (.string Z) ∧ Below W.heap.size W w') := ⟨fun W hW => by
                  have hb : 0 ≤ t1 ∧ t1 ≤ 1000000000 := by
                    unfold termB inV at hB2
                    simp only [Bool.and_eq_true, decide_eq_true_eq] at hB2
                    omega
                  rw [hZ]; exact termString_walk t0 t1 W (HP0.out.below hW) (by omega) (by omega)⟩
                clear hZ hS30 hB2
                by_cases hy : 0 < y
                · have e1 : decide (0 < y) = true := decide_eq_true hy
                  have HSp : Aside0 ((if y.toNat = 0 then [] else [44, 32] : List UInt8) = [44, 32]) := ⟨if_neg (by omega)⟩
                  go_wp2_with (first | (go_at_call 39; refine (ws_walk w1.heap.size R _ _ (.inr (bldU_below HT9.out (below_alloc (Below.refl _ _) _))) (by have := HL9.out; show R.length + 2 ≤ _; omega) (by have := HS9.out; simp; omega)).mono ?_; rintro e w10 ⟨rfl, ht10, hb10, hk10⟩; have HT10 : Aside0 (BT w1.heap.size (R ++ [44, 32]) w10) := ⟨ht10⟩; have hK10 := hk10 _ _ _ _ (by have := HT9.out.lt; omega) (by decide) (at_new W9 (.cells #[.string t0, .int .i64 t1] 78)); have p0 : w10.cell? ⟨W9.heap.size, 0, none⟩ = some (.string t0) := (Lib.cell_of_heap hK10 0).trans rfl; have p1 : w10.cell? ⟨W9.heap.size, 1, none⟩ = some (.int .i64 t1) := (Lib.cell_of_heap hK10 1).trans rfl; have HB10 : Aside0 (Below w.heap.size w w10) := ⟨(below_alloc HB9.out _).trans (below_le hb10 (by have := HZ.out; omega))⟩; have HS10 : Aside0 (w1.heap.size ≤ w10.heap.size) := ⟨by have h9 := hb10.size; have h8 := HS9.out; simp at h9; omega⟩; clear ht10 hb10 hk10 hK10) | (go_at_call 41; refine (HTS.out _ HB10.out).mono ?_; rintro e w11 ⟨rfl, hb11⟩; have HT11 : Aside0 (BT w1.heap.size (R ++ [44, 32]) w11) := ⟨bldU_below HT10.out hb11⟩; have HB11 : Aside0 (Below w.heap.size w w11) := ⟨below_step HB10.out hb11⟩; have HS11 : Aside0 (w1.heap.size ≤ w11.heap.size) := ⟨by have := hb11.size; have := HS10.out; omega⟩; clear hb11) | (go_at_call 39; refine (ws_walk w1.heap.size (R ++ [44, 32]) _ _ (.inr HT11.out) (by have := HL9.out; have := HZs.out; rw [List.length_append]; show R.length + 2 + _ ≤ _; omega) HS11.out).mono ?_; rintro e w12 ⟨rfl, ht12, hb12, hk12⟩))
                  go_roundw
                  case rel => exact ⟨y + 1, rfl, by omega, by omega, ⟨by rw [HF2.out, HSp.out, ← List.append_assoc, ← HZl.out]; exact ht12⟩, ⟨HB11.out.trans (below_le hb12 (by have := HZ.out; omega))⟩, ⟨by have := hb12.size; have := HS11.out; omega⟩⟩
                  case measure => simp [intOf]; omega
                · have e1 : decide (0 < y) = false := decide_eq_false hy
                  have HSp : Aside0 ((if y.toNat = 0 then [] else [44, 32] : List UInt8) = []) := ⟨if_pos (by omega)⟩
                  go_wp2_with (first | (go_at_call 41; refine (HTS.out _ (below_alloc HB9.out _)).mono ?_; rintro e w11 ⟨rfl, hb11⟩; have HT11 : Aside0 (BT w1.heap.size R w11) := ⟨bldU_below (bldU_below HT9.out (below_alloc (Below.refl _ _) _)) hb11⟩; have HB11 : Aside0 (Below w.heap.size w w11) := ⟨below_step (below_alloc HB9.out _) hb11⟩; have HS11 : Aside0 (w1.heap.size ≤ w11.heap.size) := ⟨by have h9 := hb11.size; have h8 := HS9.out; simp at h9; omega⟩; clear hb11) | (go_at_call 39; refine (ws_walk w1.heap.size R _ _ (.inr HT11.out) (by have := HL9.out; have := HZs.out; omega) HS11.out).mono ?_; rintro e w12 ⟨rfl, ht12, hb12, hk12⟩))
                  go_roundw
                  case rel => exact ⟨y + 1, rfl, by omega, by omega, ⟨by rw [HF2.out, HSp.out, List.nil_append, ← HZl.out]; exact ht12⟩, ⟨HB11.out.trans (below_le hb12 (by have := HZ.out; omega))⟩, ⟨by have := hb12.size; have := HS11.out; omega⟩⟩
                  case measure => simp [intOf]; omega
              · have hx : ts.take y.toNat = ts := List.take_of_length_le (by omega)
                rw [hx] at hR
                have HR9 : Aside0 (F ++ [41, 32, 58, 45, 32] ++ jn ((ats.take (x + 1).toNat).map atomT) = R ++ [41]) := ⟨by rw [HE2.out, hR]; simp only [List.append_assoc]⟩
                clear hx hR
                go_wp2_with (first | (go_at_call 39; refine (ws_walk w1.heap.size R _ _ (.inr HT9.out) (by have := HL9.out; show R.length + 1 ≤ _; omega) HS9.out).mono ?_; rintro e w12 ⟨rfl, ht12, hb12, hk12⟩))
                go_roundw
                case rel => exact ⟨x + 1, rfl, by omega, by omega, ⟨by rw [HR9.out]; exact ht12⟩, ⟨HB9.out.trans (below_le hb12 (by have := HZ.out; omega))⟩, ⟨by have := hb12.size; have := HS9.out; omega⟩⟩
                case measure => simp [intOf]; omega
        · have hx : ats.take x.toNat = ats := List.take_of_length_le (by omega)
          rw [hx] at hT
          have HR9 : Aside0 (printQ a1 hd a2 ats = ba (T ++ [46])) := ⟨by rw [HG.out, hT]⟩
          have HTL : Aside0 (T.length ≤ 36000000000000) := ⟨by have := HL6.out; omega⟩
          clear hx hT
          go_wp2_with (first | (go_at_call 39; refine (ws_walk w1.heap.size T _ _ (.inr HT6.out) (by have := HTL.out; show T.length + 1 ≤ _; omega) HS6.out).mono ?_; rintro e w12 ⟨rfl, ht12, hb12, hk12⟩; have HT12 : Aside0 (BT w1.heap.size (T ++ [46]) w12) := ⟨ht12⟩; have HB12 : Aside0 (Below w.heap.size w w12) := ⟨HB6.out.trans (below_le hb12 (by have := HZ.out; omega))⟩; have HS12 : Aside0 (w1.heap.size ≤ w12.heap.size) := ⟨by have := hb12.size; have := HS6.out; omega⟩; clear ht12 hb12 hk12) | (go_at_call 29; refine (Tryd.Builder_String_any w1.heap.size w1.heap.size (T ++ [46]) _ (.inr HT12.out) HS12.out).mono ?_; rintro e w13 ⟨rfl, hb13⟩))
          go_ret
          exact ⟨by rw [HR9.out]; rfl, HB12.out.trans (below_le hb13 (by have := HZ.out; omega))⟩
  · have HG : Aside0 (printQ a1 hd a2 ats = ⟨#[]⟩) := ⟨by unfold printQ; rw [if_neg h]⟩
    rw [show shapeB a1 hd a2 ats = false by simpa using h] at HS
    clear h hr1 hr3 hS hp hg hh hl hts
    go_enter Tryd.func14, Tryd.ntmps14
    go_wp2_with (first | (go_at_call 38; (with_reducible refine (HS.out _ (below_alloc HB.out _)).mono ?_); rintro e w1 ⟨rfl, hb1⟩))
    go_ret
    exact ⟨by rw [HG.out]; rfl, below_step (below_alloc HB.out _) hb1⟩
end Go.Proofs.YtjlglimikbfgmaaDoor.PT
namespace Go.Proofs.YtjlglimikbfgmaaDoor.PT
open Go.RowKit Go.Proofs.YtjlglimikbfgmaaDoor.P Go.Proofs.YtjlglimikbfgmaaDoorW.PrintWords Go.Proofs.YtjlglimikbfgmaaDoorW.PrintLast Go.Proofs.YtjlglimikbfgmaaDoor.EvKit
set_option linter.unusedSimpArgs false
set_option linter.unusedVariables false
def GQuery (nm : ByteArray) (hd : List ByteArray) (rg : Int) (l : List LAt) : Prop := nm.size ≤ maxLen ∧ (hd.length ≤ maxLen ∧ ∀ x, x ∈ hd → x.size ≤ maxLen) ∧ (Lit.int .i64 rg).wf = true ∧
  (l.length ≤ maxLen ∧ ∀ x, x ∈ l → x.f0.size ≤ maxLen ∧ (x.f1.length ≤ maxLen ∧ ∀ t, t ∈ x.f1 → t.f0.size ≤ maxLen ∧ (Lit.int .i64 t.f1).wf = true))
theorem GQuery.parts {nm : ByteArray} {hd : List ByteArray} {rg : Int} {l : List LAt} (g : GQuery nm hd rg l) : GStr nm ∧ GL GStr hd ∧ GL GAt l := by
  obtain ⟨g1, g2, _, g3⟩ := g
  unfold maxLen at g1 g2 g3
  exact ⟨g1, g2, g3.1, fun x hx => ⟨(g3.2 x hx).1, (g3.2 x hx).2.1, fun t ht => ((g3.2 x hx).2.2 t ht).1⟩⟩
theorem printQuery_law {a0_0 : ByteArray} {A0_1 : Option Addr} {c0_1 : Nat} {l0_1 : List ByteArray} {a0_2 : Int} {A0_3 : Option Addr} {c0_3 : Nat} {l0_3 : List LAt} {w : World}
    (hr0_1 : Kd.C Kd.string w A0_1 l0_1.length l0_1) (hc0_1 : l0_1.length ≤ c0_1) (hr0_3 : Kd.C k117 w A0_3 l0_3.length l0_3) (hc0_3 : l0_3.length ≤ c0_3) (g1 : GQuery a0_0 l0_1 a0_2 l0_3) (hL : laidMet Tryd.prog (laidQ (H := Unit)) w) :
    Calls Tryd.prog 4 #[.agg #[.string a0_0, .slice A0_1 l0_1.length c0_1, .int .i64 a0_2, .slice A0_3 l0_3.length c0_3]] w fun e w' => e = .returned (.bool true) ∧ Below w.heap.size w w' := by
  obtain ⟨gq1, gq2, gq3⟩ := g1.parts
  have hp : Pow10 w := pow10_of hL
  have hg : Rings w := rings_of hL
  obtain ⟨kzQ, hzQ⟩ := Ev.rounds (szQuery_ev a0_0 l0_1 a0_2 l0_3 1048576 gq1 gq2 gq3 (by omega) (by omega))
  have z2 : 0 ≤ szQ a0_0 l0_1 l0_3 1048576 → SL SStr l0_1 ∧ SL SAt l0_3 := fun h1 => by
    obtain ⟨q1, q2, q3, q4, _⟩ := szQ_le (by omega) h1
    exact ⟨q2, q3⟩
  generalize szQ a0_0 l0_1 l0_3 1048576 = zQ at *
  refine lawPQ_walk a0_0 A0_1 c0_1 l0_1.length a0_2 A0_3 c0_3 l0_3.length w l0_1 (l0_3.map toAt) zQ (printQ a0_0 l0_1 a0_2 (l0_3.map toAt))
    (fun W hW => laws_szQuery.calls kzQ a0_0 A0_1 c0_1 l0_1 a0_2 A0_3 c0_3 l0_3 _ _ W (Kd.C_below hr0_1 hW) hc0_1 (Kd.C_below hr0_3 hW) hc0_3 hzQ) (fun h1 W hW => ?_) (fun h1 W A1 c1 A3 c3 r1 b1 r3 b3 => ?_) (fun h1 W A1 c1 A3 c3 hW r1 b1 r3 b3 => ?_) (fun h1 => ?_)
  · obtain ⟨q2, q3⟩ := z2 h1
    obtain ⟨k, hk⟩ := Ev.rounds (toQuery_ev a0_0 l0_1 a0_2 l0_3 q2 q3)
    refine (laws_toQuery.calls k a0_0 A0_1 c0_1 l0_1 a0_2 A0_3 c0_3 l0_3 _ _ _ _ W (Kd.C_below hr0_1 hW) hc0_1 (Kd.C_below hr0_3 hW) hc0_3 hk).mono fun e W' ⟨v1, v3, he, ho1, ho3, hb⟩ => ?_
    obtain ⟨A1, c1, rfl⟩ := Kd.R_slice ho1
    obtain ⟨A3, c3, rfl⟩ := Kd.S_slice ho3
    refine ⟨A1, c1, A3, c3, he, Kd.R_mono (Kd.R_bound ho1) (fun q hq => ⟨hq.2.2.1, ?_⟩), Kd.S_mono (Kd.S_bound ho3) (fun q hq => ⟨hq.2.2.1, ?_⟩), hb⟩
    · obtain ⟨_, _, _, t, ht, cells, hc⟩ := hq
      obtain rfl : t = 9 := by simpa [Kd.string, Kd.scalar] using ht
      exact ⟨cells, hc⟩
    · obtain ⟨_, _, _, t, ht, cells, hc⟩ := hq
      exact ⟨cells, t, by simpa [k76, k78, Kd.iso, Kd.pair, Kd.string, Kd.scalar, Kd.slice, Kd.int] using ht, hc⟩
  · obtain ⟨q2, q3⟩ := z2 h1
    have ht := toAt_len q3
    obtain ⟨k, hk⟩ := Ev.rounds (specPrintQ_ev a0_0 l0_1 a0_2 (l0_3.map toAt) q2.1 ht.1 ht.2)
    exact spec_PrintQuery.calls k a0_0 A1 c1 l0_1 a0_2 A3 c3 _ _ W r1 b1 r3 b3 hk
  · obtain ⟨q2, q3⟩ := z2 h1
    have ht := toAt_len q3
    exact printQ_walk a0_0 A1 c1 l0_1 a0_2 A3 c3 _ W r1 b1 r3 b3 (Ev.rounds (shape_ev a0_0 l0_1 a0_2 _ (by have := q2.1; omega) (by have := ht.1; omega))) (hp.below hW) (hg.below hW) q2.1 ht.1 ht.2
  · obtain ⟨q2, q3⟩ := z2 h1
    have ht := toAt_len q3
    exact ⟨q2.1, ht.1, ht.2⟩
end Go.Proofs.YtjlglimikbfgmaaDoor.PT
namespace Go.Proofs.YtjlglimikbfgmaaDoor.fnExactPrintQuery
open Go.Proofs.YtjlglimikbfgmaaDoor.PT (laidQ)
open Go.ChangeShapes Go.WideShapes Go.ChangeAt Go.RowKit
open Go.ChangeMaps (open_string shut_string)
open Go.Proofs.YtjlglimikbfgmaaDoor.Opens Go.Proofs.YtjlglimikbfgmaaDoorW.PrintWords
set_option linter.unusedVariables false
theorem own : ownKnob Tryd.prog.godebug = none := by kernel_rfl
theorem door_met (os : Os) (args : Array Value) : laidMetH Tryd.prog laidQ ((World.doorLaid Tryd.prog 400 os).forCall (fun _ _ => 0) ⟨#[], args, []⟩).memory :=
  laidMetH_of_parts3 (fuel := 8) (laidMet_of_run' 8 (by kernel_rfl) (by kernel_rfl)) (by kernel_rfl) (by kernel_rfl)
theorem var_below {P : Program} {w w' : World} {n : String} {g : Nat} {cs : Array Value} (hg : P.globalNamed n = some g) (h : w.var? P n = some cs) (hb : Below w.heap.size w w') : w'.var? P n = some cs := by
  unfold World.var? at *
  rw [hg] at h ⊢
  simp only [Option.bind_some] at h ⊢
  have hlt : g < w.heap.size := by
    rcases Nat.lt_or_ge g w.heap.size with h' | h'
    · exact h'
    · rw [Array.getElem?_eq_none h'] at h; simp at h
  rw [hb.block g hlt]; exact h
theorem laidOut : laidOutB Tryd.prog = true := by kernel_rfl
def G9 (v : ByteArray) : Prop := v.size ≤ maxLen
theorem opens9 : Opens Tryd.prog Kd.string 9 G9 := Opens.string Tryd.underlying9 (by kernel_rfl)
def G33 (v : (List ByteArray)) : Prop := v.length ≤ maxLen ∧ ∀ x, x ∈ v → G9 x
theorem opens33 : Opens Tryd.prog (Kd.slice 9 Kd.string) 33 G33 := Opens.slice Tryd.underlying33 (by kernel_rfl) opens9
def G3 (v : Int) : Prop := (Lit.int .i64 v).wf = true
theorem opens3 : Opens Tryd.prog (Kd.int .i64) 3 G3 := Opens.int Tryd.underlying3 (by kernel_rfl)
def G184 (v : Go.Proofs.YtjlglimikbfgmaaDoor.P.S184) : Prop := G9 (v.f0) ∧ G3 (v.f1)
theorem opensE184 : Opens Tryd.prog Go.Proofs.YtjlglimikbfgmaaDoor.P.k184 184 G184 := Opens.struct Tryd.underlying184 (by kernel_rfl) (fun enc W held n cs hl hf =>
  Opens.iso (fun x : Go.Proofs.YtjlglimikbfgmaaDoor.P.S184 => (x.f0, x.f1)) (fun x => ⟨x.1, x.2⟩) (fun _ => rfl) (Opens.cons (o := 0) (k := 1) (Opens.fld (o := 0) opens9 (hf 0 _ rfl)) (Opens.last (o := 1) (k := 1) (hl.trans rfl) (Opens.fld (o := 1) opens3 (hf 1 _ rfl)))))
def G115 (v : (List Go.Proofs.YtjlglimikbfgmaaDoor.P.S184)) : Prop := v.length ≤ maxLen ∧ ∀ x, x ∈ v → G184 x
theorem opens115 : Opens Tryd.prog (Kd.slice 184 Go.Proofs.YtjlglimikbfgmaaDoor.P.k184) 115 G115 := Opens.slice Tryd.underlying115 (by kernel_rfl) opensE184
def G117 (v : Go.Proofs.YtjlglimikbfgmaaDoor.P.S117) : Prop := G9 (v.f0) ∧ G115 (v.f1)
theorem opensE117 : Opens Tryd.prog Go.Proofs.YtjlglimikbfgmaaDoor.P.k117 117 G117 := Opens.struct Tryd.underlying117 (by kernel_rfl) (fun enc W held n cs hl hf =>
  Opens.iso (fun x : Go.Proofs.YtjlglimikbfgmaaDoor.P.S117 => (x.f0, x.f1)) (fun x => ⟨x.1, x.2⟩) (fun _ => rfl) (Opens.cons (o := 0) (k := 1) (Opens.fld (o := 0) opens9 (hf 0 _ rfl)) (Opens.last (o := 1) (k := 1) (hl.trans rfl) (Opens.fld (o := 1) opens115 (hf 1 _ rfl)))))
def G34 (v : (List Go.Proofs.YtjlglimikbfgmaaDoor.P.S117)) : Prop := v.length ≤ maxLen ∧ ∀ x, x ∈ v → G117 x
theorem opens34 : Opens Tryd.prog (Kd.slice 117 Go.Proofs.YtjlglimikbfgmaaDoor.P.k117) 34 G34 := Opens.slice Tryd.underlying34 (by kernel_rfl) opensE117
def G36P (v : (ByteArray × (List ByteArray) × Int × (List Go.Proofs.YtjlglimikbfgmaaDoor.P.S117))) : Prop := G9 (v.1) ∧ G33 (v.2.1) ∧ G3 (v.2.2.1) ∧ G34 (v.2.2.2)
theorem opens36 : Opens Tryd.prog (Kd.pair Kd.string (Kd.pair (Kd.slice 9 Kd.string) (Kd.pair (Kd.int .i64) (Kd.slice 117 Go.Proofs.YtjlglimikbfgmaaDoor.P.k117)))) 36 G36P := Opens.struct Tryd.underlying36 (by kernel_rfl) (fun enc W held n cs hl hf => (Opens.cons (o := 0) (k := 1) (Opens.fld (o := 0) opens9 (hf 0 _ rfl)) (Opens.cons (o := 1) (k := 1) (Opens.fld (o := 1) opens33 (hf 1 _ rfl)) (Opens.cons (o := 2) (k := 1) (Opens.fld (o := 2) opens3 (hf 2 _ rfl)) (Opens.last (o := 3) (k := 1) (hl.trans rfl) (Opens.fld (o := 3) opens34 (hf 3 _ rfl)))))))
set_option maxRecDepth 100000 in
theorem lifted (os : Os) (started : os.Started) (H : Type) (enc : TypeId × Value → H) :
    ReturnsInHanded {} Tryd.checked os 4 .any (fun w args => (Rows.fnExactPrintQuerySpec.pre enc Tryd.prog Tryd.f4 [] false w args ∧ laidMetH Tryd.prog laidQ w) ∧ sizedMet enc Tryd.prog Tryd.f4 (OpenSpec.ofChange Rows.fnExactPrintQuerySpec) false w args)
      (Rows.fnExactPrintQuerySpec.post enc Tryd.prog Tryd.f4 false true false false) := by
  refine returnsInHanded_of_change_and (C := Tryd.checked) (X := fun w _ => laidMetH Tryd.prog laidQ w) (fun _ _ _ hh h => h.of_heap hh) own started (by kernel_rfl) Tryd.func4
    (ChangeSpec.witness_shaped (enc := enc) (C := Tryd.checked) (os := os) (X := fun w _ => laidMetH Tryd.prog laidQ w) false (World.doorLaid Tryd.prog 400 os) #[.agg #[.string ByteArray.empty, .slice none 0 0, .int .i64 0, .slice none 0 0]] 8 rfl (World.shaped_of_RefB (by kernel_rfl) (by kernel_rfl)) (by kernel_rfl) (by kernel_rfl) (by kernel_rfl) (door_met os _)) ?_
  intro W base args ds gs before hval0 hW _ _ hL _
  rw [MakeChecks.laidMetH_plain _ _ _ (by kernel_rfl)] at hL
  have hval : ∀ (j : Nat) t v, Tryd.f4.params[j]? = some t → args[j]? = some v → Value.okWide Tryd.prog W .any base t v := hval0
  have hW' := hW
  obtain ⟨p, q, hA0, hV, rfl, hfz, hnd⟩ := hW
  have hA : DataW.TrodAll enc Tryd.prog W 0 (fun _ => true) true Tryd.f4.params.toList args.toList ds p := hA0
  rw [Tryd.params4] at hA hval
  obtain ⟨v0, vs0, d0, ds0, p0, q0, hargs, rfl, rfl, h0, r0⟩ := trodAll_cons hA
  obtain ⟨rfl, rfl, rfl⟩ := trodAll_nil r0
  obtain rfl : args = #[v0] := by cases args; simp_all
  obtain ⟨gv, tv, csv, fuv, dv, pv, rfl, hg0, ht0, hv0, hd0, rfl⟩ := trodVars_one hV
  obtain rfl := Option.some.inj ((show Tryd.prog.globalNamed "loop.example/s01205/impl.ringWords" = some 0 by kernel_rfl).symm.trans hg0)
  obtain rfl := Option.some.inj ((show (Tryd.prog.globals[0]?).map (·.type) = some 85 by kernel_rfl).symm.trans ht0)
  have ltv : ∀ x ∈ pv, x.block < W.heap.size := DataW.trod_lt fuv _ _ _ hd0
  have kv : DataW.Trod enc Tryd.prog W 0 (fun _ => true) true 85 (.agg csv) dv pv := ⟨fuv, hd0⟩
  have k0 := h0
  have lt0 : ∀ x ∈ p0, x.block < W.heap.size := by obtain ⟨m, hm⟩ := k0; exact DataW.trod_lt m _ _ _ hm
  obtain ⟨cs0, rfl, sz0⟩ := okWide_struct Tryd.underlying36 (hval 0 36 v0 rfl rfl)
  obtain ⟨fu0, hf0⟩ := h0
  obtain ⟨x0, hK0, gg0⟩ := (opens36).2 enc W true fu0 _ _ hf0
  have hK0' : ((Kd.pair Kd.string (Kd.pair (Kd.slice 9 Kd.string) (Kd.pair (Kd.int .i64) (Kd.slice 117 Go.Proofs.YtjlglimikbfgmaaDoor.P.k117))))).K W x0 cs0.toList := hK0
  generalize hcs0 : cs0.toList = cl0 at hK0'
  obtain ⟨_, _, rfl, rfl, ⟨_, _, rfl, ⟨A0_1, c0_1, rfl, hc0_1, hr0_1⟩, ⟨_, _, rfl, rfl, ⟨A0_3, c0_3, rfl, hc0_3, hr0_3⟩⟩⟩⟩ := hK0'
  obtain rfl : cs0 = #[.string x0.1, .slice A0_1 x0.2.1.length c0_1, .int .i64 x0.2.2.1, .slice A0_3 x0.2.2.2.length c0_3] := by cases cs0; simp_all
  clear hA0 hval0
  refine (Go.Proofs.YtjlglimikbfgmaaDoor.PT.printQuery_law (w := W) (a0_0 := x0.1) (A0_1 := A0_1) (c0_1 := c0_1) (l0_1 := x0.2.1) (a0_2 := x0.2.2.1) (A0_3 := A0_3) (c0_3 := c0_3) (l0_3 := x0.2.2.2) (hr0_1 := hr0_1) (hc0_1 := hc0_1) (hr0_3 := hr0_3) (hc0_3 := hc0_3) gg0 hL).mono fun e W' ⟨he, bel⟩ => ?_
  subst he
  obtain ⟨fuw, hd1⟩ := Below.trod laidOut (by kernel_rfl) (of_decide_eq_true (by kernel_rfl)) kv bel ltv
  have hv1 := var_below hg0 hv0 bel
  exact ⟨_, rfl, _, _, _, [], _, _, hW', trodAll_mk1 (shut_bool Tryd.underlying4 _), (trodAll_cons_mk (Below.trod laidOut (by kernel_rfl) (of_decide_eq_true (by kernel_rfl)) k0 bel lt0) trodAll_mk0), trodVars_mk1 hg0 ht0 hv1 hd1, bel.frame _, fun h => by cases h⟩
theorem over : Rows.fnExactPrintQueryRow.holds Tryd.pinned (OpenSpec.ofChange Rows.fnExactPrintQuerySpec) :=
  OpenClaim.holds_of_wide 4 Tryd.f4 rfl rfl rfl rfl rfl rfl rfl ⟨rfl, rfl, rfl, rfl, rfl⟩ rfl rfl rfl rfl rfl (by kernel_rfl) Tryd.func4 (by kernel_rfl)
    (of_decide_eq_true (by kernel_rfl)) (by unfold Func.isWrapper; first | (rw [if_pos (by decide +kernel)]; kernel_rfl) | (rw [if_neg (by decide +kernel)]; exact ⟨rfl, rfl⟩))
    (fun os started H enc _ => lifted os started H enc)
theorem proved : Rows.FnExactPrintQueryCardSaid :=
  Claim7.holds_tied_plain_at .later [] [.data, .data, .data, .widerDeep] true (true, "9f410d6141dfeaa45840800688d8d14ca80d9a63b2460f0ef54f6cb0b6284601") true
    over (fun _ h => by cases h) (by kernel_rfl) (fun _ h => by cases h) fnExactPrintQuery_row_tie rfl ⟨rfl, rfl⟩ (by kernel_rfl) rfl
    (fun f fn hf hfn => by
      obtain rfl : f = 4 := Option.some.inj ((show Tryd.prog.funcNamed "loop.example/s01205/laws.FnExactPrintQuery" = some 4 by kernel_rfl).symm.trans hf) |>.symm
      obtain rfl : fn = Tryd.f4 := (Option.some.inj (Tryd.func4.symm.trans hfn)).symm
      exact ⟨by kernel_rfl, fun j t ht => by
        rw [Tryd.params4] at ht
        have hm : t ∈ [36] := by simpa using Array.mem_of_getElem? ht
        have hall : ([36].all fun u => !Tryd.prog.wantsStandIn u) = true := by kernel_rfl
        exact (show Tryd.prog.wantsStandIn t = false by simpa using List.all_eq_true.1 hall t hm)⟩)
    (by kernel_rfl)
#print axioms proved
end Go.Proofs.YtjlglimikbfgmaaDoor.fnExactPrintQuery
