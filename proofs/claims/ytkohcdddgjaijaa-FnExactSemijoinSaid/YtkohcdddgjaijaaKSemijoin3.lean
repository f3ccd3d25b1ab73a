/-
  Part 3 of the proof of this: The law FnExactSemijoin answers true at every argument.
-/
import Derived.Test.YtkohcdddgjaijaaKSemijoin2
namespace Go.Proofs.Ytkohcdddgjaijaa.P
open Go.RowKit Go.Proofs.YtkohcdddgjaijaaW.PrintWords Go.Proofs.YtkohcdddgjaijaaW.PrintLast Go.Proofs.YtkohcdddgjaijaaW.PrintMore
attribute [local go_sem] max2_int min2_int max_two min_two max_three min_three max_four min_four
set_option linter.unusedVariables false
set_option linter.unusedSimpArgs false
def laws_heldIntSS.l0 : Nat → List (List Int) → Int → Int → Option (Int)
 | 0, _, _, _ => none
 | k + 1, x0, x1, x5 => if x5 < (x0.length : Int) then (if 0 ≤ x5 then ((laws_heldIntS.f k (rd_L1 x0 x5) x1).bind fun t298 => (if t298 < 0 then (some (-1)) else (laws_heldIntSS.l0 k x0 t298 (wrap64 (x5 + 1))))) else (none)) else (some x1)
def laws_heldIntSS.f (k : Nat) (l0 : List (List Int)) (a1 : Int) : Option (Int) := laws_heldIntSS.l0 k l0 a1 0
theorem laws_heldIntSS.mono_l : ∀ k, (∀ y0 y1 y2, LeO (laws_heldIntSS.l0 k y0 y1 y2) (laws_heldIntSS.l0 (k + 1) y0 y1 y2))
 | 0 => fun _ _ _ r h => by simp [laws_heldIntSS.l0] at h
 | k + 1 => by
  have ih0 := laws_heldIntSS.mono_l k
  ·intro y0 y1 y2
   unfold laws_heldIntSS.l0
   repeat' first
   | (with_reducible exact ih0 _ _ _)
   | (with_reducible exact laws_heldIntS.mono _ _ _)
   | (with_reducible exact LeO.refl _)
   | (with_reducible exact LeO.none _)
   | (with_reducible refine LeO.ite ?_ ?_)
   | (with_reducible refine LeO.bind ?_ (fun _ => ?_))
   | exact ih0 _ _ _
   | exact laws_heldIntS.mono _ _ _
   | exact LeO.none _
   | refine LeO.ite ?_ ?_
   | refine LeO.bind ?_ (fun _ => ?_)
theorem laws_heldIntSS.mono : ∀ a0 a1 k, LeO (laws_heldIntSS.f k a0 a1) (laws_heldIntSS.f (k + 1) a0 a1) := by
 intro a0 a1 k
 have ih0 := laws_heldIntSS.mono_l k
 unfold laws_heldIntSS.f
 repeat' first
   | (with_reducible exact ih0 _ _ _)
   | (with_reducible exact laws_heldIntS.mono _ _ _)
   | (with_reducible exact LeO.refl _)
   | (with_reducible exact LeO.none _)
   | (with_reducible refine LeO.ite ?_ ?_)
   | (with_reducible refine LeO.bind ?_ (fun _ => ?_))
   | exact ih0 _ _ _
   | exact laws_heldIntS.mono _ _ _
   | exact LeO.none _
   | refine LeO.ite ?_ ?_
   | refine LeO.bind ?_ (fun _ => ?_)
set_option maxHeartbeats 8000000 in
set_option maxRecDepth 100000 in
theorem laws_heldIntSS.calls (k : Nat) (A0 : Option Addr) (c0 : Nat) (l0 : List (List Int)) (a1 : Int) (r : Int) (w : World) (hr0 : Kd.C (Kd.slice 3 (Kd.int .i64)) w A0 l0.length l0) (hc0 : l0.length ≤ c0) (h : laws_heldIntSS.f k l0 a1 = some r) :
  Calls Try.prog 32 #[.slice A0 l0.length c0, .int .i64 a1] w fun e w' => e = .returned (.int .i64 r) ∧ Drawn0 w w' := by
 have HR0 := Aside0.mk hr0
 have HC0 := Aside0.mk hc0
 clear hr0 hc0
 have H : (laws_heldIntSS.l0 k l0 a1 0) = some r := h
 clear h
 have H' := Aside0.mk H
 clear H
 go_enter Try.func32, Try.ntmps32
 go_wp2
 go_loopg [1, 5] k (fun kq v1 v5 w' => ∃ (x1_1 : Int) (x5_1 : Int), v1 = .int .i64 x1_1 ∧ v5 = .int .i64 x5_1 ∧ Aside0 (laws_heldIntSS.l0 kq l0 x1_1 x5_1 = some r) ∧ Aside0 (kq ≤ k) ∧ Drawn0 w w')
 case atStart => exact ⟨(a1), (0), (by first | rfl | (simp; done) | (simp [*]; done)), (by first | rfl | (simp; done) | (simp [*]; done)), H', ⟨Nat.le_refl _⟩, by repeat (first | exact Drawn0.refl _ | apply Drawn0.step)⟩
 case round =>
  clear H'
  try clear p2
  obtain ⟨x1_1, x5_1, rfl, rfl, HA, HK1, ⟨m1, rfl⟩⟩ := hrel
  cases gk with
  | zero => exact absurd HA.out (by simp [laws_heldIntSS.l0])
  | succ k1 =>
   have H := HA.out
   clear HA
   simp only [laws_heldIntSS.l0] at H
   by_cases c3 : x5_1 < (l0.length : Int)
   ·rw [if_pos c3] at H
    have c3b0 : decide (x5_1 < (l0.length : Int)) = true := decide_eq_true c3
    clear c3
    by_cases c4 : 0 ≤ x5_1
    ·rw [if_pos c4] at H
     have c4b0 : decide (0 ≤ x5_1) = true := decide_eq_true c4
     clear c4
     replace H := Option.bind_eq_some_iff.mp H
     obtain ⟨t298, A50, H⟩ := H
     replace H : (if t298 < 0 then (some (-1)) else (laws_heldIntSS.l0 k1 l0 t298 (wrap64 (x5_1 + 1)))) = some r := H
     have A5 := Aside0.mk A50
     clear A50
     by_cases c6 : t298 < 0
     ·rw [if_pos c6] at H
      have c6b0 : decide (t298 < 0) = true := decide_eq_true c6
      clear c6
      obtain rfl := Option.some.inj H
      have p297 : 0 ≤ (x5_1 : Int) := of_decide_eq_true (by first | (with_reducible assumption) | assumption)
      have q297 : x5_1 < (l0.length : Int) := of_decide_eq_true (by first | (with_reducible assumption) | assumption)
      obtain ⟨ad297, A297_0, c297_0, e297, hx297_0, hl297_0, hi297_0⟩ := at_L1 HR0.out x5_1 p297 q297
      cases e297
      have HR297_0 := Aside0.mk hi297_0
      have HC297_0 := Aside0.mk hl297_0
      clear hi297_0 hl297_0
      replace p297 := eq_true p297
      replace q297 := eq_true q297
      go_wp2_with (first | ((with_reducible refine gate_callee (f := 31) rfl ?_); refine goesL_ (some 17) rfl rfl Try.func31 (by kernel_rfl) rfl #[.slice A297_0 (rd_L1 l0 x5_1).length c297_0, .int .i64 x1_1] rfl (by (try simp only [List.map_toArray, List.map_cons, List.map_nil]); first | done | rfl | (simp only [List.length_drop, List.length_take]; rfl)) ?_; (with_reducible refine (laws_heldIntS.calls k1 _ _ (rd_L1 l0 x5_1) x1_1 t298 _ ?side1 ?side2 A5.out).mono ?_); (case side1 => repeat (first | exact HR297_0.out | (with_reducible refine Kd.C_alloc ?_ _) | (with_reducible refine Kd.C_drewN ?_ _) | (with_reducible refine Kd.C_drew ?_))); (case side2 => exact HC297_0.out); rintro e w' ⟨rfl, ⟨nd, rfl⟩⟩; refine ⟨_, rfl, ?_⟩))
      go_ret
      exact ⟨by first | rfl | (simp; done) | (simp [*]; done), by repeat (first | exact Drawn0.refl _ | apply Drawn0.step)⟩
     ·rw [if_neg c6] at H
      have c6b0 : decide (t298 < 0) = false := decide_eq_false c6
      clear c6
      have H' := Aside0.mk H
      clear H
      have p297 : 0 ≤ (x5_1 : Int) := of_decide_eq_true (by first | (with_reducible assumption) | assumption)
      have q297 : x5_1 < (l0.length : Int) := of_decide_eq_true (by first | (with_reducible assumption) | assumption)
      obtain ⟨ad297, A297_0, c297_0, e297, hx297_0, hl297_0, hi297_0⟩ := at_L1 HR0.out x5_1 p297 q297
      cases e297
      have HR297_0 := Aside0.mk hi297_0
      have HC297_0 := Aside0.mk hl297_0
      clear hi297_0 hl297_0
      replace p297 := eq_true p297
      replace q297 := eq_true q297
      go_wp2_with (first | ((with_reducible refine gate_callee (f := 31) rfl ?_); refine goesL_ (some 17) rfl rfl Try.func31 (by kernel_rfl) rfl #[.slice A297_0 (rd_L1 l0 x5_1).length c297_0, .int .i64 x1_1] rfl (by (try simp only [List.map_toArray, List.map_cons, List.map_nil]); first | done | rfl | (simp only [List.length_drop, List.length_take]; rfl)) ?_; (with_reducible refine (laws_heldIntS.calls k1 _ _ (rd_L1 l0 x5_1) x1_1 t298 _ ?side1 ?side2 A5.out).mono ?_); (case side1 => repeat (first | exact HR297_0.out | (with_reducible refine Kd.C_alloc ?_ _) | (with_reducible refine Kd.C_drewN ?_ _) | (with_reducible refine Kd.C_drew ?_))); (case side2 => exact HC297_0.out); rintro e w' ⟨rfl, ⟨nd, rfl⟩⟩; refine ⟨_, rfl, ?_⟩))
      go_roundg k1
      case measure => have := HK1.out; omega
      case rel => exact ⟨(t298), (wrap64 (x5_1 + 1)), (by first | rfl | (simp; done) | (simp [*]; done)), (by first | rfl | (simp; done) | (simp [*]; done)), H', ⟨by have := HK1.out; omega⟩, by repeat (first | exact Drawn0.refl _ | apply Drawn0.step)⟩
    ·rw [if_neg c4] at H
     exact absurd H (by simp)
   ·rw [if_neg c3] at H
    have c3b0 : decide (x5_1 < (l0.length : Int)) = false := decide_eq_false c3
    clear c3
    obtain rfl := Option.some.inj H
    go_wp2
    go_ret
    exact ⟨by first | rfl | (simp; done) | (simp [*]; done), by repeat (first | exact Drawn0.refl _ | apply Drawn0.step)⟩
end Go.Proofs.Ytkohcdddgjaijaa.P
namespace Go.Proofs.Ytkohcdddgjaijaa.PT
open Go.RowKit Go.Proofs.Ytkohcdddgjaijaa.P Go.Proofs.YtkohcdddgjaijaaW.PrintWords Go.Proofs.YtkohcdddgjaijaaW.PrintLast Go.Proofs.Ytkohcdddgjaijaa.EvKit
set_option linter.unusedVariables false
set_option linter.unusedSimpArgs false
abbrev tr0 : World → World → Prop := Tr (fun _ => False)
theorem tr0.bel {W W' : World} (h : tr0 W W') : Below W.heap.size W W' := Tr.below h (fun _ hk => hk.elim) (Nat.le_refl _)
theorem tr0.comp {W W' W'' : World} (h : tr0 W W') (h' : tr0 W' W'') : tr0 W W'' := Tr.trans h h' (fun _ hk => hk) (fun _ hk _ => hk)
theorem tr0.then_ {S : Nat → Prop} {W W' W'' : World} (h : tr0 W W') (h' : Tr S W' W'') : Tr S W W'' := Tr.trans h h' (fun _ hk => hk.elim) (fun _ hk _ => hk)
theorem tr0.drawn {W W' : World} (h : Drawn0 W W') : tr0 W W' := Tr.of_below h.below
theorem Tr.drew {S : Nat → Prop} {W W' : World} (h : Tr S W W') : Tr S W W'.drew := ⟨h.os, h.tape, h.output, h.size, h.block⟩
theorem Tr.drewN {S : Nat → Prop} {W W' : World} (h : Tr S W W') (n : Nat) : Tr S W (W'.drewN n) := ⟨h.os, h.tape, h.output, h.size, h.block⟩
theorem Tr.alloc {S : Nat → Prop} {W W' : World} (h : Tr S W W') (o : Obj) : Tr S W (W'.alloc o) := ⟨h.os, h.tape, h.output, by rw [al_size]; exact Nat.le_succ_of_le h.size, fun k hk hn => (Below.heap_alloc W' o k (Nat.lt_of_lt_of_le hk h.size)).trans (h.block k hk hn)⟩
theorem Tr.set {S : Nat → Prop} {W W' : World} (h : Tr S W W') {p : Addr} (hp : W.heap.size ≤ p.block) (u : Value) : Tr S W (W'.setCell p u) := ⟨h.os, h.tape, h.output, by simpa [World.setCell] using h.size, fun k hk hn => (Below.heap_setCell W' p u k (by omega)).trans (h.block k hk hn)⟩
theorem Tr.bel_ {S : Nat → Prop} {w W W' : World} (h : Below w.heap.size w W) (t : Tr S W W') (hS : ∀ k, S k → w.heap.size ≤ k) : Below w.heap.size w W' :=
  ⟨t.os.trans h.os, t.tape.trans h.tape, t.output.trans h.output, Nat.le_trans h.size t.size, fun k hk => (t.block k (Nat.lt_of_lt_of_le hk h.size) (fun hs => by have := hS k hs; omega)).trans (h.block k hk)⟩
theorem Tr.blk {S : Nat → Prop} {W W' : World} {b : Nat} {o : Obj} (t : Tr S W W') (h : W.heap[b]? = some o) (hb : ¬ S b) : W'.heap[b]? = some o := (t.block b (blk_lt h) hb).trans h
def RdI (W : World) (x : List Int) (A : Option Addr) (c : Nat) : Prop := x.length ≤ c ∧ Kd.C (Kd.int .i64) W A x.length x
def RdII (W : World) (x : List (List Int)) (A : Option Addr) (c : Nat) : Prop := x.length ≤ c ∧ Kd.C kRow W A x.length x
theorem RdI.tr {W W' : World} {x : List Int} {A : Option Addr} {c : Nat} (h : RdI W x A c) (t : tr0 W W') : RdI W' x A c := ⟨h.1, Kd.C_below h.2 t.bel⟩
theorem RdII.tr {W W' : World} {x : List (List Int)} {A : Option Addr} {c : Nat} (h : RdII W x A c) (t : tr0 W W') : RdII W' x A c := ⟨h.1, Kd.C_below h.2 t.bel⟩
theorem RdI.past {W0 W : World} {x : List Int} {A : Option Addr} {c : Nat} (h : RdI W0 x A c) (t : Below W0.heap.size W0 W) : RdI W x A c := ⟨h.1, Kd.C_below h.2 t⟩
def goodI (x : List Int) : Prop := x.length ≤ 1048576
def goodII (x : List (List Int)) : Prop := x.length ≤ 1048576 ∧ ∀ y, y ∈ x → y.length ≤ 1048576
abbrev oI (W : World) (x : List Int) (A : Option Addr) (n c : Nat) (bs : List Nat) : Prop := owI.own W x [.slice A n c] bs
abbrev oII (W : World) (x : List (List Int)) (A : Option Addr) (n c : Nat) (bs : List Nat) : Prop := owII.own W x [.slice A n c] bs
theorem oI.len {W : World} {x : List Int} {A : Option Addr} {n c : Nat} {bs : List Nat} (h : oI W x A n c bs) : n = x.length := by
  obtain ⟨A', c', e, _⟩ := owI.rd h
  injection e with e; injection e
theorem oII.len {W : World} {x : List (List Int)} {A : Option Addr} {n c : Nat} {bs : List Nat} (h : oII W x A n c bs) : n = x.length := by
  obtain ⟨A', c', e, _⟩ := owII.rd h
  injection e with e; injection e
theorem oI.rd {W : World} {x : List Int} {A : Option Addr} {n c : Nat} {bs : List Nat} (h : oI W x A n c bs) : RdI W x A c := by
  obtain ⟨A', c', e, hl, hC⟩ := owI.rd h
  injection e with e; injection e with e1 e2 e3
  subst e1; subst e3
  exact ⟨hl, hC⟩
theorem oII.rd {W : World} {x : List (List Int)} {A : Option Addr} {n c : Nat} {bs : List Nat} (h : oII W x A n c bs) : RdII W x A c := by
  obtain ⟨A', c', e, hl, hC⟩ := owII.rd h
  injection e with e; injection e with e1 e2 e3
  subst e1; subst e3
  exact ⟨hl, hC⟩
def ToI (W0 W : World) (x : List Int) (e : Ending) (w' : World) : Prop := ∃ A c bs, e = .returned (.slice A x.length c) ∧ oI w' x A x.length c bs ∧ (∀ b, b ∈ bs → W.heap.size ≤ b) ∧ tr0 W w'
def ToII (W0 W : World) (x : List (List Int)) (e : Ending) (w' : World) : Prop := ∃ A c bs, e = .returned (.slice A x.length c) ∧ oII w' x A x.length c bs ∧ (∀ b, b ∈ bs → W.heap.size ≤ b) ∧ tr0 W w'
theorem toI_c {W0 W : World} {x : List Int} {A : Option Addr} {c : Nat} (h : RdI W0 x A c) (hg : goodI x) (t : tr0 W0 W) : Calls Try.prog 8 #[.slice A x.length c] W (ToI W0 W x) := by
  obtain ⟨k, hk⟩ := Ev.rounds (toIntS_ev x (by unfold goodI at hg; omega))
  refine (laws_toIntS.calls k A c x x W (h.tr t).2 h.1 hk).mono ?_
  rintro e w' ⟨v, rfl, hR, hb⟩
  obtain ⟨A1, c1, rfl⟩ := Kd.R_slice hR
  obtain ⟨bs, ho, hbs⟩ := owI_of hR
  exact ⟨A1, c1, bs, rfl, ho, fun b hb => (hbs b hb).2, Tr.of_below hb⟩
theorem toII_c {W0 W : World} {x : List (List Int)} {A : Option Addr} {c : Nat} (h : RdII W0 x A c) (hg : goodII x) (t : tr0 W0 W) : Calls Try.prog 23 #[.slice A x.length c] W (ToII W0 W x) := by
  obtain ⟨k, hk⟩ := Ev.rounds (toIntSS_ev x (by have := hg.1; omega) (fun y hy => by have := hg.2 y hy; omega))
  refine (laws_toIntSS.calls k A c x x W (h.tr t).2 h.1 hk).mono ?_
  rintro e w' ⟨v, rfl, hS, hb⟩
  obtain ⟨A1, c1, rfl⟩ := Kd.S_slice hS
  obtain ⟨bs, ho, hbs⟩ := owII_of hS
  exact ⟨A1, c1, bs, rfl, ho, fun b hb => (hbs b hb).2, Tr.of_below hb⟩
theorem eqI_c {W0 W : World} {x : List Int} {A B : Option Addr} {c d : Nat} (h : RdI W0 x A c) (h' : RdI W0 x B d) (hg : goodI x) (t : tr0 W0 W) : Calls Try.prog 11 #[.slice A x.length c, .slice B x.length d] W fun e w' => e = .returned (.bool true) ∧ tr0 W w' := by
  obtain ⟨k, hk⟩ := Ev.rounds (eqIntS_ev x x (by unfold goodI at hg; omega))
  rw [decide_eq_true rfl] at hk
  exact (laws_eqIntS.calls k A c x B d x true W (h.tr t).2 h.1 (h'.tr t).2 h'.1 hk).mono (fun e w' hh => ⟨hh.1, tr0.drawn hh.2⟩)
theorem eqII_c {W0 W : World} {x : List (List Int)} {A B : Option Addr} {c d : Nat} (h : RdII W0 x A c) (h' : RdII W0 x B d) (hg : goodII x) (t : tr0 W0 W) : Calls Try.prog 29 #[.slice A x.length c, .slice B x.length d] W fun e w' => e = .returned (.bool true) ∧ tr0 W w' := by
  obtain ⟨k, hk⟩ := Ev.rounds (eqIntSS_ev x x (by have := hg.1; omega) (fun y hy => by have := hg.2 y hy; omega))
  rw [decide_eq_true rfl] at hk
  exact (laws_eqIntSS.calls k A c x B d x true W (h.tr t).2 h.1 (h'.tr t).2 h'.1 hk).mono (fun e w' hh => ⟨hh.1, tr0.drawn hh.2⟩)
theorem markI_c {w W0 W : World} {x : List Int} {A : Option Addr} {c : Nat} {bs : List Nat} (k : Int) (h : oI W0 x A x.length c bs) (hb : ∀ b, b ∈ bs → w.heap.size ≤ b) (hB : Below w.heap.size w W0) (hg : goodI x) (h0 : 0 ≤ k) (hk : k + x.length ≤ 1099511627776) (t : tr0 W0 W) :
    Calls Try.prog 13 #[.slice A x.length c, .int .i64 k] W fun e w' => e = .returned (.int .i64 (k + x.length)) ∧ (∃ bs', oI w' (markI k x) A x.length c bs' ∧ ∀ b, b ∈ bs' → b ∈ bs ∨ W.heap.size ≤ b) ∧ Tr (· ∈ bs) W w' := by
  obtain ⟨q, hq⟩ := Ev.rounds (markIntS_ev x k h0 (by unfold goodI at hg; omega) hk)
  have hBW := Tr.bel_ hB t (fun _ hk => hk.elim)
  have ho := owI.tr h t (fun _ _ hk => hk)
  refine (laws_markIntS.calls q (· ∈ bs) (.slice A x.length c) x k _ _ w W hBW (owI_to ho (fun b hb' => ⟨hb', hb b hb'⟩)) hq).mono ?_
  rintro e w' ⟨rfl, hR, hb', hk'⟩
  obtain ⟨bs', ho', hbs'⟩ := owI_of hR
  exact ⟨rfl, ⟨bs', ho', fun b hb => (hbs' b hb).1⟩, Tr.of_kept hBW hb' hk'⟩
theorem markII_c {w W0 W : World} {x : List (List Int)} {A : Option Addr} {c : Nat} {bs : List Nat} (k : Int) (h : oII W0 x A x.length c bs) (hb : ∀ b, b ∈ bs → w.heap.size ≤ b) (hB : Below w.heap.size w W0) (h0 : 0 ≤ k) (hk : k + cntII x ≤ 1099511627776) (t : tr0 W0 W) :
    Calls Try.prog 30 #[.slice A x.length c, .int .i64 k] W fun e w' => e = .returned (.int .i64 (k + cntII x)) ∧ (∃ bs', oII w' (markII k x) A x.length c bs' ∧ ∀ b, b ∈ bs' → b ∈ bs ∨ W.heap.size ≤ b) ∧ Tr (· ∈ bs) W w' := by
  have hBW := Tr.bel_ hB t (fun _ hk => hk.elim)
  have ho := owII.tr h t (fun _ _ hk => hk)
  refine (markIntSS_walk (· ∈ bs) (.slice A x.length c) x k w W hBW (owII_to ho (fun b hb' => ⟨hb', hb b hb'⟩)) h0 hk).mono ?_
  rintro e w' ⟨rfl, hS, hb', hk'⟩
  obtain ⟨bs', ho', hbs'⟩ := owII_of hS
  exact ⟨rfl, ⟨bs', ho', fun b hb => (hbs' b hb).1⟩, Tr.of_kept hBW hb' hk'⟩
theorem markII_len : ∀ (l : List (List Int)) (k : Int), (markII k l).length = l.length
  | [], _ => rfl
  | a :: r, k => by simp only [markII, List.length_cons, markII_len r]
theorem heldI_c {W0 W : World} {x : List Int} {A : Option Addr} {c : Nat} (k : Int) (h : RdI W0 (markI k x) A c) (hg : goodI x) (h0 : 0 ≤ k) (hk : k + x.length ≤ 1099511627776) (t : tr0 W0 W) :
    Calls Try.prog 31 #[.slice A x.length c, .int .i64 k] W fun e w' => e = .returned (.int .i64 (k + x.length)) ∧ tr0 W w' := by
  obtain ⟨q, hq⟩ := Ev.rounds (heldIntS_ev x k h0 (by unfold goodI at hg; omega) hk)
  have h1 := laws_heldIntS.calls q A c (markI k x) k _ W (h.tr t).2 h.1 hq
  rw [markI_len] at h1
  exact h1.mono (fun e w' hh => ⟨hh.1, tr0.drawn hh.2⟩)
theorem heldIntSS_ev : ∀ (x : List (List Int)) (k : Int), 0 ≤ k → goodII x → k + cntII x ≤ 1099511627776 → Ev (fun q => laws_heldIntSS.f q (markII k x) k) (k + cntII x) := by
  intro x k h0 hg hk
  unfold laws_heldIntSS.f
  have hml := markII_len x k
  have key : ∀ (suf pre : List (List Int)) (kx : Int), 0 ≤ kx → (∀ y, y ∈ suf → y.length ≤ 1048576) → kx + cntII suf ≤ 1099511627776 → (pre ++ suf).length ≤ 1048576 → ∀ L, L = pre ++ markII kx suf → Ev (fun q => laws_heldIntSS.l0 q L kx (pre.length : Int)) (kx + cntII suf) := by
    intro suf
    induction suf with
    | nil =>
      intro pre kx h0 hy hk hl L hL
      subst hL
      refine Ev.succ ?_
      simp only [laws_heldIntSS.l0, markII, cntII]
      refine Ev.neg (by simp) (Ev.to (Ev.now _) (by omega))
    | cons a r ih =>
      intro pre kx h0 hy hk hl L hL
      simp only [cntII] at hk
      have hc := cntII_ge r
      have hLl : L.length = pre.length + r.length + 1 := by rw [hL]; simp [markII, markII_len]; omega
      have hLi : L[pre.length]? = some (markI kx a) := by rw [hL]; simp [markII]
      have hlt : pre.length < L.length := by omega
      have hLe : L.getD pre.length [] = markI kx a := by rw [List.getD_eq_getElem?_getD, hLi]; rfl
      have hrd : rd_L1 L (pre.length : Int) = markI kx a := hLe
      simp only [List.length_append, List.length_cons] at hl
      have ih2 := ih (pre ++ [a |> markI kx]) (kx + a.length) (by omega) (fun y h => hy y (List.mem_cons_of_mem _ h)) (by omega) (by simp; omega) L (by rw [hL]; simp [markII])
      rw [show ((pre ++ [markI kx a]).length : Int) = (pre.length : Int) + 1 by simp] at ih2
      refine Ev.succ ?_
      simp only [laws_heldIntSS.l0, hrd, w64n (show pre.length ≤ 9223372036854775806 by omega)]
      have hh := heldIntS_ev a kx h0 (by have := hy a List.mem_cons_self; omega) (by omega)
      refine Ev.pos (by omega) (Ev.pos (by omega) (Ev.bind hh (Ev.neg (by omega) ?_)))
      refine Ev.to (by simpa using ih2) ?_
      simp only [cntII]; omega
  have := key x [] k h0 hg.2 hk (by simpa using hg.1) (markII k x) (by simp)
  simpa using this
theorem heldII_c {W0 W : World} {x : List (List Int)} {A : Option Addr} {c : Nat} (k : Int) (h : RdII W0 (markII k x) A c) (hg : goodII x) (h0 : 0 ≤ k) (hk : k + cntII x ≤ 1099511627776) (t : tr0 W0 W) :
    Calls Try.prog 32 #[.slice A x.length c, .int .i64 k] W fun e w' => e = .returned (.int .i64 (k + cntII x)) ∧ tr0 W w' := by
  obtain ⟨q, hq⟩ := Ev.rounds (heldIntSS_ev x k h0 hg hk)
  have h1 := laws_heldIntSS.calls q A c (markII k x) k _ W (h.tr t).2 h.1 hq
  rw [markII_len] at h1
  exact h1.mono (fun e w' hh => ⟨hh.1, tr0.drawn hh.2⟩)
theorem RdII.past {W0 W : World} {x : List (List Int)} {A : Option Addr} {c : Nat} (h : RdII W0 x A c) (t : Below W0.heap.size W0 W) : RdII W x A c := ⟨h.1, Kd.C_below h.2 t⟩
theorem markI_r {w W0 W : World} {x : List Int} {A : Option Addr} {c : Nat} {bs : List Nat} {k r : Int} (hr : r = k + x.length) (h : oI W0 x A x.length c bs) (hb : ∀ b, b ∈ bs → w.heap.size ≤ b) (hB : Below w.heap.size w W0) (hg : goodI x) (hk : 0 ≤ k ∧ r ≤ 1099511627776) (t : tr0 W0 W) :
    Calls Try.prog 13 #[.slice A x.length c, .int .i64 k] W fun e w' => e = .returned (.int .i64 r) ∧ (∃ bs', oI w' (markI k x) A x.length c bs' ∧ ∀ b, b ∈ bs' → b ∈ bs ∨ W.heap.size ≤ b) ∧ Tr (· ∈ bs) W w' := by subst hr; exact markI_c k h hb hB hg hk.1 hk.2 t
theorem markII_r {w W0 W : World} {x : List (List Int)} {A : Option Addr} {c : Nat} {bs : List Nat} {k r : Int} (hr : r = k + cntII x) (h : oII W0 x A x.length c bs) (hb : ∀ b, b ∈ bs → w.heap.size ≤ b) (hB : Below w.heap.size w W0) (hg : goodII x) (hk : 0 ≤ k ∧ r ≤ 1099511627776) (t : tr0 W0 W) :
    Calls Try.prog 30 #[.slice A x.length c, .int .i64 k] W fun e w' => e = .returned (.int .i64 r) ∧ (∃ bs', oII w' (markII k x) A x.length c bs' ∧ ∀ b, b ∈ bs' → b ∈ bs ∨ W.heap.size ≤ b) ∧ Tr (· ∈ bs) W w' := by subst hr; exact markII_c k h hb hB hk.1 hk.2 t
theorem heldI_r {W0 W : World} {x : List Int} {A : Option Addr} {c : Nat} {k r : Int} (hr : r = k + x.length) (h : RdI W0 (markI k x) A c) (hg : goodI x) (hk : 0 ≤ k ∧ r ≤ 1099511627776) (t : tr0 W0 W) :
    Calls Try.prog 31 #[.slice A x.length c, .int .i64 k] W fun e w' => e = .returned (.int .i64 r) ∧ tr0 W w' := by subst hr; exact heldI_c k h hg hk.1 hk.2 t
theorem heldII_r {W0 W : World} {x : List (List Int)} {A : Option Addr} {c : Nat} {k r : Int} (hr : r = k + cntII x) (h : RdII W0 (markII k x) A c) (hg : goodII x) (hk : 0 ≤ k ∧ r ≤ 1099511627776) (t : tr0 W0 W) :
    Calls Try.prog 32 #[.slice A x.length c, .int .i64 k] W fun e w' => e = .returned (.int .i64 r) ∧ tr0 W w' := by subst hr; exact heldII_c k h hg hk.1 hk.2 t
theorem RdII.rows {W : World} {x : List (List Int)} {A : Option Addr} {c : Nat} (h : RdII W x A c) : ∀ y, y ∈ x → y.length ≤ 9223372036854775807 := fun y hy => by
  obtain ⟨i, hi, rfl⟩ := List.getElem_of_mem hy
  obtain ⟨_, _, hc⟩ := h.2.2.2 (by omega)
  obtain ⟨_, _, ⟨_, _, _, _, hC⟩, _⟩ := hc i _ (List.getElem?_eq_getElem hi)
  exact hC.2.1
theorem szII_r {W0 W : World} {x : List (List Int)} {A : Option Addr} {c : Nat} {z r : Int} (hr : r = szIntSSv x z) (h : RdII W0 x A c) (hz : -1 ≤ z ∧ z ≤ 1048576) (t : tr0 W0 W) :
    Calls Try.prog 18 #[.slice A x.length c, .int .i64 z] W fun e w' => e = .returned (.int .i64 r) ∧ tr0 W w' := by
  subst hr
  obtain ⟨k, hk⟩ := Ev.rounds (szIntSS_ev x z h.2.2.1 h.rows hz.1 hz.2)
  exact (laws_szIntSS.calls k A c x z _ W (h.tr t).2 h.1 hk).mono (fun e w' hh => ⟨hh.1, tr0.drawn hh.2⟩)
def RdN (W w' : World) (R : World → Prop) : Prop := ∀ W', (∀ k, W.heap.size ≤ k → k < w'.heap.size → W'.heap[k]? = w'.heap[k]?) → R W'
theorem RdN.now {W w' : World} {R : World → Prop} (r : RdN W w' R) : R w' := r w' (fun _ _ _ => rfl)
theorem rdn_box {W w' : World} {R : World → Prop} {g : Nat} {o : Obj} (r : RdN W w' R) (hz : W.heap[g]? = some o) : ∀ W', (∀ k, k < w'.heap.size → k ≠ g → W'.heap[k]? = w'.heap[k]?) → R W' := fun W' h => r W' (fun k h1 h2 => h k h2 (by have := blk_lt hz; omega))
theorem rdn_new {W w' : World} {R : World → Prop} (r : RdN W w' R) : ∀ W', (∀ k, k < w'.heap.size → W'.heap[k]? = w'.heap[k]?) → R W' := fun W' h => r W' (fun k _ h2 => h k h2)
theorem drew_size (w : World) : w.drew.heap.size = w.heap.size := rfl
theorem ne_obj {W : World} {a b : Nat} {cs ds : Array Value} {t t' : TypeId} {m n : Nat × Nat} (h : W.heap[a]? = some (.cells cs t m)) (h' : W.heap[b]? = some (.cells ds t' n)) (ht : t ≠ t') : a ≠ b := by
  rintro rfl
  have e := h.symm.trans h'
  simp only [Option.some.injEq, Obj.cells.injEq] at e
  exact ht e.2.1
end Go.Proofs.Ytkohcdddgjaijaa.PT
namespace Go.Proofs.Ytkohcdddgjaijaa.P
open Go.RowKit Go.Proofs.YtkohcdddgjaijaaW.PrintWords Go.Proofs.YtkohcdddgjaijaaW.PrintLast Go.Proofs.YtkohcdddgjaijaaW.PrintMore
attribute [local go_sem] max2_int min2_int max_two min_two max_three min_three max_four min_four
set_option linter.unusedVariables false
set_option linter.unusedSimpArgs false
def spec_l1Between.f (a0 : Int) (a1 : Int) (a2 : Int) : Option (Bool) := if a1 ≤ a0 then (some (decide (a0 ≤ a2))) else (some false)
set_option maxHeartbeats 8000000 in
set_option maxRecDepth 100000 in
theorem spec_l1Between.calls (a0 : Int) (a1 : Int) (a2 : Int) (r : Bool) (w : World) (h : spec_l1Between.f a0 a1 a2 = some r) :
  Calls Try.prog 42 #[.int .i64 a0, .int .i64 a1, .int .i64 a2] w fun e w' => e = .returned (.bool r) ∧ Drawn0 w w' := by
 have H : (if a1 ≤ a0 then (some (decide (a0 ≤ a2))) else (some false)) = some r := h
 clear h
 by_cases c4 : a1 ≤ a0
 ·rw [if_pos c4] at H
  have c4b0 : decide (a1 ≤ a0) = true := decide_eq_true c4
  clear c4
  obtain rfl := Option.some.inj H
  go_enter Try.func42, Try.ntmps42
  go_wp2
  go_ret
  exact ⟨by first | rfl | (simp; done) | (simp [*]; done), by repeat (first | exact Drawn0.refl _ | apply Drawn0.step)⟩
 ·rw [if_neg c4] at H
  have c4b0 : decide (a1 ≤ a0) = false := decide_eq_false c4
  clear c4
  obtain rfl := Option.some.inj H
  go_enter Try.func42, Try.ntmps42
  go_wp2
  go_ret
  exact ⟨by first | rfl | (simp; done) | (simp [*]; done), by repeat (first | exact Drawn0.refl _ | apply Drawn0.step)⟩
end Go.Proofs.Ytkohcdddgjaijaa.P
namespace Go.Proofs.Ytkohcdddgjaijaa.PT
set_option linter.unusedSimpArgs false
open Go.RowKit Go.Proofs.Ytkohcdddgjaijaa.P Go.Proofs.YtkohcdddgjaijaaW.PrintWords Go.Proofs.YtkohcdddgjaijaaW.PrintLast Go.Proofs.Ytkohcdddgjaijaa.EvKit
theorem between_v (a b c : Int) : spec_l1Between.f a b c = some (decide (b ≤ a ∧ a ≤ c)) := by
  unfold spec_l1Between.f
  by_cases h : b ≤ a
  · rw [if_pos h]; simp [h]
  · rw [if_neg h]; simp [h]
end Go.Proofs.Ytkohcdddgjaijaa.PT
namespace Go.Proofs.Ytkohcdddgjaijaa.P
open Go.RowKit Go.Proofs.YtkohcdddgjaijaaW.PrintWords Go.Proofs.YtkohcdddgjaijaaW.PrintLast Go.Proofs.YtkohcdddgjaijaaW.PrintMore
attribute [local go_sem] max2_int min2_int max_two min_two max_three min_three max_four min_four
set_option linter.unusedVariables false
set_option linter.unusedSimpArgs false
def impl_setOK.l0 : Nat → Int → List Int → Int → Int → Option (Bool)
 | 0, _, _, _, _ => none
 | k + 1, x3, x6, x7, x8 => if x8 < x7 then (if 0 ≤ x8 then (if x8 < (x6.length : Int) then (if (rd x6 x8) ≤ x3 then (some false) else (if (rd x6 x8) ≥ 6 then (some false) else (impl_setOK.l0 k (rd x6 x8) x6 x7 (wrap64 (x8 + 1))))) else (none)) else (none)) else (some true)
def impl_setOK.f (k : Nat) (l0 : List Int) : Option (Bool) := impl_setOK.l0 k (-1) l0 (l0.length : Int) 0
theorem impl_setOK.mono_l : ∀ k, (∀ y0 y1 y2 y3, LeO (impl_setOK.l0 k y0 y1 y2 y3) (impl_setOK.l0 (k + 1) y0 y1 y2 y3))
 | 0 => fun _ _ _ _ r h => by simp [impl_setOK.l0] at h
 | k + 1 => by
  have ih0 := impl_setOK.mono_l k
  ·intro y0 y1 y2 y3
   unfold impl_setOK.l0
   repeat' first
   | (with_reducible exact ih0 _ _ _ _)
   | (with_reducible exact LeO.refl _)
   | (with_reducible exact LeO.none _)
   | (with_reducible refine LeO.ite ?_ ?_)
   | (with_reducible refine LeO.bind ?_ (fun _ => ?_))
   | exact ih0 _ _ _ _
   | exact LeO.none _
   | refine LeO.ite ?_ ?_
   | refine LeO.bind ?_ (fun _ => ?_)
theorem impl_setOK.mono : ∀ a0 k, LeO (impl_setOK.f k a0) (impl_setOK.f (k + 1) a0) := by
 intro a0 k
 have ih0 := impl_setOK.mono_l k
 unfold impl_setOK.f
 repeat' first
   | (with_reducible exact ih0 _ _ _ _)
   | (with_reducible exact LeO.refl _)
   | (with_reducible exact LeO.none _)
   | (with_reducible refine LeO.ite ?_ ?_)
   | (with_reducible refine LeO.bind ?_ (fun _ => ?_))
   | exact ih0 _ _ _ _
   | exact LeO.none _
   | refine LeO.ite ?_ ?_
   | refine LeO.bind ?_ (fun _ => ?_)
set_option maxHeartbeats 8000000 in
set_option maxRecDepth 100000 in
theorem impl_setOK.calls (k : Nat) (A0 : Option Addr) (c0 : Nat) (l0 : List Int) (r : Bool) (w : World) (hr0 : Kd.C (Kd.int .i64) w A0 l0.length l0) (hc0 : l0.length ≤ c0) (h : impl_setOK.f k l0 = some r) :
  Calls Try.prog 25 #[.slice A0 l0.length c0] w fun e w' => e = .returned (.bool r) ∧ Drawn0 w w' := by
 have HR0 := Aside0.mk hr0
 have HC0 := Aside0.mk hc0
 clear hr0 hc0
 have H : (impl_setOK.l0 k (-1) l0 (l0.length : Int) 0) = some r := h
 clear h
 have H' := Aside0.mk H
 clear H
 go_enter Try.func25, Try.ntmps25
 go_wp2
 go_loopg [3, 8] k (fun kq v3 v8 w' => ∃ (x3_1 : Int) (x8_1 : Int), v3 = .int .i64 x3_1 ∧ v8 = .int .i64 x8_1 ∧ Aside0 (impl_setOK.l0 kq x3_1 l0 (l0.length : Int) x8_1 = some r) ∧ Aside0 (kq ≤ k) ∧ Drawn0 w w')
 case atStart => exact ⟨((-1)), (0), (by first | rfl | (simp; done) | (simp [*]; done)), (by first | rfl | (simp; done) | (simp [*]; done)), H', ⟨Nat.le_refl _⟩, by repeat (first | exact Drawn0.refl _ | apply Drawn0.step)⟩
 case round =>
  clear H'
  obtain ⟨x3_1, x8_1, rfl, rfl, HA, HK1, ⟨m1, rfl⟩⟩ := hrel
  cases gk with
  | zero => exact absurd HA.out (by simp [impl_setOK.l0])
  | succ k1 =>
   have H := HA.out
   clear HA
   simp only [impl_setOK.l0] at H
   by_cases c2 : x8_1 < (l0.length : Int)
   ·rw [if_pos c2] at H
    have c2b0 : decide (x8_1 < (l0.length : Int)) = true := decide_eq_true c2
    clear c2
    by_cases c3 : 0 ≤ x8_1
    ·rw [if_pos c3] at H
     have c3b0 : decide (0 ≤ x8_1) = true := decide_eq_true c3
     clear c3
     by_cases c4 : x8_1 < (l0.length : Int)
     ·rw [if_pos c4] at H
      have c4b0 : decide (x8_1 < (l0.length : Int)) = true := decide_eq_true c4
      clear c4
      by_cases c5 : (rd l0 x8_1) ≤ x3_1
      ·rw [if_pos c5] at H
       have c5b0 : decide ((rd l0 x8_1) ≤ x3_1) = true := decide_eq_true c5
       clear c5
       obtain rfl := Option.some.inj H
       have p240 : 0 ≤ (x8_1 : Int) := of_decide_eq_true (by first | (with_reducible assumption) | assumption)
       have q240 : x8_1 < (l0.length : Int) := of_decide_eq_true (by first | (with_reducible assumption) | assumption)
       obtain ⟨ad240, e240, hx240_0⟩ := Kd.at_int HR0.out x8_1 p240 q240
       cases e240
       replace p240 := eq_true p240
       replace q240 := eq_true q240
       go_wp2
       go_ret
       exact ⟨by first | rfl | (simp; done) | (simp [*]; done), by repeat (first | exact Drawn0.refl _ | apply Drawn0.step)⟩
      ·rw [if_neg c5] at H
       have c5b0 : decide ((rd l0 x8_1) ≤ x3_1) = false := decide_eq_false c5
       clear c5
       by_cases c6 : (rd l0 x8_1) ≥ 6
       ·rw [if_pos c6] at H
        have c6b0 : decide (6 ≤ (rd l0 x8_1)) = true := decide_eq_true c6
        clear c6
        obtain rfl := Option.some.inj H
        have p240 : 0 ≤ (x8_1 : Int) := of_decide_eq_true (by first | (with_reducible assumption) | assumption)
        have q240 : x8_1 < (l0.length : Int) := of_decide_eq_true (by first | (with_reducible assumption) | assumption)
        obtain ⟨ad240, e240, hx240_0⟩ := Kd.at_int HR0.out x8_1 p240 q240
        cases e240
        replace p240 := eq_true p240
        replace q240 := eq_true q240
        go_wp2
        go_ret
        exact ⟨by first | rfl | (simp; done) | (simp [*]; done), by repeat (first | exact Drawn0.refl _ | apply Drawn0.step)⟩
       ·rw [if_neg c6] at H
        have c6b0 : decide (6 ≤ (rd l0 x8_1)) = false := decide_eq_false c6
        clear c6
        have H' := Aside0.mk H
        clear H
        have p240 : 0 ≤ (x8_1 : Int) := of_decide_eq_true (by first | (with_reducible assumption) | assumption)
        have q240 : x8_1 < (l0.length : Int) := of_decide_eq_true (by first | (with_reducible assumption) | assumption)
        obtain ⟨ad240, e240, hx240_0⟩ := Kd.at_int HR0.out x8_1 p240 q240
        cases e240
        replace p240 := eq_true p240
        replace q240 := eq_true q240
        go_wp2
        go_roundg k1
        case measure => have := HK1.out; omega
        case rel => exact ⟨(rd l0 x8_1), (wrap64 (x8_1 + 1)), (by first | rfl | (simp; done) | (simp [*]; done)), (by first | rfl | (simp; done) | (simp [*]; done)), H', ⟨by have := HK1.out; omega⟩, by repeat (first | exact Drawn0.refl _ | apply Drawn0.step)⟩
     ·rw [if_neg c4] at H
      exact absurd H (by simp)
    ·rw [if_neg c3] at H
     exact absurd H (by simp)
   ·rw [if_neg c2] at H
    have c2b0 : decide (x8_1 < (l0.length : Int)) = false := decide_eq_false c2
    clear c2
    obtain rfl := Option.some.inj H
    go_wp2
    go_ret
    exact ⟨by first | rfl | (simp; done) | (simp [*]; done), by repeat (first | exact Drawn0.refl _ | apply Drawn0.step)⟩
end Go.Proofs.Ytkohcdddgjaijaa.P
namespace Go.Proofs.Ytkohcdddgjaijaa.P
open Go.RowKit Go.Proofs.YtkohcdddgjaijaaW.PrintWords Go.Proofs.YtkohcdddgjaijaaW.PrintLast Go.Proofs.YtkohcdddgjaijaaW.PrintMore
attribute [local go_sem] max2_int min2_int max_two min_two max_three min_three max_four min_four
set_option linter.unusedVariables false
set_option linter.unusedSimpArgs false
def spec_l1SetOK.l0 : Nat → List Int → Int → List Int → Int → Int → Option (Bool)
 | 0, _, _, _, _, _ => none
 | k + 1, x0, x1, x7, x8, x9 => if x9 < x8 then (if 0 ≤ x9 then (if x9 < (x7.length : Int) then ((spec_l1Between.f (rd x7 x9) 0 (wrap64 (x1 - 1))).bind fun t108 => (if t108 = true then (if x9 > 0 then (if 0 ≤ (wrap64 (x9 - 1)) then (if (wrap64 (x9 - 1)) < (x0.length : Int) then (if (rd x7 x9) ≤ (rd x0 (wrap64 (x9 - 1))) then (some false) else (spec_l1SetOK.l0 k x0 x1 x7 x8 (wrap64 (x9 + 1)))) else (none)) else (none)) else (spec_l1SetOK.l0 k x0 x1 x7 x8 (wrap64 (x9 + 1)))) else (some false))) else (none)) else (none)) else (some true)
def spec_l1SetOK.f (k : Nat) (l0 : List Int) (a1 : Int) : Option (Bool) := spec_l1SetOK.l0 k l0 a1 l0 (l0.length : Int) 0
theorem spec_l1SetOK.mono_l : ∀ k, (∀ y0 y1 y2 y3 y4, LeO (spec_l1SetOK.l0 k y0 y1 y2 y3 y4) (spec_l1SetOK.l0 (k + 1) y0 y1 y2 y3 y4))
 | 0 => fun _ _ _ _ _ r h => by simp [spec_l1SetOK.l0] at h
 | k + 1 => by
  have ih0 := spec_l1SetOK.mono_l k
  ·intro y0 y1 y2 y3 y4
   unfold spec_l1SetOK.l0
   repeat' first
   | (with_reducible exact ih0 _ _ _ _ _)
   | (with_reducible exact LeO.refl _)
   | (with_reducible exact LeO.none _)
   | (with_reducible refine LeO.ite ?_ ?_)
   | (with_reducible refine LeO.bind ?_ (fun _ => ?_))
   | exact ih0 _ _ _ _ _
   | exact LeO.none _
   | refine LeO.ite ?_ ?_
   | refine LeO.bind ?_ (fun _ => ?_)
theorem spec_l1SetOK.mono : ∀ a0 a1 k, LeO (spec_l1SetOK.f k a0 a1) (spec_l1SetOK.f (k + 1) a0 a1) := by
 intro a0 a1 k
 have ih0 := spec_l1SetOK.mono_l k
 unfold spec_l1SetOK.f
 repeat' first
   | (with_reducible exact ih0 _ _ _ _ _)
   | (with_reducible exact LeO.refl _)
   | (with_reducible exact LeO.none _)
   | (with_reducible refine LeO.ite ?_ ?_)
   | (with_reducible refine LeO.bind ?_ (fun _ => ?_))
   | exact ih0 _ _ _ _ _
   | exact LeO.none _
   | refine LeO.ite ?_ ?_
   | refine LeO.bind ?_ (fun _ => ?_)
set_option maxHeartbeats 8000000 in
set_option maxRecDepth 100000 in
theorem spec_l1SetOK.calls (k : Nat) (A0 : Option Addr) (c0 : Nat) (l0 : List Int) (a1 : Int) (r : Bool) (w : World) (hr0 : Kd.C (Kd.int .i64) w A0 l0.length l0) (hc0 : l0.length ≤ c0) (h : spec_l1SetOK.f k l0 a1 = some r) :
  Calls Try.prog 20 #[.slice A0 l0.length c0, .int .i64 a1] w fun e w' => e = .returned (.bool r) ∧ Drawn0 w w' := by
 have HR0 := Aside0.mk hr0
 have HC0 := Aside0.mk hc0
 clear hr0 hc0
 have H : (spec_l1SetOK.l0 k l0 a1 l0 (l0.length : Int) 0) = some r := h
 clear h
 have H' := Aside0.mk H
 clear H
 go_enter Try.func20, Try.ntmps20
 go_wp2
 go_loopg [9] k (fun kq v9 w' => ∃ (x9_1 : Int), v9 = .int .i64 x9_1 ∧ Aside0 (spec_l1SetOK.l0 kq l0 a1 l0 (l0.length : Int) x9_1 = some r) ∧ Aside0 (kq ≤ k) ∧ Drawn0 w w')
 case atStart => exact ⟨(0), (by first | rfl | (simp; done) | (simp [*]; done)), H', ⟨Nat.le_refl _⟩, by repeat (first | exact Drawn0.refl _ | apply Drawn0.step)⟩
 case round =>
  clear H'
  try clear c2
  try clear p2
  obtain ⟨x9_1, rfl, HA, HK1, ⟨m1, rfl⟩⟩ := hrel
  cases gk with
  | zero => exact absurd HA.out (by simp [spec_l1SetOK.l0])
  | succ k1 =>
   have H := HA.out
   clear HA
   simp only [spec_l1SetOK.l0] at H
   by_cases c3 : x9_1 < (l0.length : Int)
   ·rw [if_pos c3] at H
    have c3b0 : decide (x9_1 < (l0.length : Int)) = true := decide_eq_true c3
    clear c3
    by_cases c4 : 0 ≤ x9_1
    ·rw [if_pos c4] at H
     have c4b0 : decide (0 ≤ x9_1) = true := decide_eq_true c4
     clear c4
     by_cases c5 : x9_1 < (l0.length : Int)
     ·rw [if_pos c5] at H
      have c5b0 : decide (x9_1 < (l0.length : Int)) = true := decide_eq_true c5
      clear c5
      replace H := Option.bind_eq_some_iff.mp H
      obtain ⟨t108, A60, H⟩ := H
      replace H : (if t108 = true then (if x9_1 > 0 then (if 0 ≤ (wrap64 (x9_1 - 1)) then (if (wrap64 (x9_1 - 1)) < (l0.length : Int) then (if (rd l0 x9_1) ≤ (rd l0 (wrap64 (x9_1 - 1))) then (some false) else (spec_l1SetOK.l0 k1 l0 a1 l0 (l0.length : Int) (wrap64 (x9_1 + 1)))) else (none)) else (none)) else (spec_l1SetOK.l0 k1 l0 a1 l0 (l0.length : Int) (wrap64 (x9_1 + 1)))) else (some false)) = some r := H
      have A6 := Aside0.mk A60
      clear A60
      by_cases c7 : t108 = true
      ·subst c7
       have H1 : (if x9_1 > 0 then (if 0 ≤ (wrap64 (x9_1 - 1)) then (if (wrap64 (x9_1 - 1)) < (l0.length : Int) then (if (rd l0 x9_1) ≤ (rd l0 (wrap64 (x9_1 - 1))) then (some false) else (spec_l1SetOK.l0 k1 l0 a1 l0 (l0.length : Int) (wrap64 (x9_1 + 1)))) else (none)) else (none)) else (spec_l1SetOK.l0 k1 l0 a1 l0 (l0.length : Int) (wrap64 (x9_1 + 1)))) = some r := by rw [if_pos rfl] at H; exact H
       clear H
       have H := H1
       clear H1
       by_cases c8 : x9_1 > 0
       ·rw [if_pos c8] at H
        have c8b0 : decide (0 < x9_1) = true := decide_eq_true c8
        clear c8
        obtain ⟨ji9, hji9⟩ : ∃ j_ : Int, (wrap64 (x9_1 - 1)) = j_ := ⟨_, rfl⟩
        replace H : (if 0 ≤ (ji9) then (if (ji9) < (l0.length : Int) then (if (rd l0 x9_1) ≤ (rd l0 (ji9)) then (some false) else (spec_l1SetOK.l0 k1 l0 a1 l0 (l0.length : Int) (wrap64 (x9_1 + 1)))) else (none)) else (none)) = some r := by first | (rw [hji9] at H; exact H) | (simp only [hji9] at H ⊢; exact H)
        (try rw [hji9] at A6)
        have hji9w : (IntKind.i64.wrap (x9_1 - 1)) = ji9 := (i64_w _).trans hji9
        by_cases c10 : 0 ≤ (ji9)
        ·rw [if_pos c10] at H
         have c10b0 : decide (0 ≤ (ji9)) = true := decide_eq_true c10
         clear c10
         by_cases c11 : (ji9) < (l0.length : Int)
         ·rw [if_pos c11] at H
          have c11b0 : decide ((ji9) < (l0.length : Int)) = true := decide_eq_true c11
          clear c11
          by_cases c12 : (rd l0 x9_1) ≤ (rd l0 (ji9))
          ·rw [if_pos c12] at H
           have c12b0 : decide ((rd l0 x9_1) ≤ (rd l0 (ji9))) = true := decide_eq_true c12
           clear c12
           obtain rfl := Option.some.inj H
           have p107 : 0 ≤ (x9_1 : Int) := of_decide_eq_true (by first | (with_reducible assumption) | assumption)
           have q107 : x9_1 < (l0.length : Int) := of_decide_eq_true (by first | (with_reducible assumption) | assumption)
           obtain ⟨ad107, e107, hx107_0⟩ := Kd.at_int HR0.out x9_1 p107 q107
           cases e107
           replace p107 := eq_true p107
           replace q107 := eq_true q107
           go_wp2_with (first | ((with_reducible refine gate_callee (f := 42) rfl ?_); refine goesL_ (some 17) rfl rfl Try.func42 (by kernel_rfl) rfl #[.int .i64 (rd l0 x9_1), .int .i64 0, .int .i64 (wrap64 (a1 - 1))] rfl (by (try simp only [List.map_toArray, List.map_cons, List.map_nil]); first | done | rfl | (simp only [List.length_drop, List.length_take]; rfl)) ?_; (with_reducible refine (spec_l1Between.calls (rd l0 x9_1) 0 (wrap64 (a1 - 1)) true _ A6.out).mono ?_); rintro e w' ⟨rfl, ⟨nd, rfl⟩⟩; refine ⟨_, rfl, ?_⟩; have p109 : 0 ≤ ((ji9) : Int) := of_decide_eq_true (by first | (with_reducible assumption) | assumption); have q109 : (ji9) < (l0.length : Int) := of_decide_eq_true (by first | (with_reducible assumption) | assumption); obtain ⟨ad109, e109, hx109_0⟩ := Kd.at_int HR0.out (ji9) p109 q109; obtain rfl : ad107 = ad109 := (by injection e109); replace p109 := eq_true p109; replace q109 := eq_true q109))
           go_ret
           exact ⟨by first | rfl | (simp; done) | (simp only [← hji9] <;> (first | rfl | simp)) | (simp [*]; done), by repeat (first | exact Drawn0.refl _ | apply Drawn0.step)⟩
          ·rw [if_neg c12] at H
           have c12b0 : decide ((rd l0 x9_1) ≤ (rd l0 (ji9))) = false := decide_eq_false c12
           clear c12
           have H' := Aside0.mk H
           clear H
           have p107 : 0 ≤ (x9_1 : Int) := of_decide_eq_true (by first | (with_reducible assumption) | assumption)
           have q107 : x9_1 < (l0.length : Int) := of_decide_eq_true (by first | (with_reducible assumption) | assumption)
           obtain ⟨ad107, e107, hx107_0⟩ := Kd.at_int HR0.out x9_1 p107 q107
           cases e107
           replace p107 := eq_true p107
           replace q107 := eq_true q107
           go_wp2_with (first | ((with_reducible refine gate_callee (f := 42) rfl ?_); refine goesL_ (some 17) rfl rfl Try.func42 (by kernel_rfl) rfl #[.int .i64 (rd l0 x9_1), .int .i64 0, .int .i64 (wrap64 (a1 - 1))] rfl (by (try simp only [List.map_toArray, List.map_cons, List.map_nil]); first | done | rfl | (simp only [List.length_drop, List.length_take]; rfl)) ?_; (with_reducible refine (spec_l1Between.calls (rd l0 x9_1) 0 (wrap64 (a1 - 1)) true _ A6.out).mono ?_); rintro e w' ⟨rfl, ⟨nd, rfl⟩⟩; refine ⟨_, rfl, ?_⟩; have p109 : 0 ≤ ((ji9) : Int) := of_decide_eq_true (by first | (with_reducible assumption) | assumption); have q109 : (ji9) < (l0.length : Int) := of_decide_eq_true (by first | (with_reducible assumption) | assumption); obtain ⟨ad109, e109, hx109_0⟩ := Kd.at_int HR0.out (ji9) p109 q109; obtain rfl : ad107 = ad109 := (by injection e109); replace p109 := eq_true p109; replace q109 := eq_true q109))
           go_roundg k1
           case measure => have := HK1.out; omega
           case rel => exact ⟨(wrap64 (x9_1 + 1)), (by first | rfl | (simp; done) | (simp [*]; done)), H', ⟨by have := HK1.out; omega⟩, by repeat (first | exact Drawn0.refl _ | apply Drawn0.step)⟩
         ·rw [if_neg c11] at H
          exact absurd H (by simp)
        ·rw [if_neg c10] at H
         exact absurd H (by simp)
       ·rw [if_neg c8] at H
        have c8b0 : decide (0 < x9_1) = false := decide_eq_false c8
        clear c8
        have H' := Aside0.mk H
        clear H
        have p107 : 0 ≤ (x9_1 : Int) := of_decide_eq_true (by first | (with_reducible assumption) | assumption)
        have q107 : x9_1 < (l0.length : Int) := of_decide_eq_true (by first | (with_reducible assumption) | assumption)
        obtain ⟨ad107, e107, hx107_0⟩ := Kd.at_int HR0.out x9_1 p107 q107
        cases e107
        replace p107 := eq_true p107
        replace q107 := eq_true q107
        go_wp2_with (first | ((with_reducible refine gate_callee (f := 42) rfl ?_); refine goesL_ (some 17) rfl rfl Try.func42 (by kernel_rfl) rfl #[.int .i64 (rd l0 x9_1), .int .i64 0, .int .i64 (wrap64 (a1 - 1))] rfl (by (try simp only [List.map_toArray, List.map_cons, List.map_nil]); first | done | rfl | (simp only [List.length_drop, List.length_take]; rfl)) ?_; (with_reducible refine (spec_l1Between.calls (rd l0 x9_1) 0 (wrap64 (a1 - 1)) true _ A6.out).mono ?_); rintro e w' ⟨rfl, ⟨nd, rfl⟩⟩; refine ⟨_, rfl, ?_⟩))
        go_roundg k1
        case measure => have := HK1.out; omega
        case rel => exact ⟨(wrap64 (x9_1 + 1)), (by first | rfl | (simp; done) | (simp [*]; done)), H', ⟨by have := HK1.out; omega⟩, by repeat (first | exact Drawn0.refl _ | apply Drawn0.step)⟩
      ·replace c7 := Bool.eq_false_iff.mpr c7
       subst c7
       have H1 : (some false) = some r := by rw [if_neg (show ¬ (false = true) by decide)] at H; exact H
       clear H
       have H := H1
       clear H1
       obtain rfl := Option.some.inj H
       have p107 : 0 ≤ (x9_1 : Int) := of_decide_eq_true (by first | (with_reducible assumption) | assumption)
       have q107 : x9_1 < (l0.length : Int) := of_decide_eq_true (by first | (with_reducible assumption) | assumption)
       obtain ⟨ad107, e107, hx107_0⟩ := Kd.at_int HR0.out x9_1 p107 q107
       cases e107
       replace p107 := eq_true p107
       replace q107 := eq_true q107
       go_wp2_with (first | ((with_reducible refine gate_callee (f := 42) rfl ?_); refine goesL_ (some 17) rfl rfl Try.func42 (by kernel_rfl) rfl #[.int .i64 (rd l0 x9_1), .int .i64 0, .int .i64 (wrap64 (a1 - 1))] rfl (by (try simp only [List.map_toArray, List.map_cons, List.map_nil]); first | done | rfl | (simp only [List.length_drop, List.length_take]; rfl)) ?_; (with_reducible refine (spec_l1Between.calls (rd l0 x9_1) 0 (wrap64 (a1 - 1)) false _ A6.out).mono ?_); rintro e w' ⟨rfl, ⟨nd, rfl⟩⟩; refine ⟨_, rfl, ?_⟩))
       go_ret
       exact ⟨by first | rfl | (simp; done) | (simp [*]; done), by repeat (first | exact Drawn0.refl _ | apply Drawn0.step)⟩
     ·rw [if_neg c5] at H
      exact absurd H (by simp)
    ·rw [if_neg c4] at H
     exact absurd H (by simp)
   ·rw [if_neg c3] at H
    have c3b0 : decide (x9_1 < (l0.length : Int)) = false := decide_eq_false c3
    clear c3
    obtain rfl := Option.some.inj H
    go_wp2
    go_ret
    exact ⟨by first | rfl | (simp; done) | (simp [*]; done), by repeat (first | exact Drawn0.refl _ | apply Drawn0.step)⟩
end Go.Proofs.Ytkohcdddgjaijaa.P
namespace Go.Proofs.Ytkohcdddgjaijaa.PT
set_option linter.unusedSimpArgs false
open Go.RowKit Go.Proofs.Ytkohcdddgjaijaa.P Go.Proofs.YtkohcdddgjaijaaW.PrintWords Go.Proofs.YtkohcdddgjaijaaW.PrintLast Go.Proofs.Ytkohcdddgjaijaa.EvKit
def asc (last : Int) : List Int → Bool
  | [] => true
  | v :: r => decide (last < v) && decide (v < 6) && asc v r
theorem setOK_l0 (l : List Int) (hl : l.length ≤ 9223372036854775806) : ∀ d i, i + d = l.length → ∀ last, Ev (fun k => impl_setOK.l0 k last l (l.length : Int) (i : Int)) (asc last (l.drop i)) := by
  intro d
  induction d with
  | zero =>
    intro i hi last
    refine Ev.succ ?_
    simp only [impl_setOK.l0, if_neg (show ¬ ((i : Int) < (l.length : Int)) by omega)]
    rw [List.drop_of_length_le (by omega)]; exact Ev.now _
  | succ d ih =>
    intro i hi last
    have hlt : i < l.length := by omega
    refine Ev.succ ?_
    simp only [impl_setOK.l0, if_pos (show ((i : Int) < (l.length : Int)) by omega), if_pos (show (0 : Int) ≤ (i : Int) by omega), rd_at hlt, w64n (show i ≤ 9223372036854775806 by omega)]
    rw [drop_at hlt]
    simp only [asc]
    by_cases h1 : l[i] ≤ last
    · simp only [if_pos h1, show ¬ (last < l[i]) by omega, decide_false, Bool.false_and]; exact Ev.now _
    · by_cases h2 : l[i] ≥ 6
      · simp only [if_neg h1, if_pos h2, show ¬ (l[i] < 6) by omega, decide_false, Bool.false_and, Bool.and_false]; exact Ev.now _
      · simp only [if_neg h1, if_neg h2, show (last < l[i]) by omega, show (l[i] < 6) by omega, decide_true, Bool.true_and]
        exact ih (i + 1) (by omega) _
theorem setOK_ev (l : List Int) (hl : l.length ≤ 9223372036854775806) : Ev (fun k => impl_setOK.f k l) (asc (-1) l) := by
  unfold impl_setOK.f
  have := setOK_l0 l hl l.length 0 (by omega) (-1)
  simpa using this
def before (l : List Int) (i : Nat) : Int := if i = 0 then -1 else l.getD (i - 1) 0
theorem l1SetOK_l0 (l : List Int) (hl : l.length ≤ 9223372036854775806) : ∀ i, i ≤ l.length → -1 ≤ before l i → Ev (fun k => spec_l1SetOK.l0 k l 6 l (l.length : Int) (i : Int)) (asc (before l i) (l.drop i)) := by
  have key : ∀ d i, i + d = l.length → -1 ≤ before l i → Ev (fun k => spec_l1SetOK.l0 k l 6 l (l.length : Int) (i : Int)) (asc (before l i) (l.drop i)) := by
    intro d
    induction d with
    | zero =>
      intro i hi _
      refine Ev.succ ?_
      simp only [spec_l1SetOK.l0, if_neg (show ¬ ((i : Int) < (l.length : Int)) by omega)]
      rw [List.drop_of_length_le (by omega)]; exact Ev.now _
    | succ d ih =>
      intro i hi hb
      have hlt : i < l.length := by omega
      refine Ev.succ ?_
      simp only [spec_l1SetOK.l0, if_pos (show ((i : Int) < (l.length : Int)) by omega), if_pos (show (0 : Int) ≤ (i : Int) by omega), rd_at hlt, w64n (show i ≤ 9223372036854775806 by omega), between_v, Option.bind_some,
        show wrap64 (6 - 1) = 5 from by unfold wrap64; omega, decide_eq_true_eq]
      rw [drop_at hlt]
      simp only [asc]
      have hnext : before l (i + 1) = l[i] := by unfold before; simp [List.getD_eq_getElem?_getD, hlt]
      have ih' := ih (i + 1) (by omega)
      rw [hnext] at ih'
      by_cases h0 : i = 0
      · subst h0
        simp only [show ¬ (((0 : Nat) : Int) > 0) by omega, if_false]
        have hb0 : before l 0 = -1 := rfl
        rw [hb0]
        by_cases h1 : 0 ≤ l[0] ∧ l[0] ≤ 5
        · simp only [show (-1 : Int) < l[0] by omega, show l[0] < 6 by omega, decide_true, Bool.true_and]
          exact Ev.congr (fun _ => if_pos h1) (ih' (by omega))
        · have : (decide ((-1 : Int) < l[0]) && decide (l[0] < 6) && asc l[0] (l.drop (0 + 1))) = false := by
            simp only [Bool.and_eq_false_iff, decide_eq_false_iff_not]; left; omega
          rw [this]; exact Ev.congr (fun _ => if_neg h1) (Ev.now _)
      · have hw : wrap64 ((i : Int) - 1) = ((i - 1 : Nat) : Int) := by unfold wrap64; omega
        have hb0 : before l i = l[i - 1] := by unfold before; rw [if_neg h0]; simp [List.getD_eq_getElem?_getD, show i - 1 < l.length by omega]
        rw [hb0] at hb ⊢
        simp only [show ((i : Int) > 0) by omega, if_true, hw, show (0 : Int) ≤ ((i - 1 : Nat) : Int) by omega, show (((i - 1 : Nat) : Int) < (l.length : Int)) by omega, rd_at (show i - 1 < l.length by omega)]
        by_cases h1 : 0 ≤ l[i] ∧ l[i] ≤ 5
        · by_cases h2 : l[i] ≤ l[i - 1]
          · simp only [if_pos h1, if_pos h2, show ¬ (l[i - 1] < l[i]) by omega, decide_false, Bool.false_and]; exact Ev.now _
          · simp only [if_pos h1, if_neg h2, show (l[i - 1] < l[i]) by omega, show l[i] < 6 by omega, decide_true, Bool.true_and]
            exact ih' (by omega)
        · simp only [if_neg h1]
          have : (decide (l[i - 1] < l[i]) && decide (l[i] < 6) && asc l[i] (l.drop (i + 1))) = false := by
            simp only [Bool.and_eq_false_iff, decide_eq_false_iff_not]; left; omega
          rw [this]; exact Ev.now _
  intro i hi hb
  exact key (l.length - i) i (by omega) hb
theorem l1SetOK_ev (l : List Int) (hl : l.length ≤ 9223372036854775806) : Ev (fun k => spec_l1SetOK.f k l 6) (asc (-1) l) := by
  unfold spec_l1SetOK.f
  have := l1SetOK_l0 l hl 0 (by omega) (by simp [before])
  simpa [before] using this
end Go.Proofs.Ytkohcdddgjaijaa.PT
namespace Go.Proofs.Ytkohcdddgjaijaa.P
open Go.RowKit Go.Proofs.YtkohcdddgjaijaaW.PrintWords Go.Proofs.YtkohcdddgjaijaaW.PrintLast Go.Proofs.YtkohcdddgjaijaaW.PrintMore
attribute [local go_sem] max2_int min2_int max_two min_two max_three min_three max_four min_four
set_option linter.unusedVariables false
set_option linter.unusedSimpArgs false
def cmp_isNaN_int.f (a0 : Int) : Option (Bool) := some (a0 != a0)
set_option maxHeartbeats 8000000 in
set_option maxRecDepth 100000 in
theorem cmp_isNaN_int.calls (a0 : Int) (r : Bool) (w : World) (h : cmp_isNaN_int.f a0 = some r) :
  Calls Try.prog 58 #[.int .i64 a0] w fun e w' => e = .returned (.bool r) ∧ Drawn0 w w' := by
 have H : (some (a0 != a0)) = some r := h
 clear h
 obtain rfl := Option.some.inj H
 go_enter Try.func58, Try.ntmps58
 go_wp2
 go_ret
 exact ⟨by first | rfl | (simp; done) | (simp [*]; done), by repeat (first | exact Drawn0.refl _ | apply Drawn0.step)⟩
end Go.Proofs.Ytkohcdddgjaijaa.P
namespace Go.Proofs.Ytkohcdddgjaijaa.P
open Go.RowKit Go.Proofs.YtkohcdddgjaijaaW.PrintWords Go.Proofs.YtkohcdddgjaijaaW.PrintLast Go.Proofs.YtkohcdddgjaijaaW.PrintMore
attribute [local go_sem] max2_int min2_int max_two min_two max_three min_three max_four min_four
set_option linter.unusedVariables false
set_option linter.unusedSimpArgs false
def cmp_Compare_int.f (a0 : Int) (a1 : Int) : Option (Int) := (cmp_isNaN_int.f a0).bind fun t241 => ((cmp_isNaN_int.f a1).bind fun t242 => (if t241 = true then (if t242 = true then (some 0) else (some (-1))) else (if t242 = true then (some 1) else (if a0 < a1 then (some (-1)) else (if a0 > a1 then (some 1) else (some 0))))))
set_option maxHeartbeats 8000000 in
set_option maxRecDepth 100000 in
theorem cmp_Compare_int.calls (a0 : Int) (a1 : Int) (r : Int) (w : World) (h : cmp_Compare_int.f a0 a1 = some r) :
  Calls Try.prog 52 #[.int .i64 a0, .int .i64 a1] w fun e w' => e = .returned (.int .i64 r) ∧ Drawn0 w w' := by
 have H : ((cmp_isNaN_int.f a0).bind fun t241 => ((cmp_isNaN_int.f a1).bind fun t242 => (if t241 = true then (if t242 = true then (some 0) else (some (-1))) else (if t242 = true then (some 1) else (if a0 < a1 then (some (-1)) else (if a0 > a1 then (some 1) else (some 0))))))) = some r := h
 clear h
 replace H := Option.bind_eq_some_iff.mp H
 obtain ⟨t241, A30, H⟩ := H
 replace H : ((cmp_isNaN_int.f a1).bind fun t242 => (if t241 = true then (if t242 = true then (some 0) else (some (-1))) else (if t242 = true then (some 1) else (if a0 < a1 then (some (-1)) else (if a0 > a1 then (some 1) else (some 0)))))) = some r := H
 have A3 := Aside0.mk A30
 clear A30
 replace H := Option.bind_eq_some_iff.mp H
 obtain ⟨t242, A40, H⟩ := H
 replace H : (if t241 = true then (if t242 = true then (some 0) else (some (-1))) else (if t242 = true then (some 1) else (if a0 < a1 then (some (-1)) else (if a0 > a1 then (some 1) else (some 0))))) = some r := H
 have A4 := Aside0.mk A40
 clear A40
 by_cases c5 : t241 = true
 ·subst c5
  have H1 : (if t242 = true then (some 0) else (some (-1))) = some r := by rw [if_pos rfl] at H; exact H
  clear H
  have H := H1
  clear H1
  by_cases c6 : t242 = true
  ·subst c6
   have H1 : (some 0) = some r := by rw [if_pos rfl] at H; exact H
   clear H
   have H := H1
   clear H1
   obtain rfl := Option.some.inj H
   go_enter Try.func52, Try.ntmps52
   go_wp2_with (first | ((with_reducible refine gate_callee (f := 58) rfl ?_); refine goesL_ (some 8) rfl rfl Try.func58 (by kernel_rfl) rfl #[.int .i64 a0] rfl (by (try simp only [List.map_toArray, List.map_cons, List.map_nil]); first | done | rfl | (simp only [List.length_drop, List.length_take]; rfl)) ?_; (with_reducible refine (cmp_isNaN_int.calls a0 true _ A3.out).mono ?_); rintro e w' ⟨rfl, ⟨nd, rfl⟩⟩; refine ⟨_, rfl, ?_⟩) | ((with_reducible refine gate_callee (f := 58) rfl ?_); refine goesL_ (some 10) rfl rfl Try.func58 (by kernel_rfl) rfl #[.int .i64 a1] rfl (by (try simp only [List.map_toArray, List.map_cons, List.map_nil]); first | done | rfl | (simp only [List.length_drop, List.length_take]; rfl)) ?_; (with_reducible refine (cmp_isNaN_int.calls a1 true _ A4.out).mono ?_); rintro e w' ⟨rfl, ⟨nd, rfl⟩⟩; refine ⟨_, rfl, ?_⟩))
   go_ret
   exact ⟨by first | rfl | (simp; done) | (simp [*]; done), by repeat (first | exact Drawn0.refl _ | apply Drawn0.step)⟩
  ·replace c6 := Bool.eq_false_iff.mpr c6
   subst c6
   have H1 : (some (-1)) = some r := by rw [if_neg (show ¬ (false = true) by decide)] at H; exact H
   clear H
   have H := H1
   clear H1
   obtain rfl := Option.some.inj H
   go_enter Try.func52, Try.ntmps52
   go_wp2_with (first | ((with_reducible refine gate_callee (f := 58) rfl ?_); refine goesL_ (some 8) rfl rfl Try.func58 (by kernel_rfl) rfl #[.int .i64 a0] rfl (by (try simp only [List.map_toArray, List.map_cons, List.map_nil]); first | done | rfl | (simp only [List.length_drop, List.length_take]; rfl)) ?_; (with_reducible refine (cmp_isNaN_int.calls a0 true _ A3.out).mono ?_); rintro e w' ⟨rfl, ⟨nd, rfl⟩⟩; refine ⟨_, rfl, ?_⟩) | ((with_reducible refine gate_callee (f := 58) rfl ?_); refine goesL_ (some 10) rfl rfl Try.func58 (by kernel_rfl) rfl #[.int .i64 a1] rfl (by (try simp only [List.map_toArray, List.map_cons, List.map_nil]); first | done | rfl | (simp only [List.length_drop, List.length_take]; rfl)) ?_; (with_reducible refine (cmp_isNaN_int.calls a1 false _ A4.out).mono ?_); rintro e w' ⟨rfl, ⟨nd, rfl⟩⟩; refine ⟨_, rfl, ?_⟩))
   go_ret
   exact ⟨by first | rfl | (simp; done) | (simp [*]; done), by repeat (first | exact Drawn0.refl _ | apply Drawn0.step)⟩
 ·replace c5 := Bool.eq_false_iff.mpr c5
  subst c5
  have H1 : (if t242 = true then (some 1) else (if a0 < a1 then (some (-1)) else (if a0 > a1 then (some 1) else (some 0)))) = some r := by rw [if_neg (show ¬ (false = true) by decide)] at H; exact H
  clear H
  have H := H1
  clear H1
  by_cases c7 : t242 = true
  ·subst c7
   have H1 : (some 1) = some r := by rw [if_pos rfl] at H; exact H
   clear H
   have H := H1
   clear H1
   obtain rfl := Option.some.inj H
   go_enter Try.func52, Try.ntmps52
   go_wp2_with (first | ((with_reducible refine gate_callee (f := 58) rfl ?_); refine goesL_ (some 8) rfl rfl Try.func58 (by kernel_rfl) rfl #[.int .i64 a0] rfl (by (try simp only [List.map_toArray, List.map_cons, List.map_nil]); first | done | rfl | (simp only [List.length_drop, List.length_take]; rfl)) ?_; (with_reducible refine (cmp_isNaN_int.calls a0 false _ A3.out).mono ?_); rintro e w' ⟨rfl, ⟨nd, rfl⟩⟩; refine ⟨_, rfl, ?_⟩) | ((with_reducible refine gate_callee (f := 58) rfl ?_); refine goesL_ (some 10) rfl rfl Try.func58 (by kernel_rfl) rfl #[.int .i64 a1] rfl (by (try simp only [List.map_toArray, List.map_cons, List.map_nil]); first | done | rfl | (simp only [List.length_drop, List.length_take]; rfl)) ?_; (with_reducible refine (cmp_isNaN_int.calls a1 true _ A4.out).mono ?_); rintro e w' ⟨rfl, ⟨nd, rfl⟩⟩; refine ⟨_, rfl, ?_⟩))
   go_ret
   exact ⟨by first | rfl | (simp; done) | (simp [*]; done), by repeat (first | exact Drawn0.refl _ | apply Drawn0.step)⟩
  ·replace c7 := Bool.eq_false_iff.mpr c7
   subst c7
   have H1 : (if a0 < a1 then (some (-1)) else (if a0 > a1 then (some 1) else (some 0))) = some r := by rw [if_neg (show ¬ (false = true) by decide)] at H; exact H
   clear H
   have H := H1
   clear H1
   by_cases c8 : a0 < a1
   ·rw [if_pos c8] at H
    have c8b0 : decide (a0 < a1) = true := decide_eq_true c8
    clear c8
    obtain rfl := Option.some.inj H
    go_enter Try.func52, Try.ntmps52
    go_wp2_with (first | ((with_reducible refine gate_callee (f := 58) rfl ?_); refine goesL_ (some 8) rfl rfl Try.func58 (by kernel_rfl) rfl #[.int .i64 a0] rfl (by (try simp only [List.map_toArray, List.map_cons, List.map_nil]); first | done | rfl | (simp only [List.length_drop, List.length_take]; rfl)) ?_; (with_reducible refine (cmp_isNaN_int.calls a0 false _ A3.out).mono ?_); rintro e w' ⟨rfl, ⟨nd, rfl⟩⟩; refine ⟨_, rfl, ?_⟩) | ((with_reducible refine gate_callee (f := 58) rfl ?_); refine goesL_ (some 10) rfl rfl Try.func58 (by kernel_rfl) rfl #[.int .i64 a1] rfl (by (try simp only [List.map_toArray, List.map_cons, List.map_nil]); first | done | rfl | (simp only [List.length_drop, List.length_take]; rfl)) ?_; (with_reducible refine (cmp_isNaN_int.calls a1 false _ A4.out).mono ?_); rintro e w' ⟨rfl, ⟨nd, rfl⟩⟩; refine ⟨_, rfl, ?_⟩))
    go_ret
    exact ⟨by first | rfl | (simp; done) | (simp [*]; done), by repeat (first | exact Drawn0.refl _ | apply Drawn0.step)⟩
   ·rw [if_neg c8] at H
    have c8b0 : decide (a0 < a1) = false := decide_eq_false c8
    clear c8
    by_cases c9 : a0 > a1
    ·rw [if_pos c9] at H
     have c9b0 : decide (a1 < a0) = true := decide_eq_true c9
     clear c9
     obtain rfl := Option.some.inj H
     go_enter Try.func52, Try.ntmps52
     go_wp2_with (first | ((with_reducible refine gate_callee (f := 58) rfl ?_); refine goesL_ (some 8) rfl rfl Try.func58 (by kernel_rfl) rfl #[.int .i64 a0] rfl (by (try simp only [List.map_toArray, List.map_cons, List.map_nil]); first | done | rfl | (simp only [List.length_drop, List.length_take]; rfl)) ?_; (with_reducible refine (cmp_isNaN_int.calls a0 false _ A3.out).mono ?_); rintro e w' ⟨rfl, ⟨nd, rfl⟩⟩; refine ⟨_, rfl, ?_⟩) | ((with_reducible refine gate_callee (f := 58) rfl ?_); refine goesL_ (some 10) rfl rfl Try.func58 (by kernel_rfl) rfl #[.int .i64 a1] rfl (by (try simp only [List.map_toArray, List.map_cons, List.map_nil]); first | done | rfl | (simp only [List.length_drop, List.length_take]; rfl)) ?_; (with_reducible refine (cmp_isNaN_int.calls a1 false _ A4.out).mono ?_); rintro e w' ⟨rfl, ⟨nd, rfl⟩⟩; refine ⟨_, rfl, ?_⟩))
     go_ret
     exact ⟨by first | rfl | (simp; done) | (simp [*]; done), by repeat (first | exact Drawn0.refl _ | apply Drawn0.step)⟩
    ·rw [if_neg c9] at H
     have c9b0 : decide (a1 < a0) = false := decide_eq_false c9
     clear c9
     obtain rfl := Option.some.inj H
     go_enter Try.func52, Try.ntmps52
     go_wp2_with (first | ((with_reducible refine gate_callee (f := 58) rfl ?_); refine goesL_ (some 8) rfl rfl Try.func58 (by kernel_rfl) rfl #[.int .i64 a0] rfl (by (try simp only [List.map_toArray, List.map_cons, List.map_nil]); first | done | rfl | (simp only [List.length_drop, List.length_take]; rfl)) ?_; (with_reducible refine (cmp_isNaN_int.calls a0 false _ A3.out).mono ?_); rintro e w' ⟨rfl, ⟨nd, rfl⟩⟩; refine ⟨_, rfl, ?_⟩) | ((with_reducible refine gate_callee (f := 58) rfl ?_); refine goesL_ (some 10) rfl rfl Try.func58 (by kernel_rfl) rfl #[.int .i64 a1] rfl (by (try simp only [List.map_toArray, List.map_cons, List.map_nil]); first | done | rfl | (simp only [List.length_drop, List.length_take]; rfl)) ?_; (with_reducible refine (cmp_isNaN_int.calls a1 false _ A4.out).mono ?_); rintro e w' ⟨rfl, ⟨nd, rfl⟩⟩; refine ⟨_, rfl, ?_⟩))
     go_ret
     exact ⟨by first | rfl | (simp; done) | (simp [*]; done), by repeat (first | exact Drawn0.refl _ | apply Drawn0.step)⟩
end Go.Proofs.Ytkohcdddgjaijaa.P
namespace Go.Proofs.Ytkohcdddgjaijaa.P
open Go.RowKit Go.Proofs.YtkohcdddgjaijaaW.PrintWords Go.Proofs.YtkohcdddgjaijaaW.PrintLast Go.Proofs.YtkohcdddgjaijaaW.PrintMore
attribute [local go_sem] max2_int min2_int max_two min_two max_three min_three max_four min_four
set_option linter.unusedVariables false
set_option linter.unusedSimpArgs false
def slices_Compare_int_int.l0 : Nat → List Int → List Int → List Int → Int → Int → Option (Int)
 | 0, _, _, _, _, _ => none
 | k + 1, x0, x1, x9, x10, x11 => if x11 < x10 then (if 0 ≤ x11 then (if x11 < (x9.length : Int) then (if x11 ≥ (x1.length : Int) then (some 1) else (if x11 < (x1.length : Int) then ((cmp_Compare_int.f (rd x9 x11) (rd x1 x11)).bind fun t245 => (if t245 = 0 then (slices_Compare_int_int.l0 k x0 x1 x9 x10 (wrap64 (x11 + 1))) else (some t245))) else (none))) else (none)) else (none)) else (if (x0.length : Int) < (x1.length : Int) then (some (-1)) else (some 0))
def slices_Compare_int_int.f (k : Nat) (l0 : List Int) (l1 : List Int) : Option (Int) := slices_Compare_int_int.l0 k l0 l1 l0 (l0.length : Int) 0
theorem slices_Compare_int_int.mono_l : ∀ k, (∀ y0 y1 y2 y3 y4, LeO (slices_Compare_int_int.l0 k y0 y1 y2 y3 y4) (slices_Compare_int_int.l0 (k + 1) y0 y1 y2 y3 y4))
 | 0 => fun _ _ _ _ _ r h => by simp [slices_Compare_int_int.l0] at h
 | k + 1 => by
  have ih0 := slices_Compare_int_int.mono_l k
  ·intro y0 y1 y2 y3 y4
   unfold slices_Compare_int_int.l0
   repeat' first
   | (with_reducible exact ih0 _ _ _ _ _)
   | (with_reducible exact LeO.refl _)
   | (with_reducible exact LeO.none _)
   | (with_reducible refine LeO.ite ?_ ?_)
   | (with_reducible refine LeO.bind ?_ (fun _ => ?_))
   | exact ih0 _ _ _ _ _
   | exact LeO.none _
   | refine LeO.ite ?_ ?_
   | refine LeO.bind ?_ (fun _ => ?_)
theorem slices_Compare_int_int.mono : ∀ a0 a1 k, LeO (slices_Compare_int_int.f k a0 a1) (slices_Compare_int_int.f (k + 1) a0 a1) := by
 intro a0 a1 k
 have ih0 := slices_Compare_int_int.mono_l k
 unfold slices_Compare_int_int.f
 repeat' first
   | (with_reducible exact ih0 _ _ _ _ _)
   | (with_reducible exact LeO.refl _)
   | (with_reducible exact LeO.none _)
   | (with_reducible refine LeO.ite ?_ ?_)
   | (with_reducible refine LeO.bind ?_ (fun _ => ?_))
   | exact ih0 _ _ _ _ _
   | exact LeO.none _
   | refine LeO.ite ?_ ?_
   | refine LeO.bind ?_ (fun _ => ?_)
set_option maxHeartbeats 8000000 in
set_option maxRecDepth 100000 in
theorem slices_Compare_int_int.calls (k : Nat) (A0 : Option Addr) (c0 : Nat) (l0 : List Int) (A1 : Option Addr) (c1 : Nat) (l1 : List Int) (r : Int) (w : World) (hr0 : Kd.C (Kd.int .i64) w A0 l0.length l0) (hc0 : l0.length ≤ c0) (hr1 : Kd.C (Kd.int .i64) w A1 l1.length l1) (hc1 : l1.length ≤ c1) (h : slices_Compare_int_int.f k l0 l1 = some r) :
  Calls Try.prog 40 #[.slice A0 l0.length c0, .slice A1 l1.length c1] w fun e w' => e = .returned (.int .i64 r) ∧ Drawn0 w w' := by
 have HR0 := Aside0.mk hr0
 have HC0 := Aside0.mk hc0
 clear hr0 hc0
 have HR1 := Aside0.mk hr1
 have HC1 := Aside0.mk hc1
 clear hr1 hc1
 have H : (slices_Compare_int_int.l0 k l0 l1 l0 (l0.length : Int) 0) = some r := h
 clear h
 have H' := Aside0.mk H
 clear H
 go_enter Try.func40, Try.ntmps40
 go_wp2
 go_loopg [11] k (fun kq v11 w' => ∃ (x11_1 : Int), v11 = .int .i64 x11_1 ∧ Aside0 (slices_Compare_int_int.l0 kq l0 l1 l0 (l0.length : Int) x11_1 = some r) ∧ Aside0 (kq ≤ k) ∧ Drawn0 w w')
 case atStart => exact ⟨(0), (by first | rfl | (simp; done) | (simp [*]; done)), H', ⟨Nat.le_refl _⟩, by repeat (first | exact Drawn0.refl _ | apply Drawn0.step)⟩
 case round =>
  clear H'
  try clear c1
  try clear p2
  obtain ⟨x11_1, rfl, HA, HK1, ⟨m1, rfl⟩⟩ := hrel
  cases gk with
  | zero => exact absurd HA.out (by simp [slices_Compare_int_int.l0])
  | succ k1 =>
   have H := HA.out
   clear HA
   simp only [slices_Compare_int_int.l0] at H
   by_cases c3 : x11_1 < (l0.length : Int)
   ·rw [if_pos c3] at H
    have c3b0 : decide (x11_1 < (l0.length : Int)) = true := decide_eq_true c3
    clear c3
    by_cases c4 : 0 ≤ x11_1
    ·rw [if_pos c4] at H
     have c4b0 : decide (0 ≤ x11_1) = true := decide_eq_true c4
     clear c4
     by_cases c5 : x11_1 < (l0.length : Int)
     ·rw [if_pos c5] at H
      have c5b0 : decide (x11_1 < (l0.length : Int)) = true := decide_eq_true c5
      clear c5
      by_cases c6 : x11_1 ≥ (l1.length : Int)
      ·rw [if_pos c6] at H
       have c6b0 : decide ((l1.length : Int) ≤ x11_1) = true := decide_eq_true c6
       clear c6
       obtain rfl := Option.some.inj H
       have p243 : 0 ≤ (x11_1 : Int) := of_decide_eq_true (by first | (with_reducible assumption) | assumption)
       have q243 : x11_1 < (l0.length : Int) := of_decide_eq_true (by first | (with_reducible assumption) | assumption)
       obtain ⟨ad243, e243, hx243_0⟩ := Kd.at_int HR0.out x11_1 p243 q243
       cases e243
       replace p243 := eq_true p243
       replace q243 := eq_true q243
       go_wp2
       go_ret
       exact ⟨by first | rfl | (simp; done) | (simp [*]; done), by repeat (first | exact Drawn0.refl _ | apply Drawn0.step)⟩
      ·rw [if_neg c6] at H
       have c6b0 : decide ((l1.length : Int) ≤ x11_1) = false := decide_eq_false c6
       clear c6
       by_cases c7 : x11_1 < (l1.length : Int)
       ·rw [if_pos c7] at H
        have c7b0 : decide (x11_1 < (l1.length : Int)) = true := decide_eq_true c7
        clear c7
        replace H := Option.bind_eq_some_iff.mp H
        obtain ⟨t245, A80, H⟩ := H
        replace H : (if t245 = 0 then (slices_Compare_int_int.l0 k1 l0 l1 l0 (l0.length : Int) (wrap64 (x11_1 + 1))) else (some t245)) = some r := H
        have A8 := Aside0.mk A80
        clear A80
        by_cases c9 : t245 = 0
        ·rw [if_pos c9] at H
         have c9b0 : (t245 == 0) = true := beq_iff_eq.mpr c9
         have c9b1 : (t245 != 0) = false := bne_eq_false_iff_eq.mpr c9
         clear c9
         have H' := Aside0.mk H
         clear H
         have p243 : 0 ≤ (x11_1 : Int) := of_decide_eq_true (by first | (with_reducible assumption) | assumption)
         have q243 : x11_1 < (l0.length : Int) := of_decide_eq_true (by first | (with_reducible assumption) | assumption)
         obtain ⟨ad243, e243, hx243_0⟩ := Kd.at_int HR0.out x11_1 p243 q243
         cases e243
         replace p243 := eq_true p243
         replace q243 := eq_true q243
         have p244 : 0 ≤ (x11_1 : Int) := of_decide_eq_true (by first | (with_reducible assumption) | assumption)
         have q244 : x11_1 < (l1.length : Int) := of_decide_eq_true (by first | (with_reducible assumption) | assumption)
         obtain ⟨ad244, e244, hx244_0⟩ := Kd.at_int HR1.out x11_1 p244 q244
         cases e244
         replace p244 := eq_true p244
         replace q244 := eq_true q244
         go_wp2_with (first | ((with_reducible refine gate_callee (f := 52) rfl ?_); refine goesL_ (some 26) rfl rfl Try.func52 (by kernel_rfl) rfl #[.int .i64 (rd l0 x11_1), .int .i64 (rd l1 x11_1)] rfl (by (try simp only [List.map_toArray, List.map_cons, List.map_nil]); first | done | rfl | (simp only [List.length_drop, List.length_take]; rfl)) ?_; (with_reducible refine (cmp_Compare_int.calls (rd l0 x11_1) (rd l1 x11_1) t245 _ A8.out).mono ?_); rintro e w' ⟨rfl, ⟨nd, rfl⟩⟩; refine ⟨_, rfl, ?_⟩))
         go_roundg k1
         case measure => have := HK1.out; omega
         case rel => exact ⟨(wrap64 (x11_1 + 1)), (by first | rfl | (simp; done) | (simp [*]; done)), H', ⟨by have := HK1.out; omega⟩, by repeat (first | exact Drawn0.refl _ | apply Drawn0.step)⟩
        ·rw [if_neg c9] at H
         have c9b0 : (t245 == 0) = false := beq_eq_false_iff_ne.mpr c9
         have c9b1 : (t245 != 0) = true := bne_iff_ne.mpr c9
         obtain rfl := Option.some.inj H
         have p243 : 0 ≤ (x11_1 : Int) := of_decide_eq_true (by first | (with_reducible assumption) | assumption)
         have q243 : x11_1 < (l0.length : Int) := of_decide_eq_true (by first | (with_reducible assumption) | assumption)
         obtain ⟨ad243, e243, hx243_0⟩ := Kd.at_int HR0.out x11_1 p243 q243
         cases e243
         replace p243 := eq_true p243
         replace q243 := eq_true q243
         have p244 : 0 ≤ (x11_1 : Int) := of_decide_eq_true (by first | (with_reducible assumption) | assumption)
         have q244 : x11_1 < (l1.length : Int) := of_decide_eq_true (by first | (with_reducible assumption) | assumption)
         obtain ⟨ad244, e244, hx244_0⟩ := Kd.at_int HR1.out x11_1 p244 q244
         cases e244
         replace p244 := eq_true p244
         replace q244 := eq_true q244
         go_wp2_with (first | ((with_reducible refine gate_callee (f := 52) rfl ?_); refine goesL_ (some 26) rfl rfl Try.func52 (by kernel_rfl) rfl #[.int .i64 (rd l0 x11_1), .int .i64 (rd l1 x11_1)] rfl (by (try simp only [List.map_toArray, List.map_cons, List.map_nil]); first | done | rfl | (simp only [List.length_drop, List.length_take]; rfl)) ?_; (with_reducible refine (cmp_Compare_int.calls (rd l0 x11_1) (rd l1 x11_1) t245 _ A8.out).mono ?_); rintro e w' ⟨rfl, ⟨nd, rfl⟩⟩; refine ⟨_, rfl, ?_⟩))
         go_ret
         exact ⟨by first | rfl | (simp; done) | (simp [*]; done), by repeat (first | exact Drawn0.refl _ | apply Drawn0.step)⟩
       ·rw [if_neg c7] at H
        exact absurd H (by simp)
     ·rw [if_neg c5] at H
      exact absurd H (by simp)
    ·rw [if_neg c4] at H
     exact absurd H (by simp)
   ·rw [if_neg c3] at H
    have c3b0 : decide (x11_1 < (l0.length : Int)) = false := decide_eq_false c3
    clear c3
    by_cases c10 : (l0.length : Int) < (l1.length : Int)
    ·rw [if_pos c10] at H
     have c10b0 : decide ((l0.length : Int) < (l1.length : Int)) = true := decide_eq_true c10
     have c10b1 : decide (l0.length < l1.length) = true := decide_eq_true (Int.ofNat_lt.mp c10)
     clear c10
     obtain rfl := Option.some.inj H
     go_wp2
     go_ret
     exact ⟨by first | rfl | (simp; done) | (simp [*]; done), by repeat (first | exact Drawn0.refl _ | apply Drawn0.step)⟩
    ·rw [if_neg c10] at H
     have c10b0 : decide ((l0.length : Int) < (l1.length : Int)) = false := decide_eq_false c10
     have c10b1 : decide (l0.length < l1.length) = false := decide_eq_false (fun h => c10 (Int.ofNat_lt.mpr h))
     clear c10
     obtain rfl := Option.some.inj H
     go_wp2
     go_ret
     exact ⟨by first | rfl | (simp; done) | (simp [*]; done), by repeat (first | exact Drawn0.refl _ | apply Drawn0.step)⟩
end Go.Proofs.Ytkohcdddgjaijaa.P
namespace Go.Proofs.Ytkohcdddgjaijaa.P
open Go.RowKit Go.Proofs.YtkohcdddgjaijaaW.PrintWords Go.Proofs.YtkohcdddgjaijaaW.PrintLast Go.Proofs.YtkohcdddgjaijaaW.PrintMore
attribute [local go_sem] max2_int min2_int max_two min_two max_three min_three max_four min_four
set_option linter.unusedVariables false
set_option linter.unusedSimpArgs false
def impl_rowsOK.l0 : Nat → List (List Int) → Int → List (List Int) → Int → Int → Option (Bool)
 | 0, _, _, _, _, _ => none
 | k + 1, x0, x1, x7, x8, x9 => if x9 < x8 then (if 0 ≤ x9 then (if x9 < (x7.length : Int) then (if ((rd_L1 x7 x9).length : Int) = x1 then (if x9 > 0 then (if 0 ≤ (wrap64 (x9 - 1)) then (if (wrap64 (x9 - 1)) < (x0.length : Int) then ((slices_Compare_int_int.f k (rd_L1 x0 (wrap64 (x9 - 1))) (rd_L1 x7 x9)).bind fun t248 => (if t248 ≥ 0 then (some false) else (impl_rowsOK.l0 k x0 x1 x7 x8 (wrap64 (x9 + 1))))) else (none)) else (none)) else (impl_rowsOK.l0 k x0 x1 x7 x8 (wrap64 (x9 + 1)))) else (some false)) else (none)) else (none)) else (some true)
def impl_rowsOK.f (k : Nat) (l0 : List (List Int)) (a1 : Int) : Option (Bool) := impl_rowsOK.l0 k l0 a1 l0 (l0.length : Int) 0
theorem impl_rowsOK.mono_l : ∀ k, (∀ y0 y1 y2 y3 y4, LeO (impl_rowsOK.l0 k y0 y1 y2 y3 y4) (impl_rowsOK.l0 (k + 1) y0 y1 y2 y3 y4))
 | 0 => fun _ _ _ _ _ r h => by simp [impl_rowsOK.l0] at h
 | k + 1 => by
  have ih0 := impl_rowsOK.mono_l k
  ·intro y0 y1 y2 y3 y4
   unfold impl_rowsOK.l0
   repeat' first
   | (with_reducible exact ih0 _ _ _ _ _)
   | (with_reducible exact slices_Compare_int_int.mono _ _ _)
   | (with_reducible exact LeO.refl _)
   | (with_reducible exact LeO.none _)
   | (with_reducible refine LeO.ite ?_ ?_)
   | (with_reducible refine LeO.bind ?_ (fun _ => ?_))
   | exact ih0 _ _ _ _ _
   | exact slices_Compare_int_int.mono _ _ _
   | exact LeO.none _
   | refine LeO.ite ?_ ?_
   | refine LeO.bind ?_ (fun _ => ?_)
theorem impl_rowsOK.mono : ∀ a0 a1 k, LeO (impl_rowsOK.f k a0 a1) (impl_rowsOK.f (k + 1) a0 a1) := by
 intro a0 a1 k
 have ih0 := impl_rowsOK.mono_l k
 unfold impl_rowsOK.f
 repeat' first
   | (with_reducible exact ih0 _ _ _ _ _)
   | (with_reducible exact slices_Compare_int_int.mono _ _ _)
   | (with_reducible exact LeO.refl _)
   | (with_reducible exact LeO.none _)
   | (with_reducible refine LeO.ite ?_ ?_)
   | (with_reducible refine LeO.bind ?_ (fun _ => ?_))
   | exact ih0 _ _ _ _ _
   | exact slices_Compare_int_int.mono _ _ _
   | exact LeO.none _
   | refine LeO.ite ?_ ?_
   | refine LeO.bind ?_ (fun _ => ?_)
set_option maxHeartbeats 8000000 in
set_option maxRecDepth 100000 in
theorem impl_rowsOK.calls (k : Nat) (A0 : Option Addr) (c0 : Nat) (l0 : List (List Int)) (a1 : Int) (r : Bool) (w : World) (hr0 : Kd.C (Kd.slice 3 (Kd.int .i64)) w A0 l0.length l0) (hc0 : l0.length ≤ c0) (h : impl_rowsOK.f k l0 a1 = some r) :
  Calls Try.prog 45 #[.slice A0 l0.length c0, .int .i64 a1] w fun e w' => e = .returned (.bool r) ∧ Drawn0 w w' := by
 have HR0 := Aside0.mk hr0
 have HC0 := Aside0.mk hc0
 clear hr0 hc0
 have H : (impl_rowsOK.l0 k l0 a1 l0 (l0.length : Int) 0) = some r := h
 clear h
 have H' := Aside0.mk H
 clear H
 go_enter Try.func45, Try.ntmps45
 go_wp2
 go_loopg [9] k (fun kq v9 w' => ∃ (x9_1 : Int), v9 = .int .i64 x9_1 ∧ Aside0 (impl_rowsOK.l0 kq l0 a1 l0 (l0.length : Int) x9_1 = some r) ∧ Aside0 (kq ≤ k) ∧ Drawn0 w w')
 case atStart => exact ⟨(0), (by first | rfl | (simp; done) | (simp [*]; done)), H', ⟨Nat.le_refl _⟩, by repeat (first | exact Drawn0.refl _ | apply Drawn0.step)⟩
 case round =>
  clear H'
  try clear p2
  obtain ⟨x9_1, rfl, HA, HK1, ⟨m1, rfl⟩⟩ := hrel
  cases gk with
  | zero => exact absurd HA.out (by simp [impl_rowsOK.l0])
  | succ k1 =>
   have H := HA.out
   clear HA
   simp only [impl_rowsOK.l0] at H
   by_cases c3 : x9_1 < (l0.length : Int)
   ·rw [if_pos c3] at H
    have c3b0 : decide (x9_1 < (l0.length : Int)) = true := decide_eq_true c3
    clear c3
    by_cases c4 : 0 ≤ x9_1
    ·rw [if_pos c4] at H
     have c4b0 : decide (0 ≤ x9_1) = true := decide_eq_true c4
     clear c4
     by_cases c5 : x9_1 < (l0.length : Int)
     ·rw [if_pos c5] at H
      have c5b0 : decide (x9_1 < (l0.length : Int)) = true := decide_eq_true c5
      clear c5
      by_cases c6 : ((rd_L1 l0 x9_1).length : Int) = a1
      ·rw [if_pos c6] at H
       have c6b0 : (((rd_L1 l0 x9_1).length : Int) == a1) = true := beq_iff_eq.mpr c6
       have c6b1 : (((rd_L1 l0 x9_1).length : Int) != a1) = false := bne_eq_false_iff_eq.mpr c6
       clear c6
       by_cases c7 : x9_1 > 0
       ·rw [if_pos c7] at H
        have c7b0 : decide (0 < x9_1) = true := decide_eq_true c7
        clear c7
        obtain ⟨ji8, hji8⟩ : ∃ j_ : Int, (wrap64 (x9_1 - 1)) = j_ := ⟨_, rfl⟩
        replace H : (if 0 ≤ (ji8) then (if (ji8) < (l0.length : Int) then ((slices_Compare_int_int.f k1 (rd_L1 l0 (ji8)) (rd_L1 l0 x9_1)).bind fun t248 => (if t248 ≥ 0 then (some false) else (impl_rowsOK.l0 k1 l0 a1 l0 (l0.length : Int) (wrap64 (x9_1 + 1))))) else (none)) else (none)) = some r := by first | (rw [hji8] at H; exact H) | (simp only [hji8] at H ⊢; exact H)
        have hji8w : (IntKind.i64.wrap (x9_1 - 1)) = ji8 := (i64_w _).trans hji8
        by_cases c9 : 0 ≤ (ji8)
        ·rw [if_pos c9] at H
         have c9b0 : decide (0 ≤ (ji8)) = true := decide_eq_true c9
         clear c9
         by_cases c10 : (ji8) < (l0.length : Int)
         ·rw [if_pos c10] at H
          have c10b0 : decide ((ji8) < (l0.length : Int)) = true := decide_eq_true c10
          clear c10
          replace H := Option.bind_eq_some_iff.mp H
          obtain ⟨t248, A110, H⟩ := H
          replace H : (if t248 ≥ 0 then (some false) else (impl_rowsOK.l0 k1 l0 a1 l0 (l0.length : Int) (wrap64 (x9_1 + 1)))) = some r := H
          have A11 := Aside0.mk A110
          clear A110
          by_cases c12 : t248 ≥ 0
          ·rw [if_pos c12] at H
           have c12b0 : decide (0 ≤ t248) = true := decide_eq_true c12
           clear c12
           obtain rfl := Option.some.inj H
           have p246 : 0 ≤ (x9_1 : Int) := of_decide_eq_true (by first | (with_reducible assumption) | assumption)
           have q246 : x9_1 < (l0.length : Int) := of_decide_eq_true (by first | (with_reducible assumption) | assumption)
           obtain ⟨ad246, A246_0, c246_0, e246, hx246_0, hl246_0, hi246_0⟩ := at_L1 HR0.out x9_1 p246 q246
           cases e246
           have HR246_0 := Aside0.mk hi246_0
           have HC246_0 := Aside0.mk hl246_0
           clear hi246_0 hl246_0
           replace p246 := eq_true p246
           replace q246 := eq_true q246
           have p247 : 0 ≤ ((ji8) : Int) := of_decide_eq_true (by first | (with_reducible assumption) | assumption)
           have q247 : (ji8) < (l0.length : Int) := of_decide_eq_true (by first | (with_reducible assumption) | assumption)
           obtain ⟨ad247, A247_0, c247_0, e247, hx247_0, hl247_0, hi247_0⟩ := at_L1 HR0.out (ji8) p247 q247
           obtain rfl : ad246 = ad247 := (by injection e247)
           have HR247_0 := Aside0.mk hi247_0
           have HC247_0 := Aside0.mk hl247_0
           clear hi247_0 hl247_0
           replace p247 := eq_true p247
           replace q247 := eq_true q247
           go_wp2_with (first | (go_at_call 40; (with_reducible refine (slices_Compare_int_int.calls k1 _ _ (rd_L1 l0 (ji8)) _ _ (rd_L1 l0 x9_1) t248 _ ?side1 ?side2 ?side3 ?side4 A11.out).mono ?_); (case side1 => repeat (first | exact HR247_0.out | (with_reducible refine Kd.C_alloc ?_ _) | (with_reducible refine Kd.C_drewN ?_ _) | (with_reducible refine Kd.C_drew ?_))); (case side2 => exact HC247_0.out); (case side3 => repeat (first | exact HR246_0.out | (with_reducible refine Kd.C_alloc ?_ _) | (with_reducible refine Kd.C_drewN ?_ _) | (with_reducible refine Kd.C_drew ?_))); (case side4 => exact HC246_0.out); rintro e w' ⟨rfl, ⟨nd, rfl⟩⟩))
           go_ret
           exact ⟨by first | rfl | (simp; done) | (simp only [← hji8] <;> (first | rfl | simp)) | (simp [*]; done), by repeat (first | exact Drawn0.refl _ | apply Drawn0.step)⟩
          ·rw [if_neg c12] at H
           have c12b0 : decide (0 ≤ t248) = false := decide_eq_false c12
           clear c12
           have H' := Aside0.mk H
           clear H
           have p246 : 0 ≤ (x9_1 : Int) := of_decide_eq_true (by first | (with_reducible assumption) | assumption)
           have q246 : x9_1 < (l0.length : Int) := of_decide_eq_true (by first | (with_reducible assumption) | assumption)
           obtain ⟨ad246, A246_0, c246_0, e246, hx246_0, hl246_0, hi246_0⟩ := at_L1 HR0.out x9_1 p246 q246
           cases e246
           have HR246_0 := Aside0.mk hi246_0
           have HC246_0 := Aside0.mk hl246_0
           clear hi246_0 hl246_0
           replace p246 := eq_true p246
           replace q246 := eq_true q246
           have p247 : 0 ≤ ((ji8) : Int) := of_decide_eq_true (by first | (with_reducible assumption) | assumption)
           have q247 : (ji8) < (l0.length : Int) := of_decide_eq_true (by first | (with_reducible assumption) | assumption)
           obtain ⟨ad247, A247_0, c247_0, e247, hx247_0, hl247_0, hi247_0⟩ := at_L1 HR0.out (ji8) p247 q247
           obtain rfl : ad246 = ad247 := (by injection e247)
           have HR247_0 := Aside0.mk hi247_0
           have HC247_0 := Aside0.mk hl247_0
           clear hi247_0 hl247_0
           replace p247 := eq_true p247
           replace q247 := eq_true q247
           go_wp2_with (first | (go_at_call 40; (with_reducible refine (slices_Compare_int_int.calls k1 _ _ (rd_L1 l0 (ji8)) _ _ (rd_L1 l0 x9_1) t248 _ ?side1 ?side2 ?side3 ?side4 A11.out).mono ?_); (case side1 => repeat (first | exact HR247_0.out | (with_reducible refine Kd.C_alloc ?_ _) | (with_reducible refine Kd.C_drewN ?_ _) | (with_reducible refine Kd.C_drew ?_))); (case side2 => exact HC247_0.out); (case side3 => repeat (first | exact HR246_0.out | (with_reducible refine Kd.C_alloc ?_ _) | (with_reducible refine Kd.C_drewN ?_ _) | (with_reducible refine Kd.C_drew ?_))); (case side4 => exact HC246_0.out); rintro e w' ⟨rfl, ⟨nd, rfl⟩⟩))
           go_roundg k1
           case measure => have := HK1.out; omega
           case rel => exact ⟨(wrap64 (x9_1 + 1)), (by first | rfl | (simp; done) | (simp [*]; done)), H', ⟨by have := HK1.out; omega⟩, by repeat (first | exact Drawn0.refl _ | apply Drawn0.step)⟩
         ·rw [if_neg c10] at H
          exact absurd H (by simp)
        ·rw [if_neg c9] at H
         exact absurd H (by simp)
       ·rw [if_neg c7] at H
        have c7b0 : decide (0 < x9_1) = false := decide_eq_false c7
        clear c7
        have H' := Aside0.mk H
        clear H
        have p246 : 0 ≤ (x9_1 : Int) := of_decide_eq_true (by first | (with_reducible assumption) | assumption)
        have q246 : x9_1 < (l0.length : Int) := of_decide_eq_true (by first | (with_reducible assumption) | assumption)
        obtain ⟨ad246, A246_0, c246_0, e246, hx246_0, hl246_0, hi246_0⟩ := at_L1 HR0.out x9_1 p246 q246
        cases e246
        have HR246_0 := Aside0.mk hi246_0
        have HC246_0 := Aside0.mk hl246_0
        clear hi246_0 hl246_0
        replace p246 := eq_true p246
        replace q246 := eq_true q246
        go_wp2
        go_roundg k1
        case measure => have := HK1.out; omega
        case rel => exact ⟨(wrap64 (x9_1 + 1)), (by first | rfl | (simp; done) | (simp [*]; done)), H', ⟨by have := HK1.out; omega⟩, by repeat (first | exact Drawn0.refl _ | apply Drawn0.step)⟩
      ·rw [if_neg c6] at H
       have c6b0 : (((rd_L1 l0 x9_1).length : Int) == a1) = false := beq_eq_false_iff_ne.mpr c6
       have c6b1 : (((rd_L1 l0 x9_1).length : Int) != a1) = true := bne_iff_ne.mpr c6
       obtain rfl := Option.some.inj H
       have p246 : 0 ≤ (x9_1 : Int) := of_decide_eq_true (by first | (with_reducible assumption) | assumption)
       have q246 : x9_1 < (l0.length : Int) := of_decide_eq_true (by first | (with_reducible assumption) | assumption)
       obtain ⟨ad246, A246_0, c246_0, e246, hx246_0, hl246_0, hi246_0⟩ := at_L1 HR0.out x9_1 p246 q246
       cases e246
       have HR246_0 := Aside0.mk hi246_0
       have HC246_0 := Aside0.mk hl246_0
       clear hi246_0 hl246_0
       replace p246 := eq_true p246
       replace q246 := eq_true q246
       go_wp2
       go_ret
       exact ⟨by first | rfl | (simp; done) | (simp [*]; done), by repeat (first | exact Drawn0.refl _ | apply Drawn0.step)⟩
     ·rw [if_neg c5] at H
      exact absurd H (by simp)
    ·rw [if_neg c4] at H
     exact absurd H (by simp)
   ·rw [if_neg c3] at H
    have c3b0 : decide (x9_1 < (l0.length : Int)) = false := decide_eq_false c3
    clear c3
    obtain rfl := Option.some.inj H
    go_wp2
    go_ret
    exact ⟨by first | rfl | (simp; done) | (simp [*]; done), by repeat (first | exact Drawn0.refl _ | apply Drawn0.step)⟩
end Go.Proofs.Ytkohcdddgjaijaa.P
namespace Go.Proofs.Ytkohcdddgjaijaa.P
open Go.RowKit Go.Proofs.YtkohcdddgjaijaaW.PrintWords Go.Proofs.YtkohcdddgjaijaaW.PrintLast Go.Proofs.YtkohcdddgjaijaaW.PrintMore
attribute [local go_sem] max2_int min2_int max_two min_two max_three min_three max_four min_four
set_option linter.unusedVariables false
set_option linter.unusedSimpArgs false
mutual
def spec_l2Compare.l0 : Nat → List Int → List Int → Int → Option (Int)
 | 0, _, _, _ => none
 | k + 1, x0, x1, x5 => if x5 < (x0.length : Int) then (spec_l2Compare.j1 k x0 x1 x5 (decide (x5 < (x1.length : Int)))) else (spec_l2Compare.j1 k x0 x1 x5 false)
def spec_l2Compare.j1 : Nat → List Int → List Int → Int → Bool → Option (Int)
 | 0, _, _, _, _ => none
 | k + 1, x0, x1, x5, x15 => if x15 = true then (if 0 ≤ x5 then (if x5 < (x0.length : Int) then (if x5 < (x1.length : Int) then (if (rd x0 x5) < (rd x1 x5) then (some (-1)) else (if (rd x0 x5) > (rd x1 x5) then (some 1) else (spec_l2Compare.l0 k x0 x1 (wrap64 (x5 + 1))))) else (none)) else (none)) else (none)) else (if (x0.length : Int) = (x1.length : Int) then (some 0) else (if (x0.length : Int) < (x1.length : Int) then (some (-1)) else (some 1)))
end
def spec_l2Compare.f (k : Nat) (l0 : List Int) (l1 : List Int) : Option (Int) := spec_l2Compare.l0 k l0 l1 0
theorem spec_l2Compare.mono_l : ∀ k, (∀ y0 y1 y2, LeO (spec_l2Compare.l0 k y0 y1 y2) (spec_l2Compare.l0 (k + 1) y0 y1 y2)) ∧ (∀ y0 y1 y2 y3, LeO (spec_l2Compare.j1 k y0 y1 y2 y3) (spec_l2Compare.j1 (k + 1) y0 y1 y2 y3))
 | 0 => ⟨fun _ _ _ r h => by simp [spec_l2Compare.l0] at h, fun _ _ _ _ r h => by simp [spec_l2Compare.j1] at h⟩
 | k + 1 => by
  obtain ⟨ih0, ih1⟩ := spec_l2Compare.mono_l k
  refine ⟨?_, ?_⟩
  ·intro y0 y1 y2
   unfold spec_l2Compare.l0
   repeat' first
   | (with_reducible exact ih0 _ _ _)
   | (with_reducible exact ih1 _ _ _ _)
   | (with_reducible exact LeO.refl _)
   | (with_reducible exact LeO.none _)
   | (with_reducible refine LeO.ite ?_ ?_)
   | (with_reducible refine LeO.bind ?_ (fun _ => ?_))
   | exact ih0 _ _ _
   | exact ih1 _ _ _ _
   | exact LeO.none _
   | refine LeO.ite ?_ ?_
   | refine LeO.bind ?_ (fun _ => ?_)
  ·intro y0 y1 y2 y3
   unfold spec_l2Compare.j1
   repeat' first
   | (with_reducible exact ih0 _ _ _)
   | (with_reducible exact ih1 _ _ _ _)
   | (with_reducible exact LeO.refl _)
   | (with_reducible exact LeO.none _)
   | (with_reducible refine LeO.ite ?_ ?_)
   | (with_reducible refine LeO.bind ?_ (fun _ => ?_))
   | exact ih0 _ _ _
   | exact ih1 _ _ _ _
   | exact LeO.none _
   | refine LeO.ite ?_ ?_
   | refine LeO.bind ?_ (fun _ => ?_)
theorem spec_l2Compare.mono : ∀ a0 a1 k, LeO (spec_l2Compare.f k a0 a1) (spec_l2Compare.f (k + 1) a0 a1) := by
 intro a0 a1 k
 obtain ⟨ih0, ih1⟩ := spec_l2Compare.mono_l k
 unfold spec_l2Compare.f
 repeat' first
   | (with_reducible exact ih0 _ _ _)
   | (with_reducible exact ih1 _ _ _ _)
   | (with_reducible exact LeO.refl _)
   | (with_reducible exact LeO.none _)
   | (with_reducible refine LeO.ite ?_ ?_)
   | (with_reducible refine LeO.bind ?_ (fun _ => ?_))
   | exact ih0 _ _ _
   | exact ih1 _ _ _ _
   | exact LeO.none _
   | refine LeO.ite ?_ ?_
   | refine LeO.bind ?_ (fun _ => ?_)
set_option maxHeartbeats 8000000 in
set_option maxRecDepth 100000 in
theorem spec_l2Compare.calls (k : Nat) (A0 : Option Addr) (c0 : Nat) (l0 : List Int) (A1 : Option Addr) (c1 : Nat) (l1 : List Int) (r : Int) (w : World) (hr0 : Kd.C (Kd.int .i64) w A0 l0.length l0) (hc0 : l0.length ≤ c0) (hr1 : Kd.C (Kd.int .i64) w A1 l1.length l1) (hc1 : l1.length ≤ c1) (h : spec_l2Compare.f k l0 l1 = some r) :
  Calls Try.prog 50 #[.slice A0 l0.length c0, .slice A1 l1.length c1] w fun e w' => e = .returned (.int .i64 r) ∧ Drawn0 w w' := by
 have HR0 := Aside0.mk hr0
 have HC0 := Aside0.mk hc0
 clear hr0 hc0
 have HR1 := Aside0.mk hr1
 have HC1 := Aside0.mk hc1
 clear hr1 hc1
 have H : (spec_l2Compare.l0 k l0 l1 0) = some r := h
 clear h
 have H' := Aside0.mk H
 clear H
 go_enter Try.func50, Try.ntmps50
 go_wp2
 repeat (go_quiet (fail); try go_wp2)
 go_loopg [5] k (fun kq v5 w' => ∃ (x5_1 : Int), v5 = .int .i64 x5_1 ∧ Aside0 (spec_l2Compare.l0 kq l0 l1 x5_1 = some r) ∧ Aside0 (kq ≤ k) ∧ Drawn0 w w')
 case atStart => exact ⟨(0), (by first | rfl | (simp; done) | (simp [*]; done)), H', ⟨Nat.le_refl _⟩, by repeat (first | exact Drawn0.refl _ | apply Drawn0.step)⟩
 case round =>
  clear H'
  try clear c1
  try clear p2
  obtain ⟨x5_1, rfl, HA, HK1, ⟨m1, rfl⟩⟩ := hrel
  cases gk with
  | zero => exact absurd HA.out (by simp [spec_l2Compare.l0])
  | succ k1 =>
   have H := HA.out
   clear HA
   simp only [spec_l2Compare.l0] at H
   have HC3 := Aside0.mk H
   clear H
   go_upto_region 2 with (fail)
   repeat (go_quiet (fail); go_upto_region 2 with (fail))
   go_cut [15] (fun v15 wc => ∃ (kq : Nat) (x15_2 : Bool), v15 = .bool x15_2 ∧ Aside0 (spec_l2Compare.j1 kq l0 l1 x5_1 x15_2 = some r) ∧ Aside0 (kq ≤ k1) ∧ Drawn0 w wc)
   case first =>
    have H := HC3.out
    clear HC3
    by_cases c4 : x5_1 < (l0.length : Int)
    ·rw [if_pos c4] at H
     have c4b0 : decide (x5_1 < (l0.length : Int)) = true := decide_eq_true c4
     clear c4
     (first | rw [c4b0] | (simp only [i64_w, i32_w]; rw [c4b0]) | skip)
     have H' := Aside0.mk H
     clear H
     go_wp2
     repeat (go_quiet (fail); try go_wp2)
     go_meet
     case rel => exact ⟨_, (decide (x5_1 < (l1.length : Int))), (by first | rfl | (simp; done) | (simp [*]; done)), H', ⟨by have := HK1.out; first | omega | exact Nat.le_refl _⟩, by repeat (first | exact Drawn0.refl _ | apply Drawn0.step)⟩
    ·rw [if_neg c4] at H
     have c4b0 : decide (x5_1 < (l0.length : Int)) = false := decide_eq_false c4
     clear c4
     (first | rw [c4b0] | (simp only [i64_w, i32_w]; rw [c4b0]) | skip)
     have H' := Aside0.mk H
     clear H
     go_wp2
     repeat (go_quiet (fail); try go_wp2)
     go_meet
     case rel => exact ⟨_, (false), (by first | rfl | (simp; done) | (simp [*]; done)), H', ⟨by have := HK1.out; first | omega | exact Nat.le_refl _⟩, by repeat (first | exact Drawn0.refl _ | apply Drawn0.step)⟩
   case rest =>
    clear HC3
    try clear c1
    try clear p2
    try clear c4
    try clear c4b0
    try clear p2
    obtain ⟨kq, x15_2, rfl, HA, HJ2, ⟨mc2, rfl⟩⟩ := hcut
    cases kq with
    | zero => exact absurd HA.out (by simp [spec_l2Compare.j1])
    | succ kj2 =>
     have H := HA.out
     clear HA
     simp only [spec_l2Compare.j1] at H
     by_cases c5 : x15_2 = true
     ·subst c5
      have H1 : (if 0 ≤ x5_1 then (if x5_1 < (l0.length : Int) then (if x5_1 < (l1.length : Int) then (if (rd l0 x5_1) < (rd l1 x5_1) then (some (-1)) else (if (rd l0 x5_1) > (rd l1 x5_1) then (some 1) else (spec_l2Compare.l0 kj2 l0 l1 (wrap64 (x5_1 + 1))))) else (none)) else (none)) else (none)) = some r := by rw [if_pos rfl] at H; exact H
      clear H
      have H := H1
      clear H1
      by_cases c6 : 0 ≤ x5_1
      ·rw [if_pos c6] at H
       have c6b0 : decide (0 ≤ x5_1) = true := decide_eq_true c6
       clear c6
       by_cases c7 : x5_1 < (l0.length : Int)
       ·rw [if_pos c7] at H
        have c7b0 : decide (x5_1 < (l0.length : Int)) = true := decide_eq_true c7
        clear c7
        by_cases c8 : x5_1 < (l1.length : Int)
        ·rw [if_pos c8] at H
         have c8b0 : decide (x5_1 < (l1.length : Int)) = true := decide_eq_true c8
         clear c8
         by_cases c9 : (rd l0 x5_1) < (rd l1 x5_1)
         ·rw [if_pos c9] at H
          have c9b0 : decide ((rd l0 x5_1) < (rd l1 x5_1)) = true := decide_eq_true c9
          clear c9
          obtain rfl := Option.some.inj H
          have p110 : 0 ≤ (x5_1 : Int) := of_decide_eq_true (by first | (with_reducible assumption) | assumption)
          have q110 : x5_1 < (l0.length : Int) := of_decide_eq_true (by first | (with_reducible assumption) | assumption)
          obtain ⟨ad110, e110, hx110_0⟩ := Kd.at_int HR0.out x5_1 p110 q110
          cases e110
          replace p110 := eq_true p110
          replace q110 := eq_true q110
          have p111 : 0 ≤ (x5_1 : Int) := of_decide_eq_true (by first | (with_reducible assumption) | assumption)
          have q111 : x5_1 < (l1.length : Int) := of_decide_eq_true (by first | (with_reducible assumption) | assumption)
          obtain ⟨ad111, e111, hx111_0⟩ := Kd.at_int HR1.out x5_1 p111 q111
          cases e111
          replace p111 := eq_true p111
          replace q111 := eq_true q111
          go_wp2
          repeat (go_quiet (fail); try go_wp2)
          go_ret
          exact ⟨by first | rfl | (simp; done) | (simp [*]; done), by repeat (first | exact Drawn0.refl _ | apply Drawn0.step)⟩
         ·rw [if_neg c9] at H
          have c9b0 : decide ((rd l0 x5_1) < (rd l1 x5_1)) = false := decide_eq_false c9
          clear c9
          by_cases c10 : (rd l0 x5_1) > (rd l1 x5_1)
          ·rw [if_pos c10] at H
           have c10b0 : decide ((rd l1 x5_1) < (rd l0 x5_1)) = true := decide_eq_true c10
           clear c10
           obtain rfl := Option.some.inj H
           have p110 : 0 ≤ (x5_1 : Int) := of_decide_eq_true (by first | (with_reducible assumption) | assumption)
           have q110 : x5_1 < (l0.length : Int) := of_decide_eq_true (by first | (with_reducible assumption) | assumption)
           obtain ⟨ad110, e110, hx110_0⟩ := Kd.at_int HR0.out x5_1 p110 q110
           cases e110
           replace p110 := eq_true p110
           replace q110 := eq_true q110
           have p111 : 0 ≤ (x5_1 : Int) := of_decide_eq_true (by first | (with_reducible assumption) | assumption)
           have q111 : x5_1 < (l1.length : Int) := of_decide_eq_true (by first | (with_reducible assumption) | assumption)
           obtain ⟨ad111, e111, hx111_0⟩ := Kd.at_int HR1.out x5_1 p111 q111
           cases e111
           replace p111 := eq_true p111
           replace q111 := eq_true q111
           have p112 : 0 ≤ (x5_1 : Int) := of_decide_eq_true (by first | (with_reducible assumption) | assumption)
           have q112 : x5_1 < (l0.length : Int) := of_decide_eq_true (by first | (with_reducible assumption) | assumption)
           obtain ⟨ad112, e112, hx112_0⟩ := Kd.at_int HR0.out x5_1 p112 q112
           obtain rfl : ad110 = ad112 := (by injection e112)
           replace p112 := eq_true p112
           replace q112 := eq_true q112
           have p113 : 0 ≤ (x5_1 : Int) := of_decide_eq_true (by first | (with_reducible assumption) | assumption)
           have q113 : x5_1 < (l1.length : Int) := of_decide_eq_true (by first | (with_reducible assumption) | assumption)
           obtain ⟨ad113, e113, hx113_0⟩ := Kd.at_int HR1.out x5_1 p113 q113
           obtain rfl : ad111 = ad113 := (by injection e113)
           replace p113 := eq_true p113
           replace q113 := eq_true q113
           go_wp2
           repeat (go_quiet (fail); try go_wp2)
           go_ret
           exact ⟨by first | rfl | (simp; done) | (simp [*]; done), by repeat (first | exact Drawn0.refl _ | apply Drawn0.step)⟩
          ·rw [if_neg c10] at H
           have c10b0 : decide ((rd l1 x5_1) < (rd l0 x5_1)) = false := decide_eq_false c10
           clear c10
           have H' := Aside0.mk H
           clear H
           have p110 : 0 ≤ (x5_1 : Int) := of_decide_eq_true (by first | (with_reducible assumption) | assumption)
           have q110 : x5_1 < (l0.length : Int) := of_decide_eq_true (by first | (with_reducible assumption) | assumption)
           obtain ⟨ad110, e110, hx110_0⟩ := Kd.at_int HR0.out x5_1 p110 q110
           cases e110
           replace p110 := eq_true p110
           replace q110 := eq_true q110
           have p111 : 0 ≤ (x5_1 : Int) := of_decide_eq_true (by first | (with_reducible assumption) | assumption)
           have q111 : x5_1 < (l1.length : Int) := of_decide_eq_true (by first | (with_reducible assumption) | assumption)
           obtain ⟨ad111, e111, hx111_0⟩ := Kd.at_int HR1.out x5_1 p111 q111
           cases e111
           replace p111 := eq_true p111
           replace q111 := eq_true q111
           have p112 : 0 ≤ (x5_1 : Int) := of_decide_eq_true (by first | (with_reducible assumption) | assumption)
           have q112 : x5_1 < (l0.length : Int) := of_decide_eq_true (by first | (with_reducible assumption) | assumption)
           obtain ⟨ad112, e112, hx112_0⟩ := Kd.at_int HR0.out x5_1 p112 q112
           obtain rfl : ad110 = ad112 := (by injection e112)
           replace p112 := eq_true p112
           replace q112 := eq_true q112
           have p113 : 0 ≤ (x5_1 : Int) := of_decide_eq_true (by first | (with_reducible assumption) | assumption)
           have q113 : x5_1 < (l1.length : Int) := of_decide_eq_true (by first | (with_reducible assumption) | assumption)
           obtain ⟨ad113, e113, hx113_0⟩ := Kd.at_int HR1.out x5_1 p113 q113
           obtain rfl : ad111 = ad113 := (by injection e113)
           replace p113 := eq_true p113
           replace q113 := eq_true q113
           go_wp2
           repeat (go_quiet (fail); try go_wp2)
           go_roundg kj2
           case measure => have := HK1.out; have := HJ2.out; omega
           case rel => exact ⟨(wrap64 (x5_1 + 1)), (by first | rfl | (simp; done) | (simp [*]; done)), H', ⟨by have := HK1.out; have := HJ2.out; omega⟩, by repeat (first | exact Drawn0.refl _ | apply Drawn0.step)⟩
        ·rw [if_neg c8] at H
         exact absurd H (by simp)
       ·rw [if_neg c7] at H
        exact absurd H (by simp)
      ·rw [if_neg c6] at H
       exact absurd H (by simp)
     ·replace c5 := Bool.eq_false_iff.mpr c5
      subst c5
      have H1 : (if (l0.length : Int) = (l1.length : Int) then (some 0) else (if (l0.length : Int) < (l1.length : Int) then (some (-1)) else (some 1))) = some r := by rw [if_neg (show ¬ (false = true) by decide)] at H; exact H
      clear H
      have H := H1
      clear H1
      by_cases c11 : (l0.length : Int) = (l1.length : Int)
      ·rw [if_pos c11] at H
       have c11b0 : ((l0.length : Int) == (l1.length : Int)) = true := beq_iff_eq.mpr c11
       have c11b1 : ((l0.length : Int) != (l1.length : Int)) = false := bne_eq_false_iff_eq.mpr c11
       have c11b2 : (l0.length == l1.length) = true := by first | simpa using c11 | (simp at c11 ⊢; omega)
       clear c11
       obtain rfl := Option.some.inj H
       go_wp2
       repeat (go_quiet (fail); try go_wp2)
       go_ret
       exact ⟨by first | rfl | (simp; done) | (simp [*]; done), by repeat (first | exact Drawn0.refl _ | apply Drawn0.step)⟩
      ·rw [if_neg c11] at H
       have c11b0 : ((l0.length : Int) == (l1.length : Int)) = false := beq_eq_false_iff_ne.mpr c11
       have c11b1 : ((l0.length : Int) != (l1.length : Int)) = true := bne_iff_ne.mpr c11
       have c11b2 : (l0.length == l1.length) = false := by first | simpa using c11 | (simp at c11 ⊢; omega)
       by_cases c12 : (l0.length : Int) < (l1.length : Int)
       ·rw [if_pos c12] at H
        have c12b0 : decide ((l0.length : Int) < (l1.length : Int)) = true := decide_eq_true c12
        have c12b1 : decide (l0.length < l1.length) = true := decide_eq_true (Int.ofNat_lt.mp c12)
        clear c12
        obtain rfl := Option.some.inj H
        go_wp2
        repeat (go_quiet (fail); try go_wp2)
        go_ret
        exact ⟨by first | rfl | (simp; done) | (simp [*]; done), by repeat (first | exact Drawn0.refl _ | apply Drawn0.step)⟩
       ·rw [if_neg c12] at H
        have c12b0 : decide ((l0.length : Int) < (l1.length : Int)) = false := decide_eq_false c12
        have c12b1 : decide (l0.length < l1.length) = false := decide_eq_false (fun h => c12 (Int.ofNat_lt.mpr h))
        clear c12
        obtain rfl := Option.some.inj H
        go_wp2
        repeat (go_quiet (fail); try go_wp2)
        go_ret
        exact ⟨by first | rfl | (simp; done) | (simp [*]; done), by repeat (first | exact Drawn0.refl _ | apply Drawn0.step)⟩
end Go.Proofs.Ytkohcdddgjaijaa.P
namespace Go.Proofs.Ytkohcdddgjaijaa.P
open Go.RowKit Go.Proofs.YtkohcdddgjaijaaW.PrintWords Go.Proofs.YtkohcdddgjaijaaW.PrintLast Go.Proofs.YtkohcdddgjaijaaW.PrintMore
attribute [local go_sem] max2_int min2_int max_two min_two max_three min_three max_four min_four
set_option linter.unusedVariables false
set_option linter.unusedSimpArgs false
def spec_l2SortedRows.l0 : Nat → List (List Int) → Int → List (List Int) → Int → Int → Option (Bool)
 | 0, _, _, _, _, _ => none
 | k + 1, x0, x1, x7, x8, x9 => if x9 < x8 then (if 0 ≤ x9 then (if x9 < (x7.length : Int) then (if ((rd_L1 x7 x9).length : Int) = x1 then (if x9 > 0 then (if 0 ≤ (wrap64 (x9 - 1)) then (if (wrap64 (x9 - 1)) < (x0.length : Int) then ((spec_l2Compare.f k (rd_L1 x0 (wrap64 (x9 - 1))) (rd_L1 x7 x9)).bind fun t116 => (if t116 ≥ 0 then (some false) else (spec_l2SortedRows.l0 k x0 x1 x7 x8 (wrap64 (x9 + 1))))) else (none)) else (none)) else (spec_l2SortedRows.l0 k x0 x1 x7 x8 (wrap64 (x9 + 1)))) else (some false)) else (none)) else (none)) else (some true)
def spec_l2SortedRows.f (k : Nat) (l0 : List (List Int)) (a1 : Int) : Option (Bool) := spec_l2SortedRows.l0 k l0 a1 l0 (l0.length : Int) 0
theorem spec_l2SortedRows.mono_l : ∀ k, (∀ y0 y1 y2 y3 y4, LeO (spec_l2SortedRows.l0 k y0 y1 y2 y3 y4) (spec_l2SortedRows.l0 (k + 1) y0 y1 y2 y3 y4))
 | 0 => fun _ _ _ _ _ r h => by simp [spec_l2SortedRows.l0] at h
 | k + 1 => by
  have ih0 := spec_l2SortedRows.mono_l k
  ·intro y0 y1 y2 y3 y4
   unfold spec_l2SortedRows.l0
   repeat' first
   | (with_reducible exact ih0 _ _ _ _ _)
   | (with_reducible exact spec_l2Compare.mono _ _ _)
   | (with_reducible exact LeO.refl _)
   | (with_reducible exact LeO.none _)
   | (with_reducible refine LeO.ite ?_ ?_)
   | (with_reducible refine LeO.bind ?_ (fun _ => ?_))
   | exact ih0 _ _ _ _ _
   | exact spec_l2Compare.mono _ _ _
   | exact LeO.none _
   | refine LeO.ite ?_ ?_
   | refine LeO.bind ?_ (fun _ => ?_)
theorem spec_l2SortedRows.mono : ∀ a0 a1 k, LeO (spec_l2SortedRows.f k a0 a1) (spec_l2SortedRows.f (k + 1) a0 a1) := by
 intro a0 a1 k
 have ih0 := spec_l2SortedRows.mono_l k
 unfold spec_l2SortedRows.f
 repeat' first
   | (with_reducible exact ih0 _ _ _ _ _)
   | (with_reducible exact spec_l2Compare.mono _ _ _)
   | (with_reducible exact LeO.refl _)
   | (with_reducible exact LeO.none _)
   | (with_reducible refine LeO.ite ?_ ?_)
   | (with_reducible refine LeO.bind ?_ (fun _ => ?_))
   | exact ih0 _ _ _ _ _
   | exact spec_l2Compare.mono _ _ _
   | exact LeO.none _
   | refine LeO.ite ?_ ?_
   | refine LeO.bind ?_ (fun _ => ?_)
set_option maxHeartbeats 8000000 in
set_option maxRecDepth 100000 in
theorem spec_l2SortedRows.calls (k : Nat) (A0 : Option Addr) (c0 : Nat) (l0 : List (List Int)) (a1 : Int) (r : Bool) (w : World) (hr0 : Kd.C (Kd.slice 3 (Kd.int .i64)) w A0 l0.length l0) (hc0 : l0.length ≤ c0) (h : spec_l2SortedRows.f k l0 a1 = some r) :
  Calls Try.prog 41 #[.slice A0 l0.length c0, .int .i64 a1] w fun e w' => e = .returned (.bool r) ∧ Drawn0 w w' := by
 have HR0 := Aside0.mk hr0
 have HC0 := Aside0.mk hc0
 clear hr0 hc0
 have H : (spec_l2SortedRows.l0 k l0 a1 l0 (l0.length : Int) 0) = some r := h
 clear h
 have H' := Aside0.mk H
 clear H
 go_enter Try.func41, Try.ntmps41
 go_wp2
 go_loopg [9] k (fun kq v9 w' => ∃ (x9_1 : Int), v9 = .int .i64 x9_1 ∧ Aside0 (spec_l2SortedRows.l0 kq l0 a1 l0 (l0.length : Int) x9_1 = some r) ∧ Aside0 (kq ≤ k) ∧ Drawn0 w w')
 case atStart => exact ⟨(0), (by first | rfl | (simp; done) | (simp [*]; done)), H', ⟨Nat.le_refl _⟩, by repeat (first | exact Drawn0.refl _ | apply Drawn0.step)⟩
 case round =>
  clear H'
  try clear p2
  obtain ⟨x9_1, rfl, HA, HK1, ⟨m1, rfl⟩⟩ := hrel
  cases gk with
  | zero => exact absurd HA.out (by simp [spec_l2SortedRows.l0])
  | succ k1 =>
   have H := HA.out
   clear HA
   simp only [spec_l2SortedRows.l0] at H
   by_cases c3 : x9_1 < (l0.length : Int)
   ·rw [if_pos c3] at H
    have c3b0 : decide (x9_1 < (l0.length : Int)) = true := decide_eq_true c3
    clear c3
    by_cases c4 : 0 ≤ x9_1
    ·rw [if_pos c4] at H
     have c4b0 : decide (0 ≤ x9_1) = true := decide_eq_true c4
     clear c4
     by_cases c5 : x9_1 < (l0.length : Int)
     ·rw [if_pos c5] at H
      have c5b0 : decide (x9_1 < (l0.length : Int)) = true := decide_eq_true c5
      clear c5
      by_cases c6 : ((rd_L1 l0 x9_1).length : Int) = a1
      ·rw [if_pos c6] at H
       have c6b0 : (((rd_L1 l0 x9_1).length : Int) == a1) = true := beq_iff_eq.mpr c6
       have c6b1 : (((rd_L1 l0 x9_1).length : Int) != a1) = false := bne_eq_false_iff_eq.mpr c6
       clear c6
       by_cases c7 : x9_1 > 0
       ·rw [if_pos c7] at H
        have c7b0 : decide (0 < x9_1) = true := decide_eq_true c7
        clear c7
        obtain ⟨ji8, hji8⟩ : ∃ j_ : Int, (wrap64 (x9_1 - 1)) = j_ := ⟨_, rfl⟩
        replace H : (if 0 ≤ (ji8) then (if (ji8) < (l0.length : Int) then ((spec_l2Compare.f k1 (rd_L1 l0 (ji8)) (rd_L1 l0 x9_1)).bind fun t116 => (if t116 ≥ 0 then (some false) else (spec_l2SortedRows.l0 k1 l0 a1 l0 (l0.length : Int) (wrap64 (x9_1 + 1))))) else (none)) else (none)) = some r := by first | (rw [hji8] at H; exact H) | (simp only [hji8] at H ⊢; exact H)
        have hji8w : (IntKind.i64.wrap (x9_1 - 1)) = ji8 := (i64_w _).trans hji8
        by_cases c9 : 0 ≤ (ji8)
        ·rw [if_pos c9] at H
         have c9b0 : decide (0 ≤ (ji8)) = true := decide_eq_true c9
         clear c9
         by_cases c10 : (ji8) < (l0.length : Int)
         ·rw [if_pos c10] at H
          have c10b0 : decide ((ji8) < (l0.length : Int)) = true := decide_eq_true c10
          clear c10
          replace H := Option.bind_eq_some_iff.mp H
          obtain ⟨t116, A110, H⟩ := H
          replace H : (if t116 ≥ 0 then (some false) else (spec_l2SortedRows.l0 k1 l0 a1 l0 (l0.length : Int) (wrap64 (x9_1 + 1)))) = some r := H
          have A11 := Aside0.mk A110
          clear A110
          by_cases c12 : t116 ≥ 0
          ·rw [if_pos c12] at H
           have c12b0 : decide (0 ≤ t116) = true := decide_eq_true c12
           clear c12
           obtain rfl := Option.some.inj H
           have p114 : 0 ≤ (x9_1 : Int) := of_decide_eq_true (by first | (with_reducible assumption) | assumption)
           have q114 : x9_1 < (l0.length : Int) := of_decide_eq_true (by first | (with_reducible assumption) | assumption)
           obtain ⟨ad114, A114_0, c114_0, e114, hx114_0, hl114_0, hi114_0⟩ := at_L1 HR0.out x9_1 p114 q114
           cases e114
           have HR114_0 := Aside0.mk hi114_0
           have HC114_0 := Aside0.mk hl114_0
           clear hi114_0 hl114_0
           replace p114 := eq_true p114
           replace q114 := eq_true q114
           have p115 : 0 ≤ ((ji8) : Int) := of_decide_eq_true (by first | (with_reducible assumption) | assumption)
           have q115 : (ji8) < (l0.length : Int) := of_decide_eq_true (by first | (with_reducible assumption) | assumption)
           obtain ⟨ad115, A115_0, c115_0, e115, hx115_0, hl115_0, hi115_0⟩ := at_L1 HR0.out (ji8) p115 q115
           obtain rfl : ad114 = ad115 := (by injection e115)
           have HR115_0 := Aside0.mk hi115_0
           have HC115_0 := Aside0.mk hl115_0
           clear hi115_0 hl115_0
           replace p115 := eq_true p115
           replace q115 := eq_true q115
           go_wp2_with (first | (go_at_call 50; (with_reducible refine (spec_l2Compare.calls k1 _ _ (rd_L1 l0 (ji8)) _ _ (rd_L1 l0 x9_1) t116 _ ?side1 ?side2 ?side3 ?side4 A11.out).mono ?_); (case side1 => repeat (first | exact HR115_0.out | (with_reducible refine Kd.C_alloc ?_ _) | (with_reducible refine Kd.C_drewN ?_ _) | (with_reducible refine Kd.C_drew ?_))); (case side2 => exact HC115_0.out); (case side3 => repeat (first | exact HR114_0.out | (with_reducible refine Kd.C_alloc ?_ _) | (with_reducible refine Kd.C_drewN ?_ _) | (with_reducible refine Kd.C_drew ?_))); (case side4 => exact HC114_0.out); rintro e w' ⟨rfl, ⟨nd, rfl⟩⟩))
           go_ret
           exact ⟨by first | rfl | (simp; done) | (simp only [← hji8] <;> (first | rfl | simp)) | (simp [*]; done), by repeat (first | exact Drawn0.refl _ | apply Drawn0.step)⟩
          ·rw [if_neg c12] at H
           have c12b0 : decide (0 ≤ t116) = false := decide_eq_false c12
           clear c12
           have H' := Aside0.mk H
           clear H
           have p114 : 0 ≤ (x9_1 : Int) := of_decide_eq_true (by first | (with_reducible assumption) | assumption)
           have q114 : x9_1 < (l0.length : Int) := of_decide_eq_true (by first | (with_reducible assumption) | assumption)
           obtain ⟨ad114, A114_0, c114_0, e114, hx114_0, hl114_0, hi114_0⟩ := at_L1 HR0.out x9_1 p114 q114
           cases e114
           have HR114_0 := Aside0.mk hi114_0
           have HC114_0 := Aside0.mk hl114_0
           clear hi114_0 hl114_0
           replace p114 := eq_true p114
           replace q114 := eq_true q114
           have p115 : 0 ≤ ((ji8) : Int) := of_decide_eq_true (by first | (with_reducible assumption) | assumption)
           have q115 : (ji8) < (l0.length : Int) := of_decide_eq_true (by first | (with_reducible assumption) | assumption)
           obtain ⟨ad115, A115_0, c115_0, e115, hx115_0, hl115_0, hi115_0⟩ := at_L1 HR0.out (ji8) p115 q115
           obtain rfl : ad114 = ad115 := (by injection e115)
           have HR115_0 := Aside0.mk hi115_0
           have HC115_0 := Aside0.mk hl115_0
           clear hi115_0 hl115_0
           replace p115 := eq_true p115
           replace q115 := eq_true q115
           go_wp2_with (first | (go_at_call 50; (with_reducible refine (spec_l2Compare.calls k1 _ _ (rd_L1 l0 (ji8)) _ _ (rd_L1 l0 x9_1) t116 _ ?side1 ?side2 ?side3 ?side4 A11.out).mono ?_); (case side1 => repeat (first | exact HR115_0.out | (with_reducible refine Kd.C_alloc ?_ _) | (with_reducible refine Kd.C_drewN ?_ _) | (with_reducible refine Kd.C_drew ?_))); (case side2 => exact HC115_0.out); (case side3 => repeat (first | exact HR114_0.out | (with_reducible refine Kd.C_alloc ?_ _) | (with_reducible refine Kd.C_drewN ?_ _) | (with_reducible refine Kd.C_drew ?_))); (case side4 => exact HC114_0.out); rintro e w' ⟨rfl, ⟨nd, rfl⟩⟩))
           go_roundg k1
           case measure => have := HK1.out; omega
           case rel => exact ⟨(wrap64 (x9_1 + 1)), (by first | rfl | (simp; done) | (simp [*]; done)), H', ⟨by have := HK1.out; omega⟩, by repeat (first | exact Drawn0.refl _ | apply Drawn0.step)⟩
         ·rw [if_neg c10] at H
          exact absurd H (by simp)
        ·rw [if_neg c9] at H
         exact absurd H (by simp)
       ·rw [if_neg c7] at H
        have c7b0 : decide (0 < x9_1) = false := decide_eq_false c7
        clear c7
        have H' := Aside0.mk H
        clear H
        have p114 : 0 ≤ (x9_1 : Int) := of_decide_eq_true (by first | (with_reducible assumption) | assumption)
        have q114 : x9_1 < (l0.length : Int) := of_decide_eq_true (by first | (with_reducible assumption) | assumption)
        obtain ⟨ad114, A114_0, c114_0, e114, hx114_0, hl114_0, hi114_0⟩ := at_L1 HR0.out x9_1 p114 q114
        cases e114
        have HR114_0 := Aside0.mk hi114_0
        have HC114_0 := Aside0.mk hl114_0
        clear hi114_0 hl114_0
        replace p114 := eq_true p114
        replace q114 := eq_true q114
        go_wp2
        go_roundg k1
        case measure => have := HK1.out; omega
        case rel => exact ⟨(wrap64 (x9_1 + 1)), (by first | rfl | (simp; done) | (simp [*]; done)), H', ⟨by have := HK1.out; omega⟩, by repeat (first | exact Drawn0.refl _ | apply Drawn0.step)⟩
      ·rw [if_neg c6] at H
       have c6b0 : (((rd_L1 l0 x9_1).length : Int) == a1) = false := beq_eq_false_iff_ne.mpr c6
       have c6b1 : (((rd_L1 l0 x9_1).length : Int) != a1) = true := bne_iff_ne.mpr c6
       obtain rfl := Option.some.inj H
       have p114 : 0 ≤ (x9_1 : Int) := of_decide_eq_true (by first | (with_reducible assumption) | assumption)
       have q114 : x9_1 < (l0.length : Int) := of_decide_eq_true (by first | (with_reducible assumption) | assumption)
       obtain ⟨ad114, A114_0, c114_0, e114, hx114_0, hl114_0, hi114_0⟩ := at_L1 HR0.out x9_1 p114 q114
       cases e114
       have HR114_0 := Aside0.mk hi114_0
       have HC114_0 := Aside0.mk hl114_0
       clear hi114_0 hl114_0
       replace p114 := eq_true p114
       replace q114 := eq_true q114
       go_wp2
       go_ret
       exact ⟨by first | rfl | (simp; done) | (simp [*]; done), by repeat (first | exact Drawn0.refl _ | apply Drawn0.step)⟩
     ·rw [if_neg c5] at H
      exact absurd H (by simp)
    ·rw [if_neg c4] at H
     exact absurd H (by simp)
   ·rw [if_neg c3] at H
    have c3b0 : decide (x9_1 < (l0.length : Int)) = false := decide_eq_false c3
    clear c3
    obtain rfl := Option.some.inj H
    go_wp2
    go_ret
    exact ⟨by first | rfl | (simp; done) | (simp [*]; done), by repeat (first | exact Drawn0.refl _ | apply Drawn0.step)⟩
end Go.Proofs.Ytkohcdddgjaijaa.P
namespace Go.Proofs.Ytkohcdddgjaijaa.PT
set_option linter.unusedSimpArgs false
open Go.RowKit Go.Proofs.Ytkohcdddgjaijaa.P Go.Proofs.YtkohcdddgjaijaaW.PrintWords Go.Proofs.YtkohcdddgjaijaaW.PrintLast Go.Proofs.Ytkohcdddgjaijaa.EvKit
def cmpL : List Int → List Int → Int
  | [], [] => 0
  | [], _ :: _ => -1
  | _ :: _, [] => 1
  | a :: s, b :: t => if a < b then -1 else if b < a then 1 else cmpL s t
theorem cmpInt_v (a b : Int) : cmp_Compare_int.f a b = some (if a < b then -1 else if b < a then 1 else 0) := by
  unfold cmp_Compare_int.f cmp_isNaN_int.f
  simp only [bne_self_eq_false, Option.bind_some, Bool.false_eq_true, if_false]
  by_cases h1 : a < b
  · rw [if_pos h1, if_pos h1]
  · rw [if_neg h1, if_neg h1]
    by_cases h2 : b < a
    · rw [if_pos h2, if_pos h2]
    · rw [if_neg h2, if_neg h2]
theorem slicesCompare_l0 (a b : List Int) (ha : a.length ≤ 9223372036854775806) : ∀ i, i ≤ a.length → i ≤ b.length → Ev (fun k => slices_Compare_int_int.l0 k a b a (a.length : Int) (i : Int)) (cmpL (a.drop i) (b.drop i)) := by
  have key : ∀ d i, i + d = a.length → i ≤ b.length → Ev (fun k => slices_Compare_int_int.l0 k a b a (a.length : Int) (i : Int)) (cmpL (a.drop i) (b.drop i)) := by
    intro d
    induction d with
    | zero =>
      intro i hi hb
      refine Ev.succ ?_
      simp only [slices_Compare_int_int.l0, if_neg (show ¬ ((i : Int) < (a.length : Int)) by omega)]
      rw [List.drop_of_length_le (l := a) (by omega)]
      by_cases h : a.length < b.length
      · simp only [if_pos (show (a.length : Int) < (b.length : Int) by omega)]
        rw [drop_at (show i < b.length by omega)]; exact Ev.now _
      · simp only [if_neg (show ¬ (a.length : Int) < (b.length : Int) by omega)]
        rw [List.drop_of_length_le (l := b) (by omega)]; exact Ev.now _
    | succ d ih =>
      intro i hi hb
      have hlt : i < a.length := by omega
      refine Ev.succ ?_
      simp only [slices_Compare_int_int.l0, if_pos (show ((i : Int) < (a.length : Int)) by omega), if_pos (show (0 : Int) ≤ (i : Int) by omega), rd_at hlt, w64n (show i ≤ 9223372036854775806 by omega)]
      rw [drop_at hlt]
      by_cases h : i < b.length
      · simp only [if_neg (show ¬ ((i : Int) ≥ (b.length : Int)) by omega), if_pos (show ((i : Int) < (b.length : Int)) by omega), rd_at h, cmpInt_v, Option.bind_some]
        rw [drop_at h]
        simp only [cmpL]
        by_cases h1 : a[i] < b[i]
        · simp only [if_pos h1, show ¬ ((-1 : Int) = 0) by omega, if_false]; exact Ev.now _
        · by_cases h2 : b[i] < a[i]
          · simp only [if_neg h1, if_pos h2, show ¬ ((1 : Int) = 0) by omega, if_false]; exact Ev.now _
          · simp only [if_neg h1, if_neg h2, if_true]; exact ih (i + 1) (by omega) (by omega)
      · simp only [if_pos (show ((i : Int) ≥ (b.length : Int)) by omega)]
        rw [List.drop_of_length_le (l := b) (by omega)]; exact Ev.now _
  intro i hi hb
  exact key (a.length - i) i (by omega) hb
theorem slicesCompare_ev (a b : List Int) (ha : a.length ≤ 9223372036854775806) : Ev (fun k => slices_Compare_int_int.f k a b) (cmpL a b) := by
  unfold slices_Compare_int_int.f
  have := slicesCompare_l0 a b ha 0 (by omega) (by omega)
  simpa using this
theorem l2Compare_l0 (a b : List Int) (ha : a.length ≤ 9223372036854775806) : ∀ d i, i + d = a.length → i ≤ b.length → Ev (fun k => spec_l2Compare.l0 k a b (i : Int)) (cmpL (a.drop i) (b.drop i)) := by
  intro d
  induction d with
  | zero =>
    intro i hi hb
    refine Ev.succ (Ev.congr (f := fun k => spec_l2Compare.j1 k a b (i : Int) false) (fun k => by simp only [spec_l2Compare.l0, if_neg (show ¬ ((i : Int) < (a.length : Int)) by omega)]) (Ev.succ ?_))
    simp only [spec_l2Compare.j1, Bool.false_eq_true, if_false]
    rw [List.drop_of_length_le (l := a) (by omega)]
    by_cases h : a.length < b.length
    · simp only [if_neg (show ¬ (a.length : Int) = (b.length : Int) by omega), if_pos (show (a.length : Int) < (b.length : Int) by omega)]
      rw [drop_at (show i < b.length by omega)]; exact Ev.now _
    · simp only [if_pos (show (a.length : Int) = (b.length : Int) by omega)]
      rw [List.drop_of_length_le (l := b) (by omega)]; exact Ev.now _
  | succ d ih =>
    intro i hi hb
    have hlt : i < a.length := by omega
    refine Ev.succ (Ev.congr (f := fun k => spec_l2Compare.j1 k a b (i : Int) (decide ((i : Int) < (b.length : Int)))) (fun k => by simp only [spec_l2Compare.l0, if_pos (show ((i : Int) < (a.length : Int)) by omega)]) (Ev.succ ?_))
    rw [drop_at hlt]
    by_cases h : i < b.length
    · simp only [spec_l2Compare.j1, show ((i : Int) < (b.length : Int)) by omega, decide_true, if_true, show (0 : Int) ≤ (i : Int) by omega, show ((i : Int) < (a.length : Int)) by omega, rd_at hlt, rd_at h, w64n (show i ≤ 9223372036854775806 by omega)]
      rw [drop_at h]
      simp only [cmpL]
      by_cases h1 : a[i] < b[i]
      · simp only [if_pos h1]; exact Ev.now _
      · by_cases h2 : b[i] < a[i]
        · simp only [if_neg h1, if_pos (show a[i] > b[i] by omega), if_pos h2]; exact Ev.now _
        · simp only [if_neg h1, if_neg (show ¬ a[i] > b[i] by omega), if_neg h2]; exact ih (i + 1) (by omega) (by omega)
    · simp only [spec_l2Compare.j1, show ¬ ((i : Int) < (b.length : Int)) by omega, decide_false, Bool.false_eq_true, if_false]
      rw [List.drop_of_length_le (l := b) (by omega)]
      simp only [if_neg (show ¬ (a.length : Int) = (b.length : Int) by omega), if_neg (show ¬ (a.length : Int) < (b.length : Int) by omega)]; exact Ev.now _
theorem l2Compare_ev (a b : List Int) (ha : a.length ≤ 9223372036854775806) : Ev (fun k => spec_l2Compare.f k a b) (cmpL a b) := by
  unfold spec_l2Compare.f
  have := l2Compare_l0 a b ha a.length 0 (by omega) (by omega)
  simpa using this
noncomputable def rowsR (l : List (List Int)) (w : Int) (i : Nat) : Bool := @decide (∀ j, i ≤ j → ∀ h : j < l.length, (l[j].length : Int) = w ∧ (0 < j → cmpL (l.getD (j - 1) []) l[j] < 0)) (Classical.propDecidable _)
theorem rowsR_end (l : List (List Int)) (w : Int) {i : Nat} (h : l.length ≤ i) : rowsR l w i = true := by unfold rowsR; exact @decide_eq_true _ (Classical.propDecidable _) (fun j hj hl => by omega)
theorem rowsR_no1 (l : List (List Int)) (w : Int) {i : Nat} (h : i < l.length) (h1 : ¬ (l[i].length : Int) = w) : rowsR l w i = false := by unfold rowsR; exact @decide_eq_false _ (Classical.propDecidable _) (fun H => h1 (H i (Nat.le_refl _) h).1)
theorem rowsR_no2 (l : List (List Int)) (w : Int) {i : Nat} (h : i < l.length) (h0 : 0 < i) (h1 : ¬ cmpL (l.getD (i - 1) []) l[i] < 0) : rowsR l w i = false := by unfold rowsR; exact @decide_eq_false _ (Classical.propDecidable _) (fun H => h1 ((H i (Nat.le_refl _) h).2 h0))
theorem rowsR_on (l : List (List Int)) (w : Int) {i : Nat} (h : i < l.length) (h1 : (l[i].length : Int) = w) (h2 : 0 < i → cmpL (l.getD (i - 1) []) l[i] < 0) : rowsR l w i = rowsR l w (i + 1) := by
  unfold rowsR
  rw [decide_eq_decide]
  constructor
  · intro H j hj hl; exact H j (by omega) hl
  · intro H j hj hl
    by_cases e : j = i
    · subst e; exact ⟨h1, h2⟩
    · exact H j (by omega) hl
theorem rowsOK_ev (l : List (List Int)) (w : Int) (hl : l.length ≤ 9223372036854775806) (hll : ∀ x, x ∈ l → x.length ≤ 9223372036854775806) : Ev (fun k => impl_rowsOK.f k l w) (rowsR l w 0) := by
  unfold impl_rowsOK.f
  refine Ev.loop (g := fun k i => impl_rowsOK.l0 k l w l (l.length : Int) (i : Int)) (n := l.length) (R := rowsR l w) ?_ ?_ 0 (Nat.zero_le _)
  · refine Ev.succ ?_
    simp only [impl_rowsOK.l0, if_neg (show ¬ ((l.length : Int) < (l.length : Int)) by omega), rowsR_end l w (Nat.le_refl _)]
    exact Ev.now _
  · intro i hi ih
    refine Ev.succ ?_
    have hr : rd_L1 l (i : Int) = l[i] := getD_at _ hi
    simp only [impl_rowsOK.l0, if_pos (show ((i : Int) < (l.length : Int)) by omega), if_pos (show (0 : Int) ≤ (i : Int) by omega), hr, w64n (show i ≤ 9223372036854775806 by omega)]
    by_cases h1 : (l[i].length : Int) = w
    · simp only [if_pos h1]
      by_cases h0 : i = 0
      · subst h0
        simp only [show ¬ (((0 : Nat) : Int) > 0) by omega, if_false]
        rw [rowsR_on l w hi h1 (fun h => by omega)]; exact ih
      · have hw : wrap64 ((i : Int) - 1) = ((i - 1 : Nat) : Int) := by unfold wrap64; omega
        have hp : rd_L1 l ((i - 1 : Nat) : Int) = l.getD (i - 1) [] := by unfold rd_L1; rw [Int.toNat_natCast]
        have hpl : (l.getD (i - 1) []).length ≤ 9223372036854775806 := by
          have e : l.getD (i - 1) [] = l[i - 1] := by simp [List.getD_eq_getElem?_getD, show i - 1 < l.length by omega]
          rw [e]; exact hll _ (List.getElem_mem _)
        simp only [show ((i : Int) > 0) by omega, if_true, hw, show (0 : Int) ≤ ((i - 1 : Nat) : Int) by omega, show (((i - 1 : Nat) : Int) < (l.length : Int)) by omega, hp]
        refine Ev.bind (slicesCompare_ev _ _ hpl) ?_
        by_cases h2 : cmpL (l.getD (i - 1) []) l[i] < 0
        · simp only [if_neg (show ¬ (cmpL (l.getD (i - 1) []) l[i] ≥ 0) by omega)]
          rw [rowsR_on l w hi h1 (fun _ => h2)]; exact ih
        · simp only [if_pos (show (cmpL (l.getD (i - 1) []) l[i] ≥ 0) by omega)]
          rw [rowsR_no2 l w hi (by omega) h2]; exact Ev.now _
    · simp only [if_neg h1]
      rw [rowsR_no1 l w hi h1]; exact Ev.now _
theorem l2SortedRows_ev (l : List (List Int)) (w : Int) (hl : l.length ≤ 9223372036854775806) (hll : ∀ x, x ∈ l → x.length ≤ 9223372036854775806) : Ev (fun k => spec_l2SortedRows.f k l w) (rowsR l w 0) := by
  unfold spec_l2SortedRows.f
  refine Ev.loop (g := fun k i => spec_l2SortedRows.l0 k l w l (l.length : Int) (i : Int)) (n := l.length) (R := rowsR l w) ?_ ?_ 0 (Nat.zero_le _)
  · refine Ev.succ ?_
    simp only [spec_l2SortedRows.l0, if_neg (show ¬ ((l.length : Int) < (l.length : Int)) by omega), rowsR_end l w (Nat.le_refl _)]
    exact Ev.now _
  · intro i hi ih
    refine Ev.succ ?_
    have hr : rd_L1 l (i : Int) = l[i] := getD_at _ hi
    simp only [spec_l2SortedRows.l0, if_pos (show ((i : Int) < (l.length : Int)) by omega), if_pos (show (0 : Int) ≤ (i : Int) by omega), hr, w64n (show i ≤ 9223372036854775806 by omega)]
    by_cases h1 : (l[i].length : Int) = w
    · simp only [if_pos h1]
      by_cases h0 : i = 0
      · subst h0
        simp only [show ¬ (((0 : Nat) : Int) > 0) by omega, if_false]
        rw [rowsR_on l w hi h1 (fun h => by omega)]; exact ih
      · have hw : wrap64 ((i : Int) - 1) = ((i - 1 : Nat) : Int) := by unfold wrap64; omega
        have hp : rd_L1 l ((i - 1 : Nat) : Int) = l.getD (i - 1) [] := by unfold rd_L1; rw [Int.toNat_natCast]
        have hpl : (l.getD (i - 1) []).length ≤ 9223372036854775806 := by
          have e : l.getD (i - 1) [] = l[i - 1] := by simp [List.getD_eq_getElem?_getD, show i - 1 < l.length by omega]
          rw [e]; exact hll _ (List.getElem_mem _)
        simp only [show ((i : Int) > 0) by omega, if_true, hw, show (0 : Int) ≤ ((i - 1 : Nat) : Int) by omega, show (((i - 1 : Nat) : Int) < (l.length : Int)) by omega, hp]
        refine Ev.bind (l2Compare_ev _ _ hpl) ?_
        by_cases h2 : cmpL (l.getD (i - 1) []) l[i] < 0
        · simp only [if_neg (show ¬ (cmpL (l.getD (i - 1) []) l[i] ≥ 0) by omega)]
          rw [rowsR_on l w hi h1 (fun _ => h2)]; exact ih
        · simp only [if_pos (show (cmpL (l.getD (i - 1) []) l[i] ≥ 0) by omega)]
          rw [rowsR_no2 l w hi (by omega) h2]; exact Ev.now _
    · simp only [if_neg h1]
      rw [rowsR_no1 l w hi h1]; exact Ev.now _
end Go.Proofs.Ytkohcdddgjaijaa.PT
