/-
  Part 8 of the proof of this: The law FnExactSemijoin answers true at every argument.
-/
import Derived.Test.YtkohcdddgjaijaaKSemijoin2
import Derived.Test.YtkohcdddgjaijaaKSemijoin3
import Derived.Test.YtkohcdddgjaijaaKSemijoin7
namespace Go.Proofs.Ytkohcdddgjaijaa.PT
open Go.RowKit Go.Proofs.Ytkohcdddgjaijaa.P Go.Proofs.YtkohcdddgjaijaaW.PrintWords Go.Proofs.YtkohcdddgjaijaaW.PrintLast Go.Proofs.Ytkohcdddgjaijaa.EvKit
set_option linter.unusedVariables false
set_option linter.unusedSimpArgs false
theorem row_at {W : World} {A : Option Addr} {n : Nat} {xs : List (List Int)} (h : Kd.C kRb W A n xs) (i : Nat) (hi : i < xs.length) :
    ∃ ad A1 c1, A = some ad ∧ W.cell? (ad.add i) = some (.slice A1 (xs[i]).length c1) ∧ (xs[i]).length ≤ c1 ∧ Kd.C (Kd.int .i64) W A1 (xs[i]).length xs[i] := by
  have hn := h.1
  obtain ⟨ad, e, hc⟩ := h.2.2 (by omega)
  obtain ⟨c, hs, ⟨A1, c1, rfl, hl, hC⟩, hcell⟩ := hc i _ (List.getElem?_eq_getElem hi)
  have := hcell 0 _ rfl
  rw [show (kRb).sz = 1 from rfl, Nat.mul_one, Nat.add_zero] at this
  exact ⟨ad, A1, c1, e, this, hl, hC⟩
theorem set3 {W : World} {g : Nat} {t : TypeId} {a b c : Value} (h : W.heap[g]? = some (.cells #[a, b, c] t (0, 0))) (x y z : Value) :
    (((W.setCell ⟨g, 0, none⟩ x).setCell ⟨g, 1, none⟩ y).setCell ⟨g, 2, none⟩ z).heap[g]? = some (.cells #[x, y, z] t (0, 0)) ∧
      ∀ k, k ≠ g → (((W.setCell ⟨g, 0, none⟩ x).setCell ⟨g, 1, none⟩ y).setCell ⟨g, 2, none⟩ z).heap[k]? = W.heap[k]? :=
  ⟨blk_put (blk_put (blk_put h 0 x (cs' := #[x, b, c]) rfl) 1 y (cs' := #[x, y, c]) rfl) 2 z rfl, fun k hk => (Below.heap_setCell _ ⟨g, 2, none⟩ _ _ hk).trans ((Below.heap_setCell _ ⟨g, 1, none⟩ _ _ hk).trans (Below.heap_setCell _ ⟨g, 0, none⟩ _ _ hk))⟩
structure TabR (W : World) (base : Nat) (v0 v1 v2 : Value) (t : List Int × List (List Int) × List Int) : Prop where
  vars : Kd.R (Kd.int .i64) 3 W base (fun k => some k ≠ v2.ownBlock) v0 t.1
  rows : Kd.S kRb 22 W base (fun k => some k ≠ v0.ownBlock ∧ some k ≠ v2.ownBlock) v1 t.2.1
  weights : Kd.R (Kd.int .i64) 3 W base (fun k => some k ≠ v0.ownBlock) v2 t.2.2
def ProjPost (w : World) (t : List Int × List (List Int) × List Int) (e : Ending) (w' : World) : Prop := ∃ v0 v1 v2, e = .returned (.agg #[v0, v1, v2]) ∧ TabR w' w.heap.size v0 v1 v2 t ∧ Below w.heap.size w w'
set_option maxHeartbeats 1600000 in
set_option maxRecDepth 100000 in
theorem project_walk (A0 : Option Addr) (c0 : Nat) (tv : List Int) (A1 : Option Addr) (c1 : Nat) (rows : List (List Int)) (A2 : Option Addr) (c2 : Nat) (ws : List Int) (A3 : Option Addr) (c3 : Nat) (vars : List Int) (w : World)
    (h0 : Kd.C (Kd.int .i64) w A0 tv.length tv) (l0 : tv.length ≤ c0) (h1 : Kd.C kRb w A1 rows.length rows) (l1 : rows.length ≤ c1) (h2 : Kd.C (Kd.int .i64) w A2 ws.length ws) (l2 : ws.length ≤ c2) (h3 : Kd.C (Kd.int .i64) w A3 vars.length vars) (l3 : vars.length ≤ c3)
    (hv : vars.all (fun v => decide (v ∈ tv)) = true) (hrl : ∀ x, x ∈ rows → tv.length = x.length) (b0 : tv.length ≤ 1048576) (b1 : rows.length ≤ 1048576) (b3 : vars.length ≤ 1048576) :
    Calls Try.prog 28 #[.agg #[.slice A0 tv.length c0, .slice A1 rows.length c1, .slice A2 ws.length c2], .slice A3 vars.length c3] w (ProjPost w (vars, sdR (rows.map (fun r => (colsI tv vars).map (rd r))), List.replicate (sdR (rows.map (fun r => (colsI tv vars).map (rd r)))).length 1)) := by
  obtain ⟨kc, hkc⟩ := Ev.rounds (columns_ev tv rows ws vars b0 b3)
  have HC := Aside0.mk (fun W (hb : Below w.heap.size w W) => impl_Table_columns.calls kc A0 c0 tv A1 c1 rows A2 c2 ws A3 c3 vars (colsI tv vars) W (Kd.C_below h0 hb) l0 (Kd.C_below h1 hb) l1 (Kd.C_below h2 hb) l2 (Kd.C_below h3 hb) l3 hkc)
  have HB := Aside0.mk (Below.refl w.heap.size w)
  have HR := Aside0.mk h1
  have HV := Aside0.mk h3
  have HCB := Aside0.mk (cols_bound hv)
  have HRL := Aside0.mk hrl
  have hcl : (colsI tv vars).length ≤ 1048576 := by unfold colsI; rw [List.length_map]; exact b3
  clear h0 h1 h2 h3 hkc hv hrl
  generalize colsI tv vars = cols at *
  go_enter Try.func28, Try.ntmps28
  go_wp2_with (first | (go_at_call 27; (with_reducible refine (HC.out _ (below_alloc (below_alloc HB.out _) _)).mono ?_); rintro e w1 ⟨v1, rfl, ho1, hb1⟩; have HK1 := Aside0.mk (two1 hb1); have hx1 : w1.cell? ⟨w.heap.size, 1, none⟩ = some (.slice A1 rows.length c1) := (blk_cell (two0 hb1) 1).trans rfl; have HO1 := Aside0.mk (Kd.R_lower ho1 (below_alloc (below_alloc HB.out _) _).size); have HB1 : Aside0 (Below w.heap.size w w1) := ⟨below_step (below_alloc (below_alloc HB.out _) _) hb1⟩; clear ho1 hb1))
  obtain ⟨C1, d1, rfl, lC1, hC1⟩ := Kd.R_reads HO1.out
  have HC1 := Aside0.mk hC1
  have HR1 := Aside0.mk (Kd.C_below HR.out HB1.out)
  clear hC1 hx1
  go_loopg [15, 5] rows.length (fun G s15 s5 wr => ∃ i : Nat, s15 = .int .i64 (i : Int) ∧ i ≤ rows.length ∧ rows.length - i ≤ G ∧ Aside0 (Below w1.heap.size w1 wr) ∧ Aside0 (Kd.S kRb 22 wr w1.heap.size (fun _ => True) s5 ((rows.take i).map (fun r => cols.map (rd r)))))
  case atStart => exact ⟨0, rfl, Nat.zero_le _, by omega, ⟨Below.refl _ _⟩, ⟨by simpa using Kd.S_nil _ _ _ _ _⟩⟩
  case round =>
    obtain ⟨i, rfl, hi, hg, HBr, HS⟩ := hrel
    obtain ⟨v, hve⟩ : ∃ v, v = u5 := ⟨_, rfl⟩
    subst hve
    by_cases hlt : i < rows.length
    · obtain ⟨ad, A5, c5, e, hx5, hl5, hC5⟩ := row_at HR1.out i hlt
      cases e
      have hlr := HRL.out _ (List.getElem_mem hlt)
      have HE : Aside0 ((rows.take (i + 1)).map (fun r => cols.map (rd r)) = (rows.take i).map (fun r => cols.map (rd r)) ++ [cols.map (rd rows[i])]) := ⟨by
        rw [List.take_succ_eq_append_getElem hlt, List.map_append]; rfl⟩
      have HL5 : Aside0 (((rows.take i).map (fun r => cols.map (rd r))).length ≤ 1048576) := ⟨by simp; omega⟩
      have HP : Aside0 (Calls Try.prog 39 #[.slice A5 (rows[i]).length c5, .slice C1 cols.length d1] wr fun e w' => ∃ v, e = .returned v ∧ Kd.R (Kd.int .i64) 3 w' wr.heap.size (fun _ => True) v (cols.map (rd rows[i])) ∧ Below wr.heap.size wr w') :=
        ⟨pick_walk A5 c5 rows[i] C1 d1 cols wr (Kd.C_below hC5 HBr.out) (Kd.C_below HC1.out HBr.out) (fun c hc => by rw [← hlr]; exact HCB.out c hc) hcl⟩
      replace hx5 : wr.cell? (ad.add i) = some (.slice A5 (rows[i]).length c5) := (HBr.out.cell (World.block_lt_of_cell? w1 _ hx5)).trans hx5
      have HZ := Aside0.mk HBr.out.size
      clear hC5 hl5 hlr
      generalize (rows.take i).map (fun r => cols.map (rd r)) = out at *
      generalize rows[i] = row at *
      generalize cols.map (rd row) = nr at *
      go_wp2_with (first | (go_at_call 39; (with_reducible refine HP.out.mono ?_); clear HP; rintro e w2 ⟨u, rfl, hu, hb2⟩; obtain ⟨Au, cu, rfl⟩ := Kd.R_slice hu; have HU := Aside0.mk (Kd.R_lower (Kd.R_mono (Kd.R_bound hu) (ok' := fun k => wr.heap.size ≤ k) (fun k hk => hk.2.1)) HZ.out); have HB2 := Aside0.mk hb2; have HS2 := Aside0.mk (Kd.S_below (Kd.S_mono (Kd.S_bound HS.out) (ok' := fun k => True ∧ ¬ wr.heap.size ≤ k) (fun k hk => ⟨trivial, by have := hk.2.2.1; omega⟩)) hb2); have HX2 := Aside0.mk (Kd.S_lt HS.out); clear hu hb2) | (at_builtin; refine Kd.S_append kRb (w0 := w1) w1.heap.size rfl (.tmp 19) (.tmp 23) 23 22 (.slice none 0 0) 24 rfl Try.underlying23 info22 rfl (by decide) (by omega) v out nr [.slice Au nr.length cu] (fun _ => True) (fun k => wr.heap.size ≤ k) rfl rfl ⟨_, rfl, HU.out⟩ (fun k hk => ⟨trivial, fun e => by have := HX2.out k e.symm; omega⟩) (fun _ _ => trivial) HS2.out (HBr.out.trans (below_le_ HB2.out HZ.out)) (by have := HB2.out.size; have := HZ.out; omega) (by have := HL5.out; omega) ?_; intro v3 w3 hs3 hb3 hg3 hat3; have HS3 := Aside0.mk hs3; have HB3 := Aside0.mk hb3; clear hs3 hb3 hg3 hat3))
      go_roundg (rows.length - (i + 1))
      case measure => omega
      case rel => exact ⟨i + 1, by go_num, by omega, Nat.le_refl _, HB3, ⟨by rw [HE.out]; exact HS3.out⟩⟩
    · have hie : i = rows.length := by omega
      have HS1 : Aside0 (Kd.S kRb 22 wr w1.heap.size (fun _ => True) v (rows.map (fun r => cols.map (rd r)))) := ⟨by have := HS.out; rwa [hie, List.take_length] at this⟩
      have HX : Aside0 ((rows.map (fun r => cols.map (rd r))).length ≤ 1048576 ∧ ∀ x, x ∈ rows.map (fun r => cols.map (rd r)) → x.length ≤ 1048576) := ⟨by rw [List.length_map]; exact b1, fun x hx => by
        obtain ⟨r, _, rfl⟩ := List.mem_map.1 hx
        rw [List.length_map]; exact hcl⟩
      have HZ := Aside0.mk HBr.out.size
      have HZ1 := Aside0.mk HB1.out.size
      have HK2 : Aside0 (wr.heap[w.heap.size + 1]? = some (.cells #[.slice none 0 0, .slice none 0 0, .slice none 0 0] 27 (0, 0))) := ⟨blk_below HK1.out HBr.out⟩
      generalize hall : rows.map (fun r => cols.map (rd r)) = all at *
      have HALL := Aside0.mk hall
      clear hall
      have HLT1 : Aside0 (w.heap.size + 1 < w1.heap.size) := ⟨blk_lt HK1.out⟩
      clear HS HK1 hi hg
      have HD := Aside0.mk (distinct_walk w1.heap.size (fun _ => True) v all wr HS1.out HX.out.1 HX.out.2)
      have HOn : Aside0 (∀ W, Calls Try.prog 48 #[.int .i64 ((sdR all).length : Int)] W fun e w' => ∃ v, e = .returned v ∧ Kd.R (Kd.int .i64) 3 w' W.heap.size (fun _ => True) v (List.replicate (sdR all).length 1) ∧ Below W.heap.size W w') := ⟨fun W => ones_walk _ W (by have := sdR_len all; have := HX.out.1; omega)⟩
      have hne : (1 : Nat) < 2 := by decide
      go_wp2_with (first | (go_at_call 47; (with_reducible refine HD.out.mono ?_); clear HD; rintro e w2 ⟨v2, rfl, hs2, hg2, ho2⟩; obtain ⟨A6, c6, rfl⟩ := Kd.S_slice hs2; have HS2 := Aside0.mk hs2; have HG2 := Aside0.mk hg2; have HO2 := Aside0.mk ho2; clear hs2 hg2 ho2) | (go_at_call 37; have hb2 : Below w1.heap.size w1 w2 := pw_below_grown HBr.out _ HZ.out HG2.out (fun k hk => (Kd.S_base HS1.out k hk)); have HB2 : Aside0 (Below w.heap.size w w2) := ⟨below_step HB1.out hb2⟩; have HK3 : Aside0 (w2.heap[w.heap.size + 1]? = some (.cells #[.slice none 0 0, .slice none 0 0, .slice none 0 0] 27 (0, 0))) := ⟨blk_grown HK2.out HG2.out (Kd.S_ne HS1.out HK2.out (by decide))⟩; (with_reducible refine (cloneI_walk A3 c3 vars w2 (Kd.C_below HV.out HB2.out) b3).mono ?_); rintro e w3 ⟨v3, rfl, ho3, hb3⟩; obtain ⟨A7, c7, rfl⟩ := Kd.R_slice ho3; have HO3 := Aside0.mk ho3; have HB3 := Aside0.mk hb3; clear hb2 ho3 hb3) | (go_at_call 48; (with_reducible refine (HOn.out _).mono ?_); rintro e w4 ⟨v4, rfl, ho4, hb4⟩; obtain ⟨A8, c8, rfl⟩ := Kd.R_slice ho4; have HK4 : Aside0 (w4.heap[w.heap.size + 1]? = some (.cells #[.slice none 0 0, .slice none 0 0, .slice none 0 0] 27 (0, 0))) := ⟨blk_below (blk_below HK3.out HB3.out) hb4⟩; have hx1 : w4.cell? ⟨w.heap.size + 1, 0, none⟩ = some (.slice none 0 0) := (blk_cell HK4.out 0).trans rfl; have hx2 : w4.cell? ⟨w.heap.size + 1, 1, none⟩ = some (.slice none 0 0) := (blk_cell HK4.out 1).trans rfl; have hx3 : w4.cell? ⟨w.heap.size + 1, 2, none⟩ = some (.slice none 0 0) := (blk_cell HK4.out 2).trans rfl; have hy : ∀ j, w4.frozen? ⟨w.heap.size + 1, j, none⟩ = false := fun j => blk_frozen HK4.out j; have HO4 := Aside0.mk ho4; have HB4 := Aside0.mk hb4; clear ho4 hb4))
      obtain ⟨hb5, hk5⟩ := set3 HK4.out (.slice A7 vars.length c7) (.slice A6 (sdR all).length c6) (.slice A8 (sdR all).length c8)
      refine bodyPost_ret (results_cell_row rfl _ _ (w.heap.size + 1) 27 #[.slice A7 vars.length c7, .slice A6 (sdR all).length c6, .slice A8 (sdR all).length c8] (0, 0) _ rfl hb5 Try.underlying27 rfl (by kernel_rfl)) rfl ?_
      rw [HALL.out]
      have z0 := HZ1.out
      have z1 := HZ.out
      have z2 := HG2.out.size
      have z3 := HB3.out.size
      have z4 := HB4.out.size
      have hlt1 := HLT1.out
      have f0 := Kd.R_base HO3.out
      have ho4 := HO4.out
      rw [List.length_replicate] at ho4
      have f2 := Kd.R_base ho4
      refine ⟨_, _, _, rfl, ⟨?_, ?_, ?_⟩, ?_⟩
      · refine Kd.R_mono (Kd.R_step (Kd.R_mono (Kd.R_bound HO3.out) (ok' := fun k => w2.heap.size ≤ k ∧ k < w3.heap.size) (fun k hk => ⟨hk.2.1, hk.2.2.1⟩) |> fun h => Kd.R_below (Kd.R_lower h (show w.heap.size ≤ _ by omega)) HB4.out) (fun k hk _ => hk5 k (by omega))) (fun k hk e => ?_)
        have := f2 k e.symm
        omega
      · refine Kd.S_mono (Kd.S_step (Kd.S_mono (Kd.S_bound HS2.out) (ok' := fun k => w1.heap.size ≤ k ∧ k < w2.heap.size) (fun k hk => ⟨hk.2.1, hk.2.2.1⟩) |> fun h => Kd.S_below (Kd.S_below (Kd.S_lower h (show w.heap.size ≤ _ by omega)) HB3.out) HB4.out) (fun k hk _ => hk5 k (by omega))) (fun k hk => ⟨fun e => ?_, fun e => ?_⟩)
        · have := f0 k e.symm
          omega
        · have := f2 k e.symm
          omega
      · refine Kd.R_mono (Kd.R_step (Kd.R_mono (Kd.R_bound ho4) (ok' := fun k => w3.heap.size ≤ k) (fun k hk => hk.2.1) |> fun h => Kd.R_lower h (show w.heap.size ≤ _ by omega)) (fun k hk _ => hk5 k (by omega))) (fun k hk e => ?_)
        have := f0 k e.symm
        have := Kd.R_lt HO3.out k e.symm
        omega
      · exact below_set (below_set (below_set (below_step (below_step HB2.out HB3.out) HB4.out) (by omega)) (by omega)) (by omega)
end Go.Proofs.Ytkohcdddgjaijaa.PT
namespace Go.Proofs.Ytkohcdddgjaijaa.P
open Go.RowKit Go.Proofs.YtkohcdddgjaijaaW.PrintWords Go.Proofs.YtkohcdddgjaijaaW.PrintLast Go.Proofs.YtkohcdddgjaijaaW.PrintMore
attribute [local go_sem] max2_int min2_int max_two min_two max_three min_three max_four min_four
set_option linter.unusedVariables false
set_option linter.unusedSimpArgs false
def spec_l1Has.l0 : Nat → Int → List Int → Int → Int → Option (Bool)
 | 0, _, _, _, _ => none
 | k + 1, x1, x7, x8, x9 => if x9 < x8 then (if 0 ≤ x9 then (if x9 < (x7.length : Int) then (if x1 = (rd x7 x9) then (some true) else (spec_l1Has.l0 k x1 x7 x8 (wrap64 (x9 + 1)))) else (none)) else (none)) else (some false)
def spec_l1Has.f (k : Nat) (l0 : List Int) (a1 : Int) : Option (Bool) := spec_l1Has.l0 k a1 l0 (l0.length : Int) 0
theorem spec_l1Has.mono_l : ∀ k, (∀ y0 y1 y2 y3, LeO (spec_l1Has.l0 k y0 y1 y2 y3) (spec_l1Has.l0 (k + 1) y0 y1 y2 y3))
 | 0 => fun _ _ _ _ r h => by simp [spec_l1Has.l0] at h
 | k + 1 => by
  have ih0 := spec_l1Has.mono_l k
  ·intro y0 y1 y2 y3
   unfold spec_l1Has.l0
   repeat' first
   | (with_reducible exact ih0 _ _ _ _)
   | (with_reducible exact LeO.refl _)
   | (with_reducible exact LeO.none _)
   | (with_reducible refine LeO.ite ?_ ?_)
   | (with_reducible refine LeO.bind ?_ (fun _ => ?_))
   | exact ih0 _ _ _ _
   | exact LeO.none _
   | refine LeO.ite ?_ ?_
   | refine LeO.bind ?_ (fun _ => ?_)
theorem spec_l1Has.mono : ∀ a0 a1 k, LeO (spec_l1Has.f k a0 a1) (spec_l1Has.f (k + 1) a0 a1) := by
 intro a0 a1 k
 have ih0 := spec_l1Has.mono_l k
 unfold spec_l1Has.f
 repeat' first
   | (with_reducible exact ih0 _ _ _ _)
   | (with_reducible exact LeO.refl _)
   | (with_reducible exact LeO.none _)
   | (with_reducible refine LeO.ite ?_ ?_)
   | (with_reducible refine LeO.bind ?_ (fun _ => ?_))
   | exact ih0 _ _ _ _
   | exact LeO.none _
   | refine LeO.ite ?_ ?_
   | refine LeO.bind ?_ (fun _ => ?_)
set_option maxHeartbeats 8000000 in
set_option maxRecDepth 100000 in
theorem spec_l1Has.calls (k : Nat) (A0 : Option Addr) (c0 : Nat) (l0 : List Int) (a1 : Int) (r : Bool) (w : World) (hr0 : Kd.C (Kd.int .i64) w A0 l0.length l0) (hc0 : l0.length ≤ c0) (h : spec_l1Has.f k l0 a1 = some r) :
  Calls Try.prog 43 #[.slice A0 l0.length c0, .int .i64 a1] w fun e w' => e = .returned (.bool r) ∧ Drawn0 w w' := by
 have HR0 := Aside0.mk hr0
 have HC0 := Aside0.mk hc0
 clear hr0 hc0
 have H : (spec_l1Has.l0 k a1 l0 (l0.length : Int) 0) = some r := h
 clear h
 have H' := Aside0.mk H
 clear H
 go_enter Try.func43, Try.ntmps43
 go_wp2
 go_loopg [9] k (fun kq v9 w' => ∃ (x9_1 : Int), v9 = .int .i64 x9_1 ∧ Aside0 (spec_l1Has.l0 kq a1 l0 (l0.length : Int) x9_1 = some r) ∧ Aside0 (kq ≤ k) ∧ Drawn0 w w')
 case atStart => exact ⟨(0), (by first | rfl | (simp; done) | (simp [*]; done)), H', ⟨Nat.le_refl _⟩, by repeat (first | exact Drawn0.refl _ | apply Drawn0.step)⟩
 case round =>
  clear H'
  try clear p2
  obtain ⟨x9_1, rfl, HA, HK1, ⟨m1, rfl⟩⟩ := hrel
  cases gk with
  | zero => exact absurd HA.out (by simp [spec_l1Has.l0])
  | succ k1 =>
   have H := HA.out
   clear HA
   simp only [spec_l1Has.l0] at H
   by_cases c3 : x9_1 < (l0.length : Int)
   ·rw [if_pos c3] at H
    have c3b0 : decide (x9_1 < (l0.length : Int)) = true := decide_eq_true c3
    clear c3
    by_cases c4 : 0 ≤ x9_1
    ·rw [if_pos c4] at H
     have c4b0 : decide (0 ≤ x9_1) = true := decide_eq_true c4
     clear c4
     by_cases c5 : x9_1 < (l0.length : Int)
     ·rw [if_pos c5] at H
      have c5b0 : decide (x9_1 < (l0.length : Int)) = true := decide_eq_true c5
      clear c5
      by_cases c6 : a1 = (rd l0 x9_1)
      ·rw [if_pos c6] at H
       have c6b0 : (a1 == (rd l0 x9_1)) = true := beq_iff_eq.mpr c6
       have c6b1 : (a1 != (rd l0 x9_1)) = false := bne_eq_false_iff_eq.mpr c6
       clear c6
       obtain rfl := Option.some.inj H
       have p120 : 0 ≤ (x9_1 : Int) := of_decide_eq_true (by first | (with_reducible assumption) | assumption)
       have q120 : x9_1 < (l0.length : Int) := of_decide_eq_true (by first | (with_reducible assumption) | assumption)
       obtain ⟨ad120, e120, hx120_0⟩ := Kd.at_int HR0.out x9_1 p120 q120
       cases e120
       replace p120 := eq_true p120
       replace q120 := eq_true q120
       go_wp2
       go_ret
       exact ⟨by first | rfl | (simp; done) | (simp [*]; done), by repeat (first | exact Drawn0.refl _ | apply Drawn0.step)⟩
      ·rw [if_neg c6] at H
       have c6b0 : (a1 == (rd l0 x9_1)) = false := beq_eq_false_iff_ne.mpr c6
       have c6b1 : (a1 != (rd l0 x9_1)) = true := bne_iff_ne.mpr c6
       have H' := Aside0.mk H
       clear H
       have p120 : 0 ≤ (x9_1 : Int) := of_decide_eq_true (by first | (with_reducible assumption) | assumption)
       have q120 : x9_1 < (l0.length : Int) := of_decide_eq_true (by first | (with_reducible assumption) | assumption)
       obtain ⟨ad120, e120, hx120_0⟩ := Kd.at_int HR0.out x9_1 p120 q120
       cases e120
       replace p120 := eq_true p120
       replace q120 := eq_true q120
       go_wp2
       go_roundg k1
       case measure => have := HK1.out; omega
       case rel => exact ⟨(wrap64 (x9_1 + 1)), (by first | rfl | (simp; done) | (simp [*]; done)), H', ⟨by have := HK1.out; omega⟩, by repeat (first | exact Drawn0.refl _ | apply Drawn0.step)⟩
     ·rw [if_neg c5] at H
      exact absurd H (by simp)
    ·rw [if_neg c4] at H
     exact absurd H (by simp)
   ·rw [if_neg c3] at H
    have c3b0 : decide (x9_1 < (l0.length : Int)) = false := decide_eq_false c3
    clear c3
    obtain rfl := Option.some.inj H
    go_wp2
    go_ret
    exact ⟨by first | rfl | (simp; done) | (simp [*]; done), by repeat (first | exact Drawn0.refl _ | apply Drawn0.step)⟩
end Go.Proofs.Ytkohcdddgjaijaa.P
namespace Go.Proofs.Ytkohcdddgjaijaa.P
open Go.RowKit Go.Proofs.YtkohcdddgjaijaaW.PrintWords Go.Proofs.YtkohcdddgjaijaaW.PrintLast Go.Proofs.YtkohcdddgjaijaaW.PrintMore
attribute [local go_sem] max2_int min2_int max_two min_two max_three min_three max_four min_four
set_option linter.unusedVariables false
set_option linter.unusedSimpArgs false
def spec_l2Subset.l0 : Nat → List Int → List Int → Int → Int → Option (Bool)
 | 0, _, _, _, _ => none
 | k + 1, x1, x7, x8, x9 => if x9 < x8 then (if 0 ≤ x9 then (if x9 < (x7.length : Int) then ((spec_l1Has.f k x1 (rd x7 x9)).bind fun t122 => (if t122 = true then (spec_l2Subset.l0 k x1 x7 x8 (wrap64 (x9 + 1))) else (some false))) else (none)) else (none)) else (some true)
def spec_l2Subset.f (k : Nat) (l0 : List Int) (l1 : List Int) : Option (Bool) := spec_l2Subset.l0 k l1 l0 (l0.length : Int) 0
theorem spec_l2Subset.mono_l : ∀ k, (∀ y0 y1 y2 y3, LeO (spec_l2Subset.l0 k y0 y1 y2 y3) (spec_l2Subset.l0 (k + 1) y0 y1 y2 y3))
 | 0 => fun _ _ _ _ r h => by simp [spec_l2Subset.l0] at h
 | k + 1 => by
  have ih0 := spec_l2Subset.mono_l k
  ·intro y0 y1 y2 y3
   unfold spec_l2Subset.l0
   repeat' first
   | (with_reducible exact ih0 _ _ _ _)
   | (with_reducible exact spec_l1Has.mono _ _ _)
   | (with_reducible exact LeO.refl _)
   | (with_reducible exact LeO.none _)
   | (with_reducible refine LeO.ite ?_ ?_)
   | (with_reducible refine LeO.bind ?_ (fun _ => ?_))
   | exact ih0 _ _ _ _
   | exact spec_l1Has.mono _ _ _
   | exact LeO.none _
   | refine LeO.ite ?_ ?_
   | refine LeO.bind ?_ (fun _ => ?_)
theorem spec_l2Subset.mono : ∀ a0 a1 k, LeO (spec_l2Subset.f k a0 a1) (spec_l2Subset.f (k + 1) a0 a1) := by
 intro a0 a1 k
 have ih0 := spec_l2Subset.mono_l k
 unfold spec_l2Subset.f
 repeat' first
   | (with_reducible exact ih0 _ _ _ _)
   | (with_reducible exact spec_l1Has.mono _ _ _)
   | (with_reducible exact LeO.refl _)
   | (with_reducible exact LeO.none _)
   | (with_reducible refine LeO.ite ?_ ?_)
   | (with_reducible refine LeO.bind ?_ (fun _ => ?_))
   | exact ih0 _ _ _ _
   | exact spec_l1Has.mono _ _ _
   | exact LeO.none _
   | refine LeO.ite ?_ ?_
   | refine LeO.bind ?_ (fun _ => ?_)
set_option maxHeartbeats 8000000 in
set_option maxRecDepth 100000 in
theorem spec_l2Subset.calls (k : Nat) (A0 : Option Addr) (c0 : Nat) (l0 : List Int) (A1 : Option Addr) (c1 : Nat) (l1 : List Int) (r : Bool) (w : World) (hr0 : Kd.C (Kd.int .i64) w A0 l0.length l0) (hc0 : l0.length ≤ c0) (hr1 : Kd.C (Kd.int .i64) w A1 l1.length l1) (hc1 : l1.length ≤ c1) (h : spec_l2Subset.f k l0 l1 = some r) :
  Calls Try.prog 21 #[.slice A0 l0.length c0, .slice A1 l1.length c1] w fun e w' => e = .returned (.bool r) ∧ Drawn0 w w' := by
 have HR0 := Aside0.mk hr0
 have HC0 := Aside0.mk hc0
 clear hr0 hc0
 have HR1 := Aside0.mk hr1
 have HC1 := Aside0.mk hc1
 clear hr1 hc1
 have H : (spec_l2Subset.l0 k l1 l0 (l0.length : Int) 0) = some r := h
 clear h
 have H' := Aside0.mk H
 clear H
 go_enter Try.func21, Try.ntmps21
 go_wp2
 go_loopg [9] k (fun kq v9 w' => ∃ (x9_1 : Int), v9 = .int .i64 x9_1 ∧ Aside0 (spec_l2Subset.l0 kq l1 l0 (l0.length : Int) x9_1 = some r) ∧ Aside0 (kq ≤ k) ∧ Drawn0 w w')
 case atStart => exact ⟨(0), (by first | rfl | (simp; done) | (simp [*]; done)), H', ⟨Nat.le_refl _⟩, by repeat (first | exact Drawn0.refl _ | apply Drawn0.step)⟩
 case round =>
  clear H'
  try clear c1
  try clear c2
  try clear p2
  obtain ⟨x9_1, rfl, HA, HK1, ⟨m1, rfl⟩⟩ := hrel
  cases gk with
  | zero => exact absurd HA.out (by simp [spec_l2Subset.l0])
  | succ k1 =>
   have H := HA.out
   clear HA
   simp only [spec_l2Subset.l0] at H
   by_cases c3 : x9_1 < (l0.length : Int)
   ·rw [if_pos c3] at H
    have c3b0 : decide (x9_1 < (l0.length : Int)) = true := decide_eq_true c3
    clear c3
    by_cases c4 : 0 ≤ x9_1
    ·rw [if_pos c4] at H
     have c4b0 : decide (0 ≤ x9_1) = true := decide_eq_true c4
     clear c4
     by_cases c5 : x9_1 < (l0.length : Int)
     ·rw [if_pos c5] at H
      have c5b0 : decide (x9_1 < (l0.length : Int)) = true := decide_eq_true c5
      clear c5
      replace H := Option.bind_eq_some_iff.mp H
      obtain ⟨t122, A60, H⟩ := H
      replace H : (if t122 = true then (spec_l2Subset.l0 k1 l1 l0 (l0.length : Int) (wrap64 (x9_1 + 1))) else (some false)) = some r := H
      have A6 := Aside0.mk A60
      clear A60
      by_cases c7 : t122 = true
      ·subst c7
       have H1 : (spec_l2Subset.l0 k1 l1 l0 (l0.length : Int) (wrap64 (x9_1 + 1))) = some r := by rw [if_pos rfl] at H; exact H
       clear H
       have H := H1
       clear H1
       have H' := Aside0.mk H
       clear H
       have p121 : 0 ≤ (x9_1 : Int) := of_decide_eq_true (by first | (with_reducible assumption) | assumption)
       have q121 : x9_1 < (l0.length : Int) := of_decide_eq_true (by first | (with_reducible assumption) | assumption)
       obtain ⟨ad121, e121, hx121_0⟩ := Kd.at_int HR0.out x9_1 p121 q121
       cases e121
       replace p121 := eq_true p121
       replace q121 := eq_true q121
       go_wp2_with (first | ((with_reducible refine gate_callee (f := 43) rfl ?_); refine goesL_ (some 15) rfl rfl Try.func43 (by kernel_rfl) rfl #[.slice A1 l1.length c1, .int .i64 (rd l0 x9_1)] rfl (by (try simp only [List.map_toArray, List.map_cons, List.map_nil]); first | done | rfl | (simp only [List.length_drop, List.length_take]; rfl)) ?_; (with_reducible refine (spec_l1Has.calls k1 _ _ l1 (rd l0 x9_1) true _ ?side1 ?side2 A6.out).mono ?_); (case side1 => repeat (first | exact HR1.out | (with_reducible refine Kd.C_alloc ?_ _) | (with_reducible refine Kd.C_drewN ?_ _) | (with_reducible refine Kd.C_drew ?_))); (case side2 => exact HC1.out); rintro e w' ⟨rfl, ⟨nd, rfl⟩⟩; refine ⟨_, rfl, ?_⟩))
       go_roundg k1
       case measure => have := HK1.out; omega
       case rel => exact ⟨(wrap64 (x9_1 + 1)), (by first | rfl | (simp; done) | (simp [*]; done)), H', ⟨by have := HK1.out; omega⟩, by repeat (first | exact Drawn0.refl _ | apply Drawn0.step)⟩
      ·replace c7 := Bool.eq_false_iff.mpr c7
       subst c7
       have H1 : (some false) = some r := by rw [if_neg (show ¬ (false = true) by decide)] at H; exact H
       clear H
       have H := H1
       clear H1
       obtain rfl := Option.some.inj H
       have p121 : 0 ≤ (x9_1 : Int) := of_decide_eq_true (by first | (with_reducible assumption) | assumption)
       have q121 : x9_1 < (l0.length : Int) := of_decide_eq_true (by first | (with_reducible assumption) | assumption)
       obtain ⟨ad121, e121, hx121_0⟩ := Kd.at_int HR0.out x9_1 p121 q121
       cases e121
       replace p121 := eq_true p121
       replace q121 := eq_true q121
       go_wp2_with (first | ((with_reducible refine gate_callee (f := 43) rfl ?_); refine goesL_ (some 15) rfl rfl Try.func43 (by kernel_rfl) rfl #[.slice A1 l1.length c1, .int .i64 (rd l0 x9_1)] rfl (by (try simp only [List.map_toArray, List.map_cons, List.map_nil]); first | done | rfl | (simp only [List.length_drop, List.length_take]; rfl)) ?_; (with_reducible refine (spec_l1Has.calls k1 _ _ l1 (rd l0 x9_1) false _ ?side1 ?side2 A6.out).mono ?_); (case side1 => repeat (first | exact HR1.out | (with_reducible refine Kd.C_alloc ?_ _) | (with_reducible refine Kd.C_drewN ?_ _) | (with_reducible refine Kd.C_drew ?_))); (case side2 => exact HC1.out); rintro e w' ⟨rfl, ⟨nd, rfl⟩⟩; refine ⟨_, rfl, ?_⟩))
       go_ret
       exact ⟨by first | rfl | (simp; done) | (simp [*]; done), by repeat (first | exact Drawn0.refl _ | apply Drawn0.step)⟩
     ·rw [if_neg c5] at H
      exact absurd H (by simp)
    ·rw [if_neg c4] at H
     exact absurd H (by simp)
   ·rw [if_neg c3] at H
    have c3b0 : decide (x9_1 < (l0.length : Int)) = false := decide_eq_false c3
    clear c3
    obtain rfl := Option.some.inj H
    go_wp2
    go_ret
    exact ⟨by first | rfl | (simp; done) | (simp [*]; done), by repeat (first | exact Drawn0.refl _ | apply Drawn0.step)⟩
end Go.Proofs.Ytkohcdddgjaijaa.P
namespace Go.Proofs.Ytkohcdddgjaijaa.P
open Go.RowKit Go.Proofs.YtkohcdddgjaijaaW.PrintWords Go.Proofs.YtkohcdddgjaijaaW.PrintLast Go.Proofs.YtkohcdddgjaijaaW.PrintMore
attribute [local go_sem] max2_int min2_int max_two min_two max_three min_three max_four min_four
set_option linter.unusedVariables false
set_option linter.unusedSimpArgs false
def spec_l2Value.l0 : Nat → List Int → Int → List Int → Int → Int → Option (Int)
 | 0, _, _, _, _, _ => none
 | k + 1, x1, x2, x10, x11, x12 => if x12 < x11 then (if 0 ≤ x12 then (if x12 < (x10.length : Int) then (if (rd x10 x12) = x2 then (if x12 < (x1.length : Int) then (some (rd x1 x12)) else (none)) else (spec_l2Value.l0 k x1 x2 x10 x11 (wrap64 (x12 + 1)))) else (none)) else (none)) else (some 0)
def spec_l2Value.f (k : Nat) (l0_0 : List Int) (l0_1 : List (List Int)) (l0_2 : List Int) (l1 : List Int) (a2 : Int) : Option (Int) := spec_l2Value.l0 k l1 a2 l0_0 (l0_0.length : Int) 0
theorem spec_l2Value.mono_l : ∀ k, (∀ y0 y1 y2 y3 y4, LeO (spec_l2Value.l0 k y0 y1 y2 y3 y4) (spec_l2Value.l0 (k + 1) y0 y1 y2 y3 y4))
 | 0 => fun _ _ _ _ _ r h => by simp [spec_l2Value.l0] at h
 | k + 1 => by
  have ih0 := spec_l2Value.mono_l k
  ·intro y0 y1 y2 y3 y4
   unfold spec_l2Value.l0
   repeat' first
   | (with_reducible exact ih0 _ _ _ _ _)
   | (with_reducible exact LeO.refl _)
   | (with_reducible exact LeO.none _)
   | (with_reducible refine LeO.ite ?_ ?_)
   | (with_reducible refine LeO.bind ?_ (fun _ => ?_))
   | exact ih0 _ _ _ _ _
   | exact LeO.none _
   | refine LeO.ite ?_ ?_
   | refine LeO.bind ?_ (fun _ => ?_)
theorem spec_l2Value.mono : ∀ a0 a1 a2 a3 a4 k, LeO (spec_l2Value.f k a0 a1 a2 a3 a4) (spec_l2Value.f (k + 1) a0 a1 a2 a3 a4) := by
 intro a0 a1 a2 a3 a4 k
 have ih0 := spec_l2Value.mono_l k
 unfold spec_l2Value.f
 repeat' first
   | (with_reducible exact ih0 _ _ _ _ _)
   | (with_reducible exact LeO.refl _)
   | (with_reducible exact LeO.none _)
   | (with_reducible refine LeO.ite ?_ ?_)
   | (with_reducible refine LeO.bind ?_ (fun _ => ?_))
   | exact ih0 _ _ _ _ _
   | exact LeO.none _
   | refine LeO.ite ?_ ?_
   | refine LeO.bind ?_ (fun _ => ?_)
set_option maxHeartbeats 8000000 in
set_option maxRecDepth 100000 in
theorem spec_l2Value.calls (k : Nat) (A0_0 : Option Addr) (c0_0 : Nat) (l0_0 : List Int) (A0_1 : Option Addr) (c0_1 : Nat) (l0_1 : List (List Int)) (A0_2 : Option Addr) (c0_2 : Nat) (l0_2 : List Int) (A1 : Option Addr) (c1 : Nat) (l1 : List Int) (a2 : Int) (r : Int) (w : World) (hr0_0 : Kd.C (Kd.int .i64) w A0_0 l0_0.length l0_0) (hc0_0 : l0_0.length ≤ c0_0) (hr0_1 : Kd.C (Kd.slice 3 (Kd.int .i64)) w A0_1 l0_1.length l0_1) (hc0_1 : l0_1.length ≤ c0_1) (hr0_2 : Kd.C (Kd.int .i64) w A0_2 l0_2.length l0_2) (hc0_2 : l0_2.length ≤ c0_2) (hr1 : Kd.C (Kd.int .i64) w A1 l1.length l1) (hc1 : l1.length ≤ c1) (h : spec_l2Value.f k l0_0 l0_1 l0_2 l1 a2 = some r) :
  Calls Try.prog 51 #[.agg #[.slice A0_0 l0_0.length c0_0, .slice A0_1 l0_1.length c0_1, .slice A0_2 l0_2.length c0_2], .slice A1 l1.length c1, .int .i64 a2] w fun e w' => e = .returned (.int .i64 r) ∧ Below w.heap.size w w' := by
 have hu27 := Try.underlying27
 have HR0_0 := Aside0.mk hr0_0
 have HC0_0 := Aside0.mk hc0_0
 clear hr0_0 hc0_0
 have HR0_1 := Aside0.mk hr0_1
 have HC0_1 := Aside0.mk hc0_1
 clear hr0_1 hc0_1
 have HR0_2 := Aside0.mk hr0_2
 have HC0_2 := Aside0.mk hc0_2
 clear hr0_2 hc0_2
 have HR1 := Aside0.mk hr1
 have HC1 := Aside0.mk hc1
 clear hr1 hc1
 have HB := Aside0.mk (Below.refl w.heap.size w)
 have H : (spec_l2Value.l0 k l1 a2 l0_0 (l0_0.length : Int) 0) = some r := h
 clear h
 have H' := Aside0.mk H
 clear H
 go_enter Try.func51, Try.ntmps51
 go_wp2_with (first | ((with_reducible refine gate_dst (N := 3) rfl ?_); refine box_event ?hg (N := 3) ?hd (cs := #[.slice A0_0 l0_0.length c0_0, .slice A0_1 l0_1.length c0_1, .slice A0_2 l0_2.length c0_2]) (t := 27) ?hr ?_; (case hd => rfl); (case hg => rfl); (case hr => first | (go_simp; done) | (go_simp; rfl)); intro gb123 hg w4 hbox hb; have n0_ := Aside0.mk (below_step (by repeat (first | (with_reducible first | exact HB.out | apply below_alloc | apply pw_below_drewN | apply below_drew1) | exact HB.out)) hb); have n1_ := Aside0.mk (hbox); have n2_ := Aside0.mk ((by rw [hg]; exact (below_size (by repeat (first | (with_reducible first | exact HB.out | apply below_alloc | apply pw_below_drewN | apply below_drew1) | exact HB.out))) : w.heap.size ≤ gb123)); have n3_ := Aside0.mk ((by rw [hg]; exact (below_size (by repeat (first | (with_reducible first | exact HB.out | apply below_alloc | apply pw_below_drewN | apply below_drew1) | exact HB.out))) : w.heap.size ≤ gb123)); clear HB; have HB := n0_; have BK123 := n1_; have GW123 := n2_; have GE123 := n3_; clear n0_ n1_ n2_ n3_; clear hb hbox hg; have hcz5_0 : w4.cell? ⟨gb123, 0, none⟩ = some (.slice A0_0 l0_0.length c0_0) := (blk_cell BK123.out 0).trans rfl; have hcz5_1 : w4.cell? ⟨gb123, 1, none⟩ = some (.slice A0_1 l0_1.length c0_1) := (blk_cell BK123.out 1).trans rfl; have hcz5_2 : w4.cell? ⟨gb123, 2, none⟩ = some (.slice A0_2 l0_2.length c0_2) := (blk_cell BK123.out 2).trans rfl; have hfz5_0 := blk_frozen BK123.out 0; have hfz5_1 := blk_frozen BK123.out 1; have hfz5_2 := blk_frozen BK123.out 2))
 go_loopg [12] k (fun kq v12 w' => ∃ (x12_1 : Int), v12 = .int .i64 x12_1 ∧ Aside0 (spec_l2Value.l0 kq l1 a2 l0_0 (l0_0.length : Int) x12_1 = some r) ∧ Aside0 (kq ≤ k) ∧ Aside0 (w'.heap[gb123]? = some (.cells #[(.slice A0_0 l0_0.length c0_0), (.slice A0_1 l0_1.length c0_1), (.slice A0_2 l0_2.length c0_2)] 27 (0, 0))) ∧ Aside0 (Below w.heap.size w w'))
 case atStart => exact ⟨(0), (by first | rfl | (simp; done) | (simp [*]; done)), H', ⟨Nat.le_refl _⟩, ⟨by (with_reducible repeat (first | refine blk_drewN ?_ _ | refine blk_drew ?_ | refine blk_alloc ?_ _)); exact BK123.out⟩, ⟨by repeat (first | (with_reducible first | exact HB.out | apply below_alloc | apply pw_below_drewN | apply below_drew1 | refine below_set ?_ GE123.out) | exact HB.out)⟩⟩
 case round =>
  clear H'
  try clear c1
  try clear p2
  try clear c5
  try clear hcz5_0
  try clear hcz5_1
  try clear hcz5_2
  try clear hfz5_0
  try clear hfz5_1
  try clear hfz5_2
  obtain ⟨x12_1, rfl, HA, HK1, BK123, HB⟩ := hrel
  cases gk with
  | zero => exact absurd HA.out (by simp [spec_l2Value.l0])
  | succ k1 =>
   have H := HA.out
   clear HA
   simp only [spec_l2Value.l0] at H
   by_cases c6 : x12_1 < (l0_0.length : Int)
   ·rw [if_pos c6] at H
    have c6b0 : decide (x12_1 < (l0_0.length : Int)) = true := decide_eq_true c6
    clear c6
    by_cases c7 : 0 ≤ x12_1
    ·rw [if_pos c7] at H
     have c7b0 : decide (0 ≤ x12_1) = true := decide_eq_true c7
     clear c7
     by_cases c8 : x12_1 < (l0_0.length : Int)
     ·rw [if_pos c8] at H
      have c8b0 : decide (x12_1 < (l0_0.length : Int)) = true := decide_eq_true c8
      clear c8
      by_cases c9 : (rd l0_0 x12_1) = a2
      ·rw [if_pos c9] at H
       have c9b0 : ((rd l0_0 x12_1) == a2) = true := beq_iff_eq.mpr c9
       have c9b1 : ((rd l0_0 x12_1) != a2) = false := bne_eq_false_iff_eq.mpr c9
       clear c9
       by_cases c10 : x12_1 < (l1.length : Int)
       ·rw [if_pos c10] at H
        have c10b0 : decide (x12_1 < (l1.length : Int)) = true := decide_eq_true c10
        clear c10
        obtain rfl := Option.some.inj H
        have p124 : 0 ≤ (x12_1 : Int) := of_decide_eq_true (by first | (with_reducible assumption) | assumption)
        have q124 : x12_1 < (l0_0.length : Int) := of_decide_eq_true (by first | (with_reducible assumption) | assumption)
        obtain ⟨ad124, e124, hx124_0⟩ := Kd.at_int HR0_0.out x12_1 p124 q124
        cases e124
        replace hx124_0 := (HB.out.cell (World.block_lt_of_cell? w _ hx124_0)).trans hx124_0
        replace p124 := eq_true p124
        replace q124 := eq_true q124
        have p125 : 0 ≤ (x12_1 : Int) := of_decide_eq_true (by first | (with_reducible assumption) | assumption)
        have q125 : x12_1 < (l1.length : Int) := of_decide_eq_true (by first | (with_reducible assumption) | assumption)
        obtain ⟨ad125, e125, hx125_0⟩ := Kd.at_int HR1.out x12_1 p125 q125
        cases e125
        replace hx125_0 := (HB.out.cell (World.block_lt_of_cell? w _ hx125_0)).trans hx125_0
        replace p125 := eq_true p125
        replace q125 := eq_true q125
        go_wp2
        go_ret
        exact ⟨by first | rfl | (simp [errW_none, errW_some] <;> rfl) | (simp [*, errW_none, errW_some] <;> rfl), by repeat (first | (with_reducible first | exact HB.out | apply below_alloc | apply pw_below_drewN | apply below_drew1 | refine below_set ?_ GE123.out) | exact HB.out)⟩
       ·rw [if_neg c10] at H
        exact absurd H (by simp)
      ·rw [if_neg c9] at H
       have c9b0 : ((rd l0_0 x12_1) == a2) = false := beq_eq_false_iff_ne.mpr c9
       have c9b1 : ((rd l0_0 x12_1) != a2) = true := bne_iff_ne.mpr c9
       have H' := Aside0.mk H
       clear H
       have p124 : 0 ≤ (x12_1 : Int) := of_decide_eq_true (by first | (with_reducible assumption) | assumption)
       have q124 : x12_1 < (l0_0.length : Int) := of_decide_eq_true (by first | (with_reducible assumption) | assumption)
       obtain ⟨ad124, e124, hx124_0⟩ := Kd.at_int HR0_0.out x12_1 p124 q124
       cases e124
       replace hx124_0 := (HB.out.cell (World.block_lt_of_cell? w _ hx124_0)).trans hx124_0
       replace p124 := eq_true p124
       replace q124 := eq_true q124
       go_wp2
       go_roundg k1
       case measure => have := HK1.out; omega
       case rel => exact ⟨(wrap64 (x12_1 + 1)), (by first | rfl | (simp; done) | (simp [*]; done)), H', ⟨by have := HK1.out; omega⟩, ⟨by (with_reducible repeat (first | refine blk_drewN ?_ _ | refine blk_drew ?_ | refine blk_alloc ?_ _)); exact BK123.out⟩, ⟨by repeat (first | (with_reducible first | exact HB.out | apply below_alloc | apply pw_below_drewN | apply below_drew1 | refine below_set ?_ GE123.out) | exact HB.out)⟩⟩
     ·rw [if_neg c8] at H
      exact absurd H (by simp)
    ·rw [if_neg c7] at H
     exact absurd H (by simp)
   ·rw [if_neg c6] at H
    have c6b0 : decide (x12_1 < (l0_0.length : Int)) = false := decide_eq_false c6
    clear c6
    obtain rfl := Option.some.inj H
    go_wp2
    go_ret
    exact ⟨by first | rfl | (simp [errW_none, errW_some] <;> rfl) | (simp [*, errW_none, errW_some] <;> rfl), by repeat (first | (with_reducible first | exact HB.out | apply below_alloc | apply pw_below_drewN | apply below_drew1 | refine below_set ?_ GE123.out) | exact HB.out)⟩
end Go.Proofs.Ytkohcdddgjaijaa.P
namespace Go.Proofs.Ytkohcdddgjaijaa.P
open Go.RowKit Go.Proofs.YtkohcdddgjaijaaW.PrintWords Go.Proofs.YtkohcdddgjaijaaW.PrintLast Go.Proofs.YtkohcdddgjaijaaW.PrintMore
attribute [local go_sem] max2_int min2_int max_two min_two max_three min_three max_four min_four
set_option linter.unusedVariables false
set_option linter.unusedSimpArgs false
def spec_l2Values.l0 : Nat → List Int → List Int → List Int → Int → Int → List Int → List (List Int) → List Int → Option (List Int)
 | 0, _, _, _, _, _, _, _, _ => none
 | k + 1, x1, x7, x11, x12, x13, x127000, x127001, x127002 => if x13 < x12 then (if 0 ≤ x13 then (if x13 < (x11.length : Int) then ((spec_l2Value.f k x127000 x127001 x127002 x1 (rd x11 x13)).bind fun t131 => (if x7.length < 17592186044416 then (spec_l2Values.l0 k x1 (x7 ++ [t131]) x11 x12 (wrap64 (x13 + 1)) x127000 x127001 x127002) else (none))) else (none)) else (none)) else (some x7)
def spec_l2Values.f (k : Nat) (l0_0 : List Int) (l0_1 : List (List Int)) (l0_2 : List Int) (l1 : List Int) (l2 : List Int) : Option (List Int) := spec_l2Values.l0 k l1 (([] : List Int)) l2 (l2.length : Int) 0 l0_0 l0_1 l0_2
theorem spec_l2Values.mono_l : ∀ k, (∀ y0 y1 y2 y3 y4 y5 y6 y7, LeO (spec_l2Values.l0 k y0 y1 y2 y3 y4 y5 y6 y7) (spec_l2Values.l0 (k + 1) y0 y1 y2 y3 y4 y5 y6 y7))
 | 0 => fun _ _ _ _ _ _ _ _ r h => by simp [spec_l2Values.l0] at h
 | k + 1 => by
  have ih0 := spec_l2Values.mono_l k
  ·intro y0 y1 y2 y3 y4 y5 y6 y7
   unfold spec_l2Values.l0
   repeat' first
   | (with_reducible exact ih0 _ _ _ _ _ _ _ _)
   | (with_reducible exact spec_l2Value.mono _ _ _ _ _ _)
   | (with_reducible exact LeO.refl _)
   | (with_reducible exact LeO.none _)
   | (with_reducible refine LeO.ite ?_ ?_)
   | (with_reducible refine LeO.bind ?_ (fun _ => ?_))
   | exact ih0 _ _ _ _ _ _ _ _
   | exact spec_l2Value.mono _ _ _ _ _ _
   | exact LeO.none _
   | refine LeO.ite ?_ ?_
   | refine LeO.bind ?_ (fun _ => ?_)
theorem spec_l2Values.mono : ∀ a0 a1 a2 a3 a4 k, LeO (spec_l2Values.f k a0 a1 a2 a3 a4) (spec_l2Values.f (k + 1) a0 a1 a2 a3 a4) := by
 intro a0 a1 a2 a3 a4 k
 have ih0 := spec_l2Values.mono_l k
 unfold spec_l2Values.f
 repeat' first
   | (with_reducible exact ih0 _ _ _ _ _ _ _ _)
   | (with_reducible exact spec_l2Value.mono _ _ _ _ _ _)
   | (with_reducible exact LeO.refl _)
   | (with_reducible exact LeO.none _)
   | (with_reducible refine LeO.ite ?_ ?_)
   | (with_reducible refine LeO.bind ?_ (fun _ => ?_))
   | exact ih0 _ _ _ _ _ _ _ _
   | exact spec_l2Value.mono _ _ _ _ _ _
   | exact LeO.none _
   | refine LeO.ite ?_ ?_
   | refine LeO.bind ?_ (fun _ => ?_)
set_option maxHeartbeats 8000000 in
set_option maxRecDepth 100000 in
theorem spec_l2Values.calls (k : Nat) (A0_0 : Option Addr) (c0_0 : Nat) (l0_0 : List Int) (A0_1 : Option Addr) (c0_1 : Nat) (l0_1 : List (List Int)) (A0_2 : Option Addr) (c0_2 : Nat) (l0_2 : List Int) (A1 : Option Addr) (c1 : Nat) (l1 : List Int) (A2 : Option Addr) (c2 : Nat) (l2 : List Int) (r : List Int) (w : World) (hr0_0 : Kd.C (Kd.int .i64) w A0_0 l0_0.length l0_0) (hc0_0 : l0_0.length ≤ c0_0) (hr0_1 : Kd.C (Kd.slice 3 (Kd.int .i64)) w A0_1 l0_1.length l0_1) (hc0_1 : l0_1.length ≤ c0_1) (hr0_2 : Kd.C (Kd.int .i64) w A0_2 l0_2.length l0_2) (hc0_2 : l0_2.length ≤ c0_2) (hr1 : Kd.C (Kd.int .i64) w A1 l1.length l1) (hc1 : l1.length ≤ c1) (hr2 : Kd.C (Kd.int .i64) w A2 l2.length l2) (hc2 : l2.length ≤ c2) (h : spec_l2Values.f k l0_0 l0_1 l0_2 l1 l2 = some r) :
  Calls Try.prog 35 #[.agg #[.slice A0_0 l0_0.length c0_0, .slice A0_1 l0_1.length c0_1, .slice A0_2 l0_2.length c0_2], .slice A1 l1.length c1, .slice A2 l2.length c2] w fun e w' => ∃ v0_ : Value, e = .returned (v0_) ∧ Kd.R (Kd.int .i64) 3 w' w.heap.size (fun _ => True) v0_ r ∧ Below w.heap.size w w' := by
 have hu27 := Try.underlying27
 have HR0_0 := Aside0.mk hr0_0
 have HC0_0 := Aside0.mk hc0_0
 clear hr0_0 hc0_0
 have HR0_1 := Aside0.mk hr0_1
 have HC0_1 := Aside0.mk hc0_1
 clear hr0_1 hc0_1
 have HR0_2 := Aside0.mk hr0_2
 have HC0_2 := Aside0.mk hc0_2
 clear hr0_2 hc0_2
 have HR1 := Aside0.mk hr1
 have HC1 := Aside0.mk hc1
 clear hr1 hc1
 have HR2 := Aside0.mk hr2
 have HC2 := Aside0.mk hc2
 clear hr2 hc2
 have HB := Aside0.mk (Below.refl w.heap.size w)
 have H : (spec_l2Values.l0 k l1 (([] : List Int)) l2 (l2.length : Int) 0 l0_0 l0_1 l0_2) = some r := h
 clear h
 obtain ⟨y127, hy127⟩ : ∃ y_ : List Int, y_ = (([] : List Int)) := ⟨_, rfl⟩
 replace H : (spec_l2Values.l0 k l1 y127 l2 (l2.length : Int) 0 l0_0 l0_1 l0_2) = some r := by first | (rw [hy127]; with_reducible exact H) | (have H2_ := (Option.bind_some _ _).symm.trans H; rw [hy127]; with_reducible exact H2_) | (have H2_ := (Option.bind_some _ _).symm.trans H; with_reducible exact H2_) | with_reducible exact H | (rw [hy127]; exact H) | exact H
 have Ny127 := Aside0.mk hy127
 clear hy127
 have H' := Aside0.mk H
 clear H
 go_enter Try.func35, Try.ntmps35
 go_wp2_with (first | ((with_reducible refine gate_dst (N := 3) rfl ?_); refine box_event ?hg (N := 3) ?hd (cs := #[.slice A0_0 l0_0.length c0_0, .slice A0_1 l0_1.length c0_1, .slice A0_2 l0_2.length c0_2]) (t := 27) ?hr ?_; (case hd => rfl); (case hg => rfl); (case hr => first | (go_simp; done) | (go_simp; rfl)); intro gb126 hg w4 hbox hb; have n0_ := Aside0.mk (below_step (by repeat (first | (with_reducible first | exact HB.out | apply below_alloc | apply pw_below_drewN | apply below_drew1) | exact HB.out)) hb); have n1_ := Aside0.mk (hbox); have n2_ := Aside0.mk ((by rw [hg]; exact (below_size (by repeat (first | (with_reducible first | exact HB.out | apply below_alloc | apply pw_below_drewN | apply below_drew1) | exact HB.out))) : w.heap.size ≤ gb126)); have n3_ := Aside0.mk ((by rw [hg]; exact (below_size (by repeat (first | (with_reducible first | exact HB.out | apply below_alloc | apply pw_below_drewN | apply below_drew1) | exact HB.out))) : w.heap.size ≤ gb126)); clear HB; have HB := n0_; have BK126 := n1_; have GW126 := n2_; have GE126 := n3_; clear n0_ n1_ n2_ n3_; clear hb hbox hg) | ((with_reducible refine gate_dst (N := 10) rfl ?_); refine Kd.R_lit (Kd.int .i64) _ 3 ?hg (N := 10) ?hd (xs := ([] : List Int)) (inner := []) (ok := fun _ => True) (okp := fun _ => True) ?hr ?hp (fun _ hk => hk) trivial (Below.refl _ _) (Nat.le_refl _) (by simp) ?_; (case hd => rfl); (case hg => rfl); (case hr => first | (go_simp; done) | (go_simp; rfl)); (case hp => exact (Reps.none _ _)); intro v128 w5 ho6 hb hg_ hnew_; clear hg_ hnew_; (first | rw [← Ny127.out] at ho6 | (simp only [Int.reduceToNat] at ho6; rw [← Ny127.out] at ho6)); have n0_ := Aside0.mk (Kd.R_lower ho6 (below_size (by repeat (first | (with_reducible first | exact HB.out | apply below_alloc | apply pw_below_drewN | apply below_drew1 | refine below_set ?_ GE126.out) | exact HB.out)))); have n1_ := Aside0.mk (blk_below (g := gb126) (o := .cells #[.slice A0_0 l0_0.length c0_0, .slice A0_1 l0_1.length c0_1, .slice A0_2 l0_2.length c0_2] 27 (0, 0)) (by (with_reducible repeat (first | refine blk_drewN ?_ _ | refine blk_drew ?_ | refine blk_alloc ?_ _)); exact BK126.out) hb); have n2_ := Aside0.mk (below_step (by repeat (first | (with_reducible first | exact HB.out | apply below_alloc | apply pw_below_drewN | apply below_drew1 | refine below_set ?_ GE126.out) | exact HB.out)) hb); clear BK126; clear HB; have HO129 := n0_; have BK126 := n1_; have HB := n2_; clear n0_ n1_ n2_; clear hb ho6))
 go_loopg [7, 13] k (fun kq v7 v13 w' => ∃ (x7_1 : List Int) (x13_1 : Int), v13 = .int .i64 x13_1 ∧ Aside0 (spec_l2Values.l0 kq l1 x7_1 l2 (l2.length : Int) x13_1 l0_0 l0_1 l0_2 = some r) ∧ Aside0 (kq ≤ k) ∧ Aside0 (Kd.R (Kd.int .i64) 3 w' w.heap.size (fun _ => True) v7 x7_1) ∧ Aside0 (w'.heap[gb126]? = some (.cells #[(.slice A0_0 l0_0.length c0_0), (.slice A0_1 l0_1.length c0_1), (.slice A0_2 l0_2.length c0_2)] 27 (0, 0))) ∧ Aside0 (Below w.heap.size w w'))
 case atStart => exact ⟨(y127), (0), (by first | rfl | (simp; done) | (simp [*]; done)), H', ⟨Nat.le_refl _⟩, ⟨by (with_reducible repeat (first | apply Kd.R_alloc | apply Kd.R_drewN | apply Kd.R_drew)); exact HO129.out⟩, ⟨by (with_reducible repeat (first | refine blk_drewN ?_ _ | refine blk_drew ?_ | refine blk_alloc ?_ _)); exact BK126.out⟩, ⟨by repeat (first | (with_reducible first | exact HB.out | apply below_alloc | apply pw_below_drewN | apply below_drew1 | refine below_set ?_ GE126.out) | exact HB.out)⟩⟩
 case round =>
  clear H'
  try clear c1
  try clear c2
  try clear p2
  try clear c3
  obtain ⟨x7_1, x13_1, rfl, HA, HK1, HO_7, BK126, HB⟩ := hrel
  cases gk with
  | zero => exact absurd HA.out (by simp [spec_l2Values.l0])
  | succ k1 =>
   have H := HA.out
   clear HA
   simp only [spec_l2Values.l0] at H
   by_cases c7 : x13_1 < (l2.length : Int)
   ·rw [if_pos c7] at H
    have c7b0 : decide (x13_1 < (l2.length : Int)) = true := decide_eq_true c7
    clear c7
    by_cases c8 : 0 ≤ x13_1
    ·rw [if_pos c8] at H
     have c8b0 : decide (0 ≤ x13_1) = true := decide_eq_true c8
     clear c8
     by_cases c9 : x13_1 < (l2.length : Int)
     ·rw [if_pos c9] at H
      have c9b0 : decide (x13_1 < (l2.length : Int)) = true := decide_eq_true c9
      clear c9
      replace H := Option.bind_eq_some_iff.mp H
      obtain ⟨t131, A100, H⟩ := H
      replace H : (if x7_1.length < 17592186044416 then (spec_l2Values.l0 k1 l1 (x7_1 ++ [t131]) l2 (l2.length : Int) (wrap64 (x13_1 + 1)) l0_0 l0_1 l0_2) else (none)) = some r := H
      have A10 := Aside0.mk A100
      clear A100
      by_cases c11 : x7_1.length < 17592186044416
      ·rw [if_pos c11] at H
       have LMc11 := Aside0.mk c11
       clear c11
       obtain ⟨y132, hy132⟩ : ∃ y_ : List Int, y_ = (x7_1 ++ [t131]) := ⟨_, rfl⟩
       replace H : (spec_l2Values.l0 k1 l1 y132 l2 (l2.length : Int) (wrap64 (x13_1 + 1)) l0_0 l0_1 l0_2) = some r := by first | (rw [hy132]; with_reducible exact H) | (have H2_ := (Option.bind_some _ _).symm.trans H; rw [hy132]; with_reducible exact H2_) | (have H2_ := (Option.bind_some _ _).symm.trans H; with_reducible exact H2_) | with_reducible exact H | (rw [hy132]; exact H) | exact H
       have Ny132 := Aside0.mk hy132
       clear hy132
       have H' := Aside0.mk H
       clear H
       have p130 : 0 ≤ (x13_1 : Int) := of_decide_eq_true (by first | (with_reducible assumption) | assumption)
       have q130 : x13_1 < (l2.length : Int) := of_decide_eq_true (by first | (with_reducible assumption) | assumption)
       obtain ⟨ad130, e130, hx130_0⟩ := Kd.at_int HR2.out x13_1 p130 q130
       cases e130
       replace hx130_0 := (HB.out.cell (World.block_lt_of_cell? w _ hx130_0)).trans hx130_0
       replace p130 := eq_true p130
       replace q130 := eq_true q130
       have hcz12_0 : wr.cell? ⟨gb126, 0, none⟩ = some (.slice A0_0 l0_0.length c0_0) := (blk_cell BK126.out 0).trans rfl
       have hcz12_1 : wr.cell? ⟨gb126, 1, none⟩ = some (.slice A0_1 l0_1.length c0_1) := (blk_cell BK126.out 1).trans rfl
       have hcz12_2 : wr.cell? ⟨gb126, 2, none⟩ = some (.slice A0_2 l0_2.length c0_2) := (blk_cell BK126.out 2).trans rfl
       have hfz12_0 := blk_frozen BK126.out 0
       have hfz12_1 := blk_frozen BK126.out 1
       have hfz12_2 := blk_frozen BK126.out 2
       go_wp2_with (first | ((with_reducible refine gate_callee (f := 51) rfl ?_); refine goesL_ (some 21) rfl rfl Try.func51 (by kernel_rfl) rfl #[.agg #[.slice A0_0 l0_0.length c0_0, .slice A0_1 l0_1.length c0_1, .slice A0_2 l0_2.length c0_2], .slice A1 l1.length c1, .int .i64 (rd l2 x13_1)] rfl (by (try simp only [List.map_toArray, List.map_cons, List.map_nil]); first | done | rfl | (simp only [List.length_drop, List.length_take]; rfl)) ?_; (with_reducible refine (spec_l2Value.calls k1 _ _ l0_0 _ _ l0_1 _ _ l0_2 _ _ l1 (rd l2 x13_1) t131 _ ?side1 ?side2 ?side3 ?side4 ?side5 ?side6 ?side7 ?side8 A10.out).mono ?_); (case side1 => repeat (first | exact (Kd.C_below HR0_0.out HB.out) | (with_reducible refine Kd.C_alloc ?_ _) | (with_reducible refine Kd.C_drewN ?_ _) | (with_reducible refine Kd.C_drew ?_))); (case side2 => exact HC0_0.out); (case side3 => repeat (first | exact (Kd.C_below HR0_1.out HB.out) | (with_reducible refine Kd.C_alloc ?_ _) | (with_reducible refine Kd.C_drewN ?_ _) | (with_reducible refine Kd.C_drew ?_))); (case side4 => exact HC0_1.out); (case side5 => repeat (first | exact (Kd.C_below HR0_2.out HB.out) | (with_reducible refine Kd.C_alloc ?_ _) | (with_reducible refine Kd.C_drewN ?_ _) | (with_reducible refine Kd.C_drew ?_))); (case side6 => exact HC0_2.out); (case side7 => repeat (first | exact (Kd.C_below HR1.out HB.out) | (with_reducible refine Kd.C_alloc ?_ _) | (with_reducible refine Kd.C_drewN ?_ _) | (with_reducible refine Kd.C_drew ?_))); (case side8 => exact HC1.out); rintro e w13 ⟨rfl, hb⟩; refine ⟨_, rfl, ?_⟩; have n0_ := Aside0.mk (Kd.R_below (by (with_reducible repeat (first | apply Kd.R_alloc | apply Kd.R_drewN | apply Kd.R_drew)); exact HO_7.out) hb); have n1_ := Aside0.mk (blk_below (g := gb126) (o := .cells #[.slice A0_0 l0_0.length c0_0, .slice A0_1 l0_1.length c0_1, .slice A0_2 l0_2.length c0_2] 27 (0, 0)) (by (with_reducible repeat (first | refine blk_drewN ?_ _ | refine blk_drew ?_ | refine blk_alloc ?_ _)); exact BK126.out) hb); have n2_ := Aside0.mk (below_step (by repeat (first | (with_reducible first | exact HB.out | apply below_alloc | apply pw_below_drewN | apply below_drew1 | refine below_set ?_ GE126.out) | exact HB.out)) hb); clear HO_7; clear BK126; clear HB; have HO_7 := n0_; have BK126 := n1_; have HB := n2_; clear n0_ n1_ n2_; (try clear hb); (try clear hb2); (try clear hk); (try clear hi)) | ((with_reducible refine gate_builtin (b := .append) (xs := #[.tmp 17, .tmp 22]) rfl ?_); at_builtin; refine Kd.R_append (Kd.int .i64) (w0 := w) w.heap.size rfl (.tmp 17) (.tmp 22) 22 3 (.int .i64 0) 8 rfl Try.underlying22 info3 rfl (by decide) (by omega) u7 x7_1 t131 [.int .i64 t131] (fun _ => True) (fun _ => False) rfl rfl ?aP (fun _ hk => hk.elim) ?aF ?aO ?aB ?aS ?aL ?_; (case aP => exact rfl); (case aB => exact (by repeat (first | (with_reducible first | exact HB.out | apply below_alloc | apply pw_below_drewN | apply below_drew1 | refine below_set ?_ GE126.out) | exact HB.out))); (case aF => exact (fun _ _ => trivial)); (case aO => exact (by (with_reducible repeat (first | apply Kd.R_alloc | apply Kd.R_drewN | apply Kd.R_drew)); exact HO_7.out)); (case aS => exact (below_size (by repeat (first | (with_reducible first | exact HB.out | apply below_alloc | apply pw_below_drewN | apply below_drew1 | refine below_set ?_ GE126.out) | exact HB.out)))); (case aL => have := LMc11.out; omega); intro v133 w14 ho hb hg hat; rw [← Ny132.out] at ho; have n0_ := Aside0.mk (blk_grown (g := gb126) (o := .cells #[.slice A0_0 l0_0.length c0_0, .slice A0_1 l0_1.length c0_1, .slice A0_2 l0_2.length c0_2] 27 (0, 0)) (by (with_reducible repeat (first | refine blk_drewN ?_ _ | refine blk_drew ?_ | refine blk_alloc ?_ _)); exact BK126.out) hg (Kd.R_ne HO_7.out BK126.out (by decide))); have n1_ := Aside0.mk (hb); have n2_ := Aside0.mk (ho); clear BK126; clear HB; clear HO_7; have BK126 := n0_; have HB := n1_; have HO134 := n2_; clear n0_ n1_ n2_; clear ho hb hg hat))
       go_roundg k1
       case measure => have := HK1.out; omega
       case rel => exact ⟨(y132), (wrap64 (x13_1 + 1)), (by first | rfl | (simp; done) | (simp [*]; done)), H', ⟨by have := HK1.out; omega⟩, ⟨by (with_reducible repeat (first | apply Kd.R_alloc | apply Kd.R_drewN | apply Kd.R_drew)); exact HO134.out⟩, ⟨by (with_reducible repeat (first | refine blk_drewN ?_ _ | refine blk_drew ?_ | refine blk_alloc ?_ _)); exact BK126.out⟩, ⟨by repeat (first | (with_reducible first | exact HB.out | apply below_alloc | apply pw_below_drewN | apply below_drew1 | refine below_set ?_ GE126.out) | exact HB.out)⟩⟩
      ·rw [if_neg c11] at H
       exact absurd H (by simp)
     ·rw [if_neg c9] at H
      exact absurd H (by simp)
    ·rw [if_neg c8] at H
     exact absurd H (by simp)
   ·rw [if_neg c7] at H
    have c7b0 : decide (x13_1 < (l2.length : Int)) = false := decide_eq_false c7
    clear c7
    obtain rfl := Option.some.inj H
    go_wp2
    go_ret
    exact ⟨_, by first | rfl | (simp [errW_none, errW_some] <;> rfl) | (simp [*, errW_none, errW_some] <;> rfl), by (with_reducible repeat (first | apply Kd.R_alloc | apply Kd.R_drewN | apply Kd.R_drew)); exact HO_7.out, by repeat (first | (with_reducible first | exact HB.out | apply below_alloc | apply pw_below_drewN | apply below_drew1 | refine below_set ?_ GE126.out) | exact HB.out)⟩
end Go.Proofs.Ytkohcdddgjaijaa.P
namespace Go.Proofs.Ytkohcdddgjaijaa.PT
open Go.RowKit Go.Proofs.Ytkohcdddgjaijaa.P Go.Proofs.YtkohcdddgjaijaaW.PrintWords Go.Proofs.YtkohcdddgjaijaaW.PrintLast Go.Proofs.YtkohcdddgjaijaaW.PrintMore Go.Proofs.Ytkohcdddgjaijaa.EvKit
set_option linter.unusedVariables false
set_option linter.unusedSimpArgs false
abbrev kRo : Kd (List Int) := Kd.slice 3 (Kd.int .i64)
theorem quiet_more1 {W w2 : World} {x : Nat} (h : ∃ k, w2 = (W.drewN x).drewN k) : ∃ m, w2 = W.drewN m := by
 obtain ⟨k, h⟩ := h
 exact ⟨_, h.trans (World.drewN_drewN _ _ _)⟩
theorem quiet_plus1 {W w2 : World} {a x : Nat} (h : ∃ k, w2 = (W.drewN (a + x)).drewN k) : ∃ n, w2 = W.drewN (a + n) := by
 obtain ⟨k, h⟩ := h
 exact ⟨x + k, by rw [h, World.drewN_drewN, Nat.add_assoc]⟩
theorem dr_n1 {W W' : World} {n : Nat} (h : ∃ m, W' = W.drewN m) : ∃ m, W'.drewN n = W.drewN m := by
 obtain ⟨m, rfl⟩ := h
 exact ⟨_, World.drewN_drewN _ _ _⟩
theorem dr_11 {W W' : World} (h : ∃ m, W' = W.drewN m) : ∃ m, W'.drew = W.drewN m := by
 obtain ⟨m, rfl⟩ := h
 exact ⟨m + 1, rfl⟩
theorem V_row {W : World} {base : Nat} {ok : Nat → Prop} {A : Option Addr} {c : Nat} {xs : List (List Int)} (h : Kd.V kRo 22 W base ok (.slice A xs.length c) xs) (i : Nat) (hi : i < xs.length) :
  ∃ ad A1 c1, A = some ad ∧ W.cell? (ad.add i) = some (.slice A1 (xs[i]).length c1) ∧ (xs[i]).length ≤ c1 ∧ Kd.F (Kd.int .i64) W ok A1 (xs[i]).length xs[i] := by
 obtain ⟨ad, cs, he, hcl, hK, hcc, _⟩ := Kd.F_get (Kd.V_F h) [] (i : Int) (by omega) (by omega)
 have e : xs.getD ((i : Int)).toNat [] = xs[i] := by rw [Int.toNat_natCast, List.getD_eq_getElem?_getD, List.getElem?_eq_getElem hi]; rfl
 rw [e] at hK
 obtain ⟨A1, c1, rfl, h1, h2⟩ := Kd.FK_slice_open hK
 have h3 := hcc 0 _ rfl
 rw [Int.toNat_natCast, Nat.add_zero, show (kRo).sz = 1 from rfl, Nat.mul_one] at h3
 exact ⟨ad, A1, c1, he, h3, h1, h2⟩
theorem V_base {W : World} {base base' : Nat} {ok : Nat → Prop} {v : Value} {xs : List (List Int)} (h : Kd.V kRo 22 W base ok v xs) : Kd.V kRo 22 W base' ok v xs := h
theorem N_fresh (W : World) {base : Nat} {ok : Nat → Prop} (hb : base ≤ W.heap.size) (hok : ok W.heap.size) : Kd.N kRo 22 (W.alloc (.cells #[] 22)) base ok (.slice (some ⟨W.heap.size, 0, none⟩) 0 0) [] := by
 refine Kd.R_N ⟨fun k hk => ?_, [], ⟨rfl, .inr ⟨W.heap.size, 0, #[], rfl, hb, ?_, Nat.le_refl _, ?_, ?_, ?_⟩⟩, Reps.none _ _⟩
 ·simp only [Value.ownBlock, Option.some.injEq] at hk; subst hk; exact hok
 ·have : (W.alloc (.cells #[] 22)).heap = W.heap.push (.cells #[] 22) := rfl
  rw [this]; simp
 ·unfold maxLen; omega
 ·simp
 ·simp
theorem V_fresh {W : World} {base : Nat} {ok : Nat → Prop} {v : Value} {xs : List (List Int)} (h : Kd.V kRo 22 W base ok v xs) (o : Obj) : Kd.V kRo 22 (W.alloc o) base (fun k => ok k ∧ some k ≠ (Value.slice (some ⟨W.heap.size, 0, none⟩) 0 0).ownBlock) v xs :=
 Kd.V_alloc (Kd.V_mono (Kd.V_bound h) (fun k hk => ⟨hk.1, by simp only [Value.ownBlock]; intro e; injection e with e; have := hk.2; omega⟩)) o
def SortPost (w : World) (P0 : Nat → Prop) (r : List (List Int)) (e : Ending) (w' : World) : Prop := ∃ v, e = .returned v ∧ Kd.V kRo 22 w' w.heap.size (fun k => P0 k ∨ w.heap.size ≤ k) v r ∧ Below w.heap.size w w'
theorem sdR_short {l : List (List Int)} (h : l.length < 2) : sdR l = l := by
 match l, h with
 | [], _ => rfl
 | [x], _ => rfl
theorem half_eq (n : Nat) (h : n ≤ 1048576) : IntKind.i64.wrap ((n : Int) / 2) = ((n / 2 : Nat) : Int) := by
 rw [i64_w, show (n : Int) / 2 = ((n / 2 : Nat) : Int) by omega]
 exact w64 (by omega) (by omega)
theorem cmp_at {W : World} {A1 A2 : Option Addr} {c1 c2 : Nat} {x y : List Int} (h1 : Kd.C (Kd.int .i64) W A1 x.length x) (hc1 : x.length ≤ c1) (h2 : Kd.C (Kd.int .i64) W A2 y.length y) (hc2 : y.length ≤ c2) (hl : x.length ≤ 1048576) :
  ∀ W', (∃ m, W' = W.drewN m) → Calls Try.prog 50 #[.slice A1 x.length c1, .slice A2 y.length c2] W' fun e w' => e = .returned (.int .i64 (cmpL x y)) ∧ ∃ k, w' = W'.drewN k := by
 rintro W' ⟨m, rfl⟩
 obtain ⟨k, hk⟩ := Ev.rounds (l2Compare_ev x y (by omega))
 exact (spec_l2Compare.calls k A1 c1 x A2 c2 y _ _ (Kd.C_drewN h1 _) hc1 (Kd.C_drewN h2 _) hc2 hk).mono (fun e w' h => ⟨h.1, by obtain ⟨k, hk⟩ := h.2.out; exact ⟨k, hk⟩⟩)
set_option maxHeartbeats 8000000 in
set_option maxRecDepth 100000 in
theorem sort_ref (n : Nat) : ∀ (P0 : Nat → Prop) (A : Option Addr) (c : Nat) (l : List (List Int)) (w : World), l.length ≤ n → l.length ≤ 1048576 → (∀ x, x ∈ l → x.length ≤ 1048576) → Kd.V kRo 22 w w.heap.size P0 (.slice A l.length c) l →
  Calls Try.prog 44 #[.slice A l.length c] w (SortPost w P0 (sdR l)) := by
 induction n with
 | zero =>
  intro P0 A c l w hn hl hx hv
  have e0 : decide ((l.length : Int) < 2) = true := decide_eq_true (by omega)
  have HV : Aside0 (Kd.V kRo 22 w w.heap.size P0 (.slice A l.length c) (sdR l)) := ⟨by rw [sdR_short (by omega)]; exact hv⟩
  have HB := Aside0.mk (Below.refl w.heap.size w)
  clear hx hv hn hl
  go_enter Try.func44, Try.ntmps44
  go_wp2
  go_ret
  exact ⟨_, rfl, Kd.V_mono HV.out (fun k hk => .inl hk), HB.out⟩
 | succ n ih =>
  intro P0 A c l w hn hl hx hv
  have HB := Aside0.mk (Below.refl w.heap.size w)
  by_cases h2 : l.length < 2
  ·have e0 : decide ((l.length : Int) < 2) = true := decide_eq_true (by omega)
   have HV : Aside0 (Kd.V kRo 22 w w.heap.size P0 (.slice A l.length c) (sdR l)) := ⟨by rw [sdR_short h2]; exact hv⟩
   clear hx hv hn hl h2
   go_enter Try.func44, Try.ntmps44
   go_wp2
   go_ret
   exact ⟨_, rfl, Kd.V_mono HV.out (fun k hk => .inl hk), HB.out⟩
  ·have e0 : decide ((l.length : Int) < 2) = false := decide_eq_false (by omega)
   have hhalf := half_eq l.length hl
   obtain ⟨m, hm⟩ : ∃ m, m = l.length / 2 := ⟨_, rfl⟩
   rw [← hm] at hhalf
   have hroom : l.length ≤ c := (Kd.V_reads' hv).2.1
   obtain ⟨i0, hi0, _, hsz, _⟩ := info_parts info22
   have hcut1 := cut_to (P := Try.prog) 23 22 .i64 Try.underlying23 hi0 A l.length c (m : Int) (by omega) (by omega) hroom
   have hcut2 := cut_from (P := Try.prog) 23 22 .i64 Try.underlying23 hi0 1 hsz A l.length c (m : Int) (by omega) (by omega)
   rw [Int.toNat_natCast] at hcut1 hcut2
   have hF : Kd.F kRo w P0 A l.length l := Kd.V_F hv
   obtain ⟨la, hla⟩ : ∃ la, la = l.take m := ⟨_, rfl⟩
   obtain ⟨lb, hlb⟩ : ∃ lb, lb = l.drop m := ⟨_, rfl⟩
   have hla1 : la.length = m := by rw [hla, List.length_take]; omega
   have hlb1 : lb.length = l.length - m := by rw [hlb, List.length_drop]
   have hFa := Kd.F_take (m := m) hF (by omega)
   have hFb := Kd.F_cut (m := m) (c := c) hF (by omega) hroom
   rw [← hla] at hFa
   rw [← hlb] at hFb
   obtain ⟨A2, hA2⟩ : ∃ A2 : Option Addr, A2 = (if c = m then A else A.map (·.add (m * 1))) := ⟨_, rfl⟩
   replace hFb : Kd.F kRo w P0 A2 lb.length lb := by rw [hA2]; exact hFb
   rw [← hA2, ← hlb1] at hcut2
   replace hcut1 : ∀ W : World, (Instr.slice 23 (.slice A l.length c) none (some (.int .i64 (m : Int))) none).run Try.prog W = .ok (.slice A la.length c) W := by rw [hla1]; exact hcut1
   have HVa : Aside0 (Kd.V kRo 22 w w.heap.size P0 (.slice A la.length c) la) := ⟨Kd.V_mk (by omega) hFa⟩
   have HVb : Aside0 (Kd.V kRo 22 w w.heap.size P0 (.slice A2 lb.length (c - m)) lb) := ⟨Kd.V_mk (by omega) hFb⟩
   obtain ⟨c2, hc2⟩ : ∃ c2, c2 = c - m := ⟨_, rfl⟩
   rw [← hc2] at hcut2 HVb
   have HIa := Aside0.mk (fun (P : Nat → Prop) W h => ih P A c la W (by omega) (by omega) (fun x hx1 => hx x (by rw [hla] at hx1; exact List.mem_of_mem_take hx1)) h)
   have HIb := Aside0.mk (fun (P : Nat → Prop) W h => ih P A2 c2 lb W (by omega) (by omega) (fun x hx1 => hx x (by rw [hlb] at hx1; exact List.mem_of_mem_drop hx1)) h)
   have HG : Aside0 (mrg (sdR la) (sdR lb) = sdR l) := ⟨by rw [mrg_sdR, hla, hlb, List.take_append_drop]⟩
   have HLa : Aside0 ((sdR la).length ≤ 1048576 ∧ ∀ x, x ∈ sdR la → x.length ≤ 1048576) := ⟨by have := sdR_len la; omega, fun x hx1 => hx x (by rw [mem_sdR, hla] at hx1; exact List.mem_of_mem_take hx1)⟩
   have HLb : Aside0 ((sdR lb).length ≤ 1048576 ∧ ∀ x, x ∈ sdR lb → x.length ≤ 1048576) := ⟨by have := sdR_len lb; omega, fun x hx1 => hx x (by rw [mem_sdR, hlb] at hx1; exact List.mem_of_mem_drop hx1)⟩
   clear ih hx hv hF hFa hFb hla hlb hA2 hc2 hi0 hsz
   generalize sdR la = a at *
   generalize sdR lb = b at *
   have tok1 : (1 : Nat) < 2 := by decide
   have tok2 : (1 : Nat) < 3 := by decide
   have hm1 : (0 : Int) ≤ (m : Int) := by omega
   have hm2 : (m : Int) ≤ (l.length : Int) := by omega
   clear hm h2 hn hl hroom hla1 hlb1
   go_enter Try.func44, Try.ntmps44
   go_wp2_with (first | (go_at_call 44; (with_reducible refine (HIa.out P0 _ (Kd.V_lower HVa.out (Nat.le_refl _))).mono ?_); clear tok1; rintro e w1 ⟨v1, rfl, hv1, hb1⟩; have HV1 := Aside0.mk hv1; have HB1 := Aside0.mk hb1; clear hv1 hb1) | (go_at_call 44; have htok := tok2; clear tok2; (with_reducible refine (HIb.out P0 _ (V_base (Kd.V_below HVb.out HB1.out))).mono ?_); rintro e w2 ⟨v2, rfl, hv2, hb2⟩; have HV2 := Aside0.mk hv2; have HB2 := Aside0.mk hb2; clear hv2 hb2))
   have HVA : Aside0 (Kd.V kRo 22 w2 w.heap.size (fun k => P0 k ∨ w.heap.size ≤ k) v1 a) := ⟨Kd.V_below HV1.out HB2.out⟩
   have HVB : Aside0 (Kd.V kRo 22 w2 w.heap.size (fun k => P0 k ∨ w.heap.size ≤ k) v2 b) := ⟨Kd.V_mono HV2.out (fun k hk => hk.elim .inl (fun h => .inr (Nat.le_trans HB1.out.size h)))⟩
   have HBw : Aside0 (Below w.heap.size w w2) := ⟨below_step HB1.out HB2.out⟩
   clear HV1 HV2 HB1 HB2 HVa HVb HIa HIb hcut1 hcut2 hhalf
   obtain ⟨Aa, ca, ea⟩ := Kd.V_slice HVA.out
   subst ea
   obtain ⟨Ab, cb, eb⟩ := Kd.V_slice HVB.out
   subst eb
   go_loopw [5, 6, 7] (fun v5 v6 v7 wr => ∃ (out : List (List Int)) (i j : Nat), v6 = .int .i64 (i : Int) ∧ v7 = .int .i64 (j : Int) ∧ i ≤ a.length ∧ j ≤ b.length ∧ Aside0 (out ++ mrg (a.drop i) (b.drop j) = sdR l ∧ out.length ≤ i + j) ∧ Aside0 (Kd.V kRo 22 wr w.heap.size (fun k => (P0 k ∨ w.heap.size ≤ k) ∧ some k ≠ (v5 : Value).ownBlock) (.slice Aa a.length ca) a) ∧ Aside0 (Kd.V kRo 22 wr w.heap.size (fun k => (P0 k ∨ w.heap.size ≤ k) ∧ some k ≠ (v5 : Value).ownBlock) (.slice Ab b.length cb) b) ∧ Aside0 (Kd.N kRo 22 wr w.heap.size (fun k => P0 k ∨ w.heap.size ≤ k) v5 out) ∧ Aside0 (Below w.heap.size w wr)) (fun _ v6 v7 _ => (a.length - (intOf v6).toNat) + (b.length - (intOf v7).toNat))
   case atStart => exact ⟨[], 0, 0, rfl, rfl, Nat.zero_le _, Nat.zero_le _, ⟨by simpa using HG.out, Nat.le_refl _⟩, ⟨V_fresh HVA.out _⟩, ⟨V_fresh HVB.out _⟩, ⟨N_fresh _ HBw.out.size (.inr HBw.out.size)⟩, ⟨below_alloc HBw.out _⟩⟩
   case round =>
    clear HVA HVB HBw HG e0 hm1 hm2
    obtain ⟨out, i, j, rfl, rfl, hi, hj, HI, HVA, HVB, HN, HBW⟩ := hrel
    have hla := HLa.out.1
    have hlb := HLb.out.1
    by_cases ci : i < a.length
    ·have d1 : decide ((i : Int) < (a.length : Int)) = true := decide_eq_true (by omega)
     obtain ⟨ad, A1, c1, e, hx, hc1, hF1⟩ := V_row HVA.out i ci
     subst e
     have HV1 : Aside0 (Kd.V (Kd.int .i64) 3 wr w.heap.size _ (.slice A1 (a[i]).length c1) a[i]) := ⟨Kd.V_mk hc1 hF1⟩
     have hl1 := HLa.out.2 _ (List.getElem_mem ci)
     by_cases cj : j < b.length
     ·have d2 : decide ((j : Int) < (b.length : Int)) = true := decide_eq_true (by omega)
      have d3 : ((j : Int) == (b.length : Int)) = false := by rw [beq_eq_false_iff_ne]; omega
      have d4 : ((i : Int) == (a.length : Int)) = false := by rw [beq_eq_false_iff_ne]; omega
      obtain ⟨bd, A2, c2, e, hy, hc2, hF2⟩ := V_row HVB.out j cj
      subst e
      have hl2 := HLb.out.2 _ (List.getElem_mem cj)
      have HV2 : Aside0 (Kd.V (Kd.int .i64) 3 wr w.heap.size _ (.slice A2 (b[j]).length c2) b[j]) := ⟨Kd.V_mk hc2 hF2⟩
      have HC := Aside0.mk (cmp_at (Kd.F_now hF1) hc1 (Kd.F_now hF2) hc2 hl1)
      clear hF1 hF2
      have hI := HI.out.1
      rw [drop_at ci, drop_at cj, mrg] at hI
      have hI2 := HI.out.2
      clear HI
      generalize hxe : a[i] = x at *
      generalize hye : b[j] = y at *
      by_cases h1 : cmpL x y < 0
      ·rw [if_pos h1] at hI
       have HI : Aside0 ((out ++ [x]) ++ mrg (a.drop (i + 1)) (b.drop j) = sdR l ∧ out.length ≤ i + j) := ⟨by rw [← hI, drop_at cj, hye]; simp, hI2⟩
       have d5 : decide (cmpL x y < 0) = true := decide_eq_true h1
       clear hI hI2 h1 hxe hye
       generalize cmpL x y = z at *
       go_wp2
       go_quiet (first | (go_at_call 50; (with_reducible refine (HC.out _ (by repeat (first | exact ⟨0, rfl⟩ | exact ⟨_, rfl⟩ | apply dr_n1 | apply dr_11))).mono ?_); intro e w1 hh; first | exact ⟨hh.1, quiet_plus1 hh.2⟩ | exact ⟨hh.1, quiet_more1 hh.2⟩))
       go_wp2_with (first | ((with_reducible refine gate_builtin (b := .append) (xs := #[.tmp 69, .tmp 74]) rfl ?_); (try (refine gate_guard (by rfl) ?_; dsimp only)); at_builtin; (refine Kd.N_append kRo (w0 := w) w.heap.size ?a1 (.tmp 69) (.tmp 74) 23 22 (.slice none 0 0) 24 ?a2 ?a3 ?a4 ?a5 ?a6 ?a7 u5 out x [.slice A1 (x).length c1] (fun k => P0 k ∨ w.heap.size ≤ k) (fun k => (P0 k ∨ w.heap.size ≤ k) ∧ some k ≠ (u5 : Value).ownBlock) ?a8 ?a9 ?aP ?aI ?aF ?aO ?aB ?aS ?aL ?_); (case a1 => rfl); (case a2 => rfl); (case a3 => exact Try.underlying23);  (case a4 => exact info22); (case a5 => rfl); (case a6 => decide); (case a7 => decide); (case a8 => rfl); (case a9 => rfl); (case aP => first | exact Kd.FK_slice_mk (Kd.V_reads' HV1.out).2.1 (Kd.V_F HV1.out) | exact Kd.FK_slice_mk (Kd.V_reads' HV1.out).2.1 (Kd.V_F (Kd.V_drewN HV1.out _)) | exact Kd.FK_slice_mk (Kd.V_reads' HV1.out).2.1 (Kd.V_F (Kd.V_drewN (Kd.V_drewN HV1.out _) _))); (case aI => exact fun _ hk => hk); (case aF => exact fun k hk => .inr (Nat.le_trans HBW.out.size hk)); (case aO => first | exact HN.out | exact Kd.N_drewN HN.out _ | exact Kd.N_drewN (Kd.N_drewN HN.out _) _); (case aB => first | exact HBW.out | exact pw_below_drewN HBW.out _ | exact pw_below_drewN (pw_below_drewN HBW.out _) _); (case aS => exact HBW.out.size); (case aL => have := HI.out.2; omega); intro v9 w9 ho9 hb9 hg9 hat9))
       go_roundw
       case rel => exact ⟨out ++ [x], i + 1, j, by first | rfl | (simp; done), by first | rfl | (simp; done), by omega, by omega, ⟨HI.out.1, by have := HI.out.2; simp only [List.length_append, List.length_cons, List.length_nil]; omega⟩, ⟨by first | exact Kd.V_afterv HVA.out hg9 hat9 | exact Kd.V_afterv (Kd.V_drewN HVA.out _) hg9 hat9 | exact Kd.V_afterv (Kd.V_drewN (Kd.V_drewN HVA.out _) _) hg9 hat9⟩, ⟨by first | exact Kd.V_afterv HVB.out hg9 hat9 | exact Kd.V_afterv (Kd.V_drewN HVB.out _) hg9 hat9 | exact Kd.V_afterv (Kd.V_drewN (Kd.V_drewN HVB.out _) _) hg9 hat9⟩, ⟨ho9⟩, ⟨hb9⟩⟩
       case measure => simp [intOf]; omega
      ·rw [if_neg h1] at hI
       have d5 : decide (cmpL x y < 0) = false := decide_eq_false h1
       by_cases h2 : 0 < cmpL x y
       ·rw [if_pos h2] at hI
        have HI : Aside0 ((out ++ [y]) ++ mrg (a.drop i) (b.drop (j + 1)) = sdR l ∧ out.length ≤ i + j) := ⟨by rw [← hI, drop_at ci, hxe]; simp, hI2⟩
        have d6 : decide (0 < cmpL x y) = true := decide_eq_true h2
        clear hI hI2 h1 h2 hxe hye
        generalize cmpL x y = z at *
        go_wp2
        go_quiet (first | (go_at_call 50; (with_reducible refine (HC.out _ (by repeat (first | exact ⟨0, rfl⟩ | exact ⟨_, rfl⟩ | apply dr_n1 | apply dr_11))).mono ?_); intro e w1 hh; first | exact ⟨hh.1, quiet_plus1 hh.2⟩ | exact ⟨hh.1, quiet_more1 hh.2⟩))
        go_wp2
        go_quiet (first | (go_at_call 50; (with_reducible refine (HC.out _ (by repeat (first | exact ⟨0, rfl⟩ | exact ⟨_, rfl⟩ | apply dr_n1 | apply dr_11))).mono ?_); intro e w1 hh; first | exact ⟨hh.1, quiet_plus1 hh.2⟩ | exact ⟨hh.1, quiet_more1 hh.2⟩))
        go_wp2_with (first | ((with_reducible refine gate_builtin (b := .append) (xs := #[.tmp 95, .tmp 100]) rfl ?_); (try (refine gate_guard (by rfl) ?_; dsimp only)); at_builtin; (refine Kd.N_append kRo (w0 := w) w.heap.size ?a1 (.tmp 95) (.tmp 100) 23 22 (.slice none 0 0) 24 ?a2 ?a3 ?a4 ?a5 ?a6 ?a7 u5 out y [.slice A2 (y).length c2] (fun k => P0 k ∨ w.heap.size ≤ k) (fun k => (P0 k ∨ w.heap.size ≤ k) ∧ some k ≠ (u5 : Value).ownBlock) ?a8 ?a9 ?aP ?aI ?aF ?aO ?aB ?aS ?aL ?_); (case a1 => rfl); (case a2 => rfl); (case a3 => exact Try.underlying23);  (case a4 => exact info22); (case a5 => rfl); (case a6 => decide); (case a7 => decide); (case a8 => rfl); (case a9 => rfl); (case aP => first | exact Kd.FK_slice_mk (Kd.V_reads' HV2.out).2.1 (Kd.V_F HV2.out) | exact Kd.FK_slice_mk (Kd.V_reads' HV2.out).2.1 (Kd.V_F (Kd.V_drewN HV2.out _)) | exact Kd.FK_slice_mk (Kd.V_reads' HV2.out).2.1 (Kd.V_F (Kd.V_drewN (Kd.V_drewN HV2.out _) _))); (case aI => exact fun _ hk => hk); (case aF => exact fun k hk => .inr (Nat.le_trans HBW.out.size hk)); (case aO => first | exact HN.out | exact Kd.N_drewN HN.out _ | exact Kd.N_drewN (Kd.N_drewN HN.out _) _); (case aB => first | exact HBW.out | exact pw_below_drewN HBW.out _ | exact pw_below_drewN (pw_below_drewN HBW.out _) _); (case aS => exact HBW.out.size); (case aL => have := HI.out.2; omega); intro v9 w9 ho9 hb9 hg9 hat9))
        go_roundw
        case rel => exact ⟨out ++ [y], i, j + 1, by first | rfl | (simp; done), by first | rfl | (simp; done), by omega, by omega, ⟨HI.out.1, by have := HI.out.2; simp only [List.length_append, List.length_cons, List.length_nil]; omega⟩, ⟨by first | exact Kd.V_afterv HVA.out hg9 hat9 | exact Kd.V_afterv (Kd.V_drewN HVA.out _) hg9 hat9 | exact Kd.V_afterv (Kd.V_drewN (Kd.V_drewN HVA.out _) _) hg9 hat9⟩, ⟨by first | exact Kd.V_afterv HVB.out hg9 hat9 | exact Kd.V_afterv (Kd.V_drewN HVB.out _) hg9 hat9 | exact Kd.V_afterv (Kd.V_drewN (Kd.V_drewN HVB.out _) _) hg9 hat9⟩, ⟨ho9⟩, ⟨hb9⟩⟩
        case measure => simp [intOf]; omega
       ·rw [if_neg h2] at hI
        have HI : Aside0 ((out ++ [x]) ++ mrg (a.drop (i + 1)) (b.drop (j + 1)) = sdR l ∧ out.length ≤ i + j) := ⟨by rw [← hI]; simp, hI2⟩
        have d6 : decide (0 < cmpL x y) = false := decide_eq_false h2
        clear hI hI2 h1 h2 hxe hye
        generalize cmpL x y = z at *
        go_wp2
        go_quiet (first | (go_at_call 50; (with_reducible refine (HC.out _ (by repeat (first | exact ⟨0, rfl⟩ | exact ⟨_, rfl⟩ | apply dr_n1 | apply dr_11))).mono ?_); intro e w1 hh; first | exact ⟨hh.1, quiet_plus1 hh.2⟩ | exact ⟨hh.1, quiet_more1 hh.2⟩))
        go_wp2
        go_quiet (first | (go_at_call 50; (with_reducible refine (HC.out _ (by repeat (first | exact ⟨0, rfl⟩ | exact ⟨_, rfl⟩ | apply dr_n1 | apply dr_11))).mono ?_); intro e w1 hh; first | exact ⟨hh.1, quiet_plus1 hh.2⟩ | exact ⟨hh.1, quiet_more1 hh.2⟩))
        go_wp2_with (first | ((with_reducible refine gate_builtin (b := .append) (xs := #[.tmp 35, .tmp 40]) rfl ?_); (try (refine gate_guard (by rfl) ?_; dsimp only)); at_builtin; (refine Kd.N_append kRo (w0 := w) w.heap.size ?a1 (.tmp 35) (.tmp 40) 23 22 (.slice none 0 0) 24 ?a2 ?a3 ?a4 ?a5 ?a6 ?a7 u5 out x [.slice A1 (x).length c1] (fun k => P0 k ∨ w.heap.size ≤ k) (fun k => (P0 k ∨ w.heap.size ≤ k) ∧ some k ≠ (u5 : Value).ownBlock) ?a8 ?a9 ?aP ?aI ?aF ?aO ?aB ?aS ?aL ?_); (case a1 => rfl); (case a2 => rfl); (case a3 => exact Try.underlying23);  (case a4 => exact info22); (case a5 => rfl); (case a6 => decide); (case a7 => decide); (case a8 => rfl); (case a9 => rfl); (case aP => first | exact Kd.FK_slice_mk (Kd.V_reads' HV1.out).2.1 (Kd.V_F HV1.out) | exact Kd.FK_slice_mk (Kd.V_reads' HV1.out).2.1 (Kd.V_F (Kd.V_drewN HV1.out _)) | exact Kd.FK_slice_mk (Kd.V_reads' HV1.out).2.1 (Kd.V_F (Kd.V_drewN (Kd.V_drewN HV1.out _) _))); (case aI => exact fun _ hk => hk); (case aF => exact fun k hk => .inr (Nat.le_trans HBW.out.size hk)); (case aO => first | exact HN.out | exact Kd.N_drewN HN.out _ | exact Kd.N_drewN (Kd.N_drewN HN.out _) _); (case aB => first | exact HBW.out | exact pw_below_drewN HBW.out _ | exact pw_below_drewN (pw_below_drewN HBW.out _) _); (case aS => exact HBW.out.size); (case aL => have := HI.out.2; omega); intro v9 w9 ho9 hb9 hg9 hat9))
        go_roundw
        case rel => exact ⟨out ++ [x], i + 1, j + 1, by first | rfl | (simp; done), by first | rfl | (simp; done), by omega, by omega, ⟨HI.out.1, by have := HI.out.2; simp only [List.length_append, List.length_cons, List.length_nil]; omega⟩, ⟨by first | exact Kd.V_afterv HVA.out hg9 hat9 | exact Kd.V_afterv (Kd.V_drewN HVA.out _) hg9 hat9 | exact Kd.V_afterv (Kd.V_drewN (Kd.V_drewN HVA.out _) _) hg9 hat9⟩, ⟨by first | exact Kd.V_afterv HVB.out hg9 hat9 | exact Kd.V_afterv (Kd.V_drewN HVB.out _) hg9 hat9 | exact Kd.V_afterv (Kd.V_drewN (Kd.V_drewN HVB.out _) _) hg9 hat9⟩, ⟨ho9⟩, ⟨hb9⟩⟩
        case measure => simp [intOf]; omega
     ·have hjb : j = b.length := by omega
      subst hjb
      have d3 : ((b.length : Int) == (b.length : Int)) = true := beq_self_eq_true _
      have HI : Aside0 ((out ++ [a[i]]) ++ mrg (a.drop (i + 1)) (b.drop b.length) = sdR l ∧ out.length ≤ i + b.length) := ⟨by
       have h9 := HI.out.1
       rw [List.drop_of_length_le (l := b) (Nat.le_refl _), mrg_nil] at h9 ⊢
       rw [← h9, drop_at ci]; simp, HI.out.2⟩
      clear hF1
      generalize hxe : a[i] = x at *
      clear hxe
      go_wp2
      go_quiet (fail)
      go_wp2_with (first | ((with_reducible refine gate_builtin (b := .append) (xs := #[.tmp 69, .tmp 74]) rfl ?_); (try (refine gate_guard (by rfl) ?_; dsimp only)); at_builtin; (refine Kd.N_append kRo (w0 := w) w.heap.size ?a1 (.tmp 69) (.tmp 74) 23 22 (.slice none 0 0) 24 ?a2 ?a3 ?a4 ?a5 ?a6 ?a7 u5 out x [.slice A1 (x).length c1] (fun k => P0 k ∨ w.heap.size ≤ k) (fun k => (P0 k ∨ w.heap.size ≤ k) ∧ some k ≠ (u5 : Value).ownBlock) ?a8 ?a9 ?aP ?aI ?aF ?aO ?aB ?aS ?aL ?_); (case a1 => rfl); (case a2 => rfl); (case a3 => exact Try.underlying23);  (case a4 => exact info22); (case a5 => rfl); (case a6 => decide); (case a7 => decide); (case a8 => rfl); (case a9 => rfl); (case aP => first | exact Kd.FK_slice_mk (Kd.V_reads' HV1.out).2.1 (Kd.V_F HV1.out) | exact Kd.FK_slice_mk (Kd.V_reads' HV1.out).2.1 (Kd.V_F (Kd.V_drewN HV1.out _)) | exact Kd.FK_slice_mk (Kd.V_reads' HV1.out).2.1 (Kd.V_F (Kd.V_drewN (Kd.V_drewN HV1.out _) _))); (case aI => exact fun _ hk => hk); (case aF => exact fun k hk => .inr (Nat.le_trans HBW.out.size hk)); (case aO => first | exact HN.out | exact Kd.N_drewN HN.out _ | exact Kd.N_drewN (Kd.N_drewN HN.out _) _); (case aB => first | exact HBW.out | exact pw_below_drewN HBW.out _ | exact pw_below_drewN (pw_below_drewN HBW.out _) _); (case aS => exact HBW.out.size); (case aL => have := HI.out.2; omega); intro v9 w9 ho9 hb9 hg9 hat9))
      go_roundw
      case rel => exact ⟨out ++ [x], i + 1, b.length, by first | rfl | (simp; done), by first | rfl | (simp; done), by omega, by omega, ⟨HI.out.1, by have := HI.out.2; simp only [List.length_append, List.length_cons, List.length_nil]; omega⟩, ⟨by first | exact Kd.V_afterv HVA.out hg9 hat9 | exact Kd.V_afterv (Kd.V_drewN HVA.out _) hg9 hat9 | exact Kd.V_afterv (Kd.V_drewN (Kd.V_drewN HVA.out _) _) hg9 hat9⟩, ⟨by first | exact Kd.V_afterv HVB.out hg9 hat9 | exact Kd.V_afterv (Kd.V_drewN HVB.out _) hg9 hat9 | exact Kd.V_afterv (Kd.V_drewN (Kd.V_drewN HVB.out _) _) hg9 hat9⟩, ⟨ho9⟩, ⟨hb9⟩⟩
      case measure => simp [intOf]; omega
    ·have hia : i = a.length := by omega
     subst hia
     have d1 : decide ((a.length : Int) < (a.length : Int)) = false := decide_eq_false (by omega)
     have d4 : ((a.length : Int) == (a.length : Int)) = true := beq_self_eq_true _
     by_cases cj : j < b.length
     ·have d2 : decide ((j : Int) < (b.length : Int)) = true := decide_eq_true (by omega)
      have d3 : ((j : Int) == (b.length : Int)) = false := by rw [beq_eq_false_iff_ne]; omega
      obtain ⟨bd, A2, c2, e, hy, hc2, hF2⟩ := V_row HVB.out j cj
      subst e
      have HV2 : Aside0 (Kd.V (Kd.int .i64) 3 wr w.heap.size _ (.slice A2 (b[j]).length c2) b[j]) := ⟨Kd.V_mk hc2 hF2⟩
      have HI : Aside0 ((out ++ [b[j]]) ++ mrg (a.drop a.length) (b.drop (j + 1)) = sdR l ∧ out.length ≤ a.length + j) := ⟨by
       have h9 := HI.out.1
       rw [List.drop_of_length_le (l := a) (Nat.le_refl _)] at h9 ⊢
       rw [← h9, drop_at cj]; simp [mrg], HI.out.2⟩
      clear hF2
      generalize hye : b[j] = y at *
      clear hye
      go_wp2
      go_quiet (fail)
      go_wp2
      go_quiet (fail)
      go_wp2_with (first | ((with_reducible refine gate_builtin (b := .append) (xs := #[.tmp 95, .tmp 100]) rfl ?_); (try (refine gate_guard (by rfl) ?_; dsimp only)); at_builtin; (refine Kd.N_append kRo (w0 := w) w.heap.size ?a1 (.tmp 95) (.tmp 100) 23 22 (.slice none 0 0) 24 ?a2 ?a3 ?a4 ?a5 ?a6 ?a7 u5 out y [.slice A2 (y).length c2] (fun k => P0 k ∨ w.heap.size ≤ k) (fun k => (P0 k ∨ w.heap.size ≤ k) ∧ some k ≠ (u5 : Value).ownBlock) ?a8 ?a9 ?aP ?aI ?aF ?aO ?aB ?aS ?aL ?_); (case a1 => rfl); (case a2 => rfl); (case a3 => exact Try.underlying23);  (case a4 => exact info22); (case a5 => rfl); (case a6 => decide); (case a7 => decide); (case a8 => rfl); (case a9 => rfl); (case aP => first | exact Kd.FK_slice_mk (Kd.V_reads' HV2.out).2.1 (Kd.V_F HV2.out) | exact Kd.FK_slice_mk (Kd.V_reads' HV2.out).2.1 (Kd.V_F (Kd.V_drewN HV2.out _)) | exact Kd.FK_slice_mk (Kd.V_reads' HV2.out).2.1 (Kd.V_F (Kd.V_drewN (Kd.V_drewN HV2.out _) _))); (case aI => exact fun _ hk => hk); (case aF => exact fun k hk => .inr (Nat.le_trans HBW.out.size hk)); (case aO => first | exact HN.out | exact Kd.N_drewN HN.out _ | exact Kd.N_drewN (Kd.N_drewN HN.out _) _); (case aB => first | exact HBW.out | exact pw_below_drewN HBW.out _ | exact pw_below_drewN (pw_below_drewN HBW.out _) _); (case aS => exact HBW.out.size); (case aL => have := HI.out.2; omega); intro v9 w9 ho9 hb9 hg9 hat9))
      go_roundw
      case rel => exact ⟨out ++ [y], a.length, j + 1, by first | rfl | (simp; done), by first | rfl | (simp; done), by omega, by omega, ⟨HI.out.1, by have := HI.out.2; simp only [List.length_append, List.length_cons, List.length_nil]; omega⟩, ⟨by first | exact Kd.V_afterv HVA.out hg9 hat9 | exact Kd.V_afterv (Kd.V_drewN HVA.out _) hg9 hat9 | exact Kd.V_afterv (Kd.V_drewN (Kd.V_drewN HVA.out _) _) hg9 hat9⟩, ⟨by first | exact Kd.V_afterv HVB.out hg9 hat9 | exact Kd.V_afterv (Kd.V_drewN HVB.out _) hg9 hat9 | exact Kd.V_afterv (Kd.V_drewN (Kd.V_drewN HVB.out _) _) hg9 hat9⟩, ⟨ho9⟩, ⟨hb9⟩⟩
      case measure => simp [intOf]; omega
     ·have hjb : j = b.length := by omega
      subst hjb
      have d2 : decide ((b.length : Int) < (b.length : Int)) = false := decide_eq_false (by omega)
      have hr : out = sdR l := by
       have h9 := HI.out.1
       rw [List.drop_of_length_le (l := a) (Nat.le_refl _), List.drop_of_length_le (l := b) (Nat.le_refl _)] at h9
       simpa [mrg] using h9
      have HN2 : Aside0 (Kd.N kRo 22 wr w.heap.size (fun k => P0 k ∨ w.heap.size ≤ k) u5 (sdR l)) := ⟨by rw [← hr]; exact HN.out⟩
      clear hr
      go_wp2
      go_ret
      exact ⟨_, rfl, Kd.N_V HN2.out, HBW.out⟩
end Go.Proofs.Ytkohcdddgjaijaa.PT
namespace Go.Proofs.Ytkohcdddgjaijaa.P
open Go.RowKit Go.Proofs.YtkohcdddgjaijaaW.PrintWords Go.Proofs.YtkohcdddgjaijaaW.PrintLast Go.Proofs.YtkohcdddgjaijaaW.PrintMore
set_option linter.unusedVariables false
def spec_l2Sort.f (k : Nat) (l : List (List Int)) : Option (List (List Int)) := if l.length ≤ 1048576 ∧ ∀ x, x ∈ l → x.length ≤ 1048576 then some (PT.sdR l) else none
theorem spec_l2Sort.mono : ∀ a0 k, LeO (spec_l2Sort.f k a0) (spec_l2Sort.f (k + 1) a0) := fun _ _ => LeO.refl _
theorem spec_l2Sort.calls (k : Nat) : ∀ (P0_ : Nat → Prop) (A0 : Option Addr) (c0 : Nat) (l0 : List (List Int)) (r : List (List Int)) (w : World) (hs0 : Kd.V (Kd.slice 3 (Kd.int .i64)) 22 w w.heap.size (fun k_ => P0_ k_) (.slice A0 l0.length c0) l0) (h : spec_l2Sort.f k l0 = some r),
  Calls Try.prog 44 #[.slice A0 l0.length c0] w fun e w' => ∃ v0_ : Value, e = .returned (v0_) ∧ Kd.V (Kd.slice 3 (Kd.int .i64)) 22 w' w.heap.size (fun k_ => (P0_ k_ ∨ w.heap.size ≤ k_)) v0_ r ∧ Below w.heap.size w w' := by
 intro P0 A c l r w hs h
 unfold spec_l2Sort.f at h
 by_cases hc : l.length ≤ 1048576 ∧ ∀ x, x ∈ l → x.length ≤ 1048576
 ·rw [if_pos hc] at h
  obtain rfl := Option.some.inj h
  exact PT.sort_ref l.length P0 A c l w (Nat.le_refl _) hc.1 hc.2 hs
 ·rw [if_neg hc] at h
  exact absurd h (by simp)
end Go.Proofs.Ytkohcdddgjaijaa.P
