/-
  The law FnExactVariables answers true at every argument.
-/
import Derived.Test.YtkolhpmhbgbphaaRows
import Derived.Test.YtkolhpmhbgbphaaKVariables1
import Derived.Test.YtkolhpmhbgbphaaKVariables2
import Derived.Test.YtkolhpmhbgbphaaKVariables6
import Derived.Test.YtkolhpmhbgbphaaKVariables7
import Derived.Deep.RegionHeld3
import Derived.WalkKit
import Derived.ProofKit
import Derived.OpenShut
import Derived.ShutString
import Derived.ChangeOld
import Derived.Below
import Derived.SizedLaws
import Derived.Lib.SmallJoins
namespace Go.Proofs.Ytkolhpmhbgbphaa.P
open Go.RowKit Go.Proofs.YtkolhpmhbgbphaaW.PrintWords Go.Proofs.YtkolhpmhbgbphaaW.PrintLast Go.Proofs.YtkolhpmhbgbphaaW.PrintMore
attribute [local go_sem] max2_int min2_int max_two min_two max_three min_three max_four min_four
set_option linter.unusedVariables false
set_option linter.unusedSimpArgs false
def laws_markTermS.l0 : Nat → List (S185) → Int → Int → Option (Int × (List (S185)))
 | 0, _, _, _ => none
 | k + 1, x0, x1, x5 => if x5 < (x0.length : Int) then ((laws_markText.f k x1).bind fun t277 => (if 0 ≤ x5 then ((some (x0.set (x5 : Int).toNat (⟨t277, (rd_T185 x0 x5).f1⟩ : S185) : List (S185))).bind fun y278 => (laws_markTermS.l0 k (y278.set (x5 : Int).toNat (⟨(rd_T185 y278 x5).f0, wrap64 (x1 + 1)⟩ : S185)) (wrap64 ((wrap64 (x1 + 1)) + 1)) (wrap64 (x5 + 1)))) else (none))) else (some (x1, x0))
def laws_markTermS.f (k : Nat) (l0 : List (S185)) (a1 : Int) : Option (Int × (List (S185))) := laws_markTermS.l0 k l0 a1 0
theorem laws_markTermS.mono_l : ∀ k, (∀ y0 y1 y2, LeO (laws_markTermS.l0 k y0 y1 y2) (laws_markTermS.l0 (k + 1) y0 y1 y2))
 | 0 => fun _ _ _ r h => by simp [laws_markTermS.l0] at h
 | k + 1 => by
  have ih0 := laws_markTermS.mono_l k
  ·intro y0 y1 y2
   unfold laws_markTermS.l0
   repeat' first
   | (with_reducible exact ih0 _ _ _)
   | (with_reducible exact laws_markText.mono _ _)
   | (with_reducible exact LeO.refl _)
   | (with_reducible exact LeO.none _)
   | (with_reducible refine LeO.ite ?_ ?_)
   | (with_reducible refine LeO.bind ?_ (fun _ => ?_))
   | exact ih0 _ _ _
   | exact laws_markText.mono _ _
   | exact LeO.none _
   | refine LeO.ite ?_ ?_
   | refine LeO.bind ?_ (fun _ => ?_)
theorem laws_markTermS.mono : ∀ a0 a1 k, LeO (laws_markTermS.f k a0 a1) (laws_markTermS.f (k + 1) a0 a1) := by
 intro a0 a1 k
 have ih0 := laws_markTermS.mono_l k
 unfold laws_markTermS.f
 repeat' first
   | (with_reducible exact ih0 _ _ _)
   | (with_reducible exact laws_markText.mono _ _)
   | (with_reducible exact LeO.refl _)
   | (with_reducible exact LeO.none _)
   | (with_reducible refine LeO.ite ?_ ?_)
   | (with_reducible refine LeO.bind ?_ (fun _ => ?_))
   | exact ih0 _ _ _
   | exact laws_markText.mono _ _
   | exact LeO.none _
   | refine LeO.ite ?_ ?_
   | refine LeO.bind ?_ (fun _ => ?_)
set_option maxHeartbeats 8000000 in
set_option maxRecDepth 100000 in
theorem laws_markTermS.calls (k : Nat) (P0_ : Nat → Prop) (u9000_ : Value) (l0 : List (S185)) (a1 : Int) (r1 : Int) (r2 : List (S185)) (w0 w : World) (hB : Below w0.heap.size w0 w) (ho0 : Kd.R k185 185 w w0.heap.size P0_ u9000_ l0) (h : laws_markTermS.f k l0 a1 = some (r1, r2)) :
  Calls Try.prog 154 #[u9000_, .int .i64 a1] w fun e w' => e = .returned (.int .i64 r1) ∧ Kd.R k185 185 w' w0.heap.size (fun k_ => (P0_ k_ ∨ w.heap.size ≤ k_)) u9000_ r2 ∧ Below w0.heap.size w0 w' ∧ Kept w w' (fun k_ => P0_ k_) := by
 have HO0 := Aside0.mk (show Kd.R k185 185 w w0.heap.size (fun k_ => (P0_ k_ ∨ w.heap.size ≤ k_)) u9000_ l0 from Kd.R_mono ho0 (fun k_ hk => (.inl hk)))
 have HK := Aside0.mk (Kept.refl w (fun k_ => P0_ k_))
 have HW0 := Aside0.mk hB.size
 have HB := Aside0.mk hB
 clear hB
 have H : (laws_markTermS.l0 k l0 a1 0) = some (r1, r2) := h
 clear h
 have H' := Aside0.mk H
 clear H
 go_enter Try.func154, Try.ntmps154
 go_wp2
 go_loopg [1, 5] k (fun kq v1 v5 w' => ∃ (x0_1 : List (S185)) (x1_1 : Int) (x5_1 : Int), v1 = .int .i64 x1_1 ∧ v5 = .int .i64 x5_1 ∧ Aside0 (laws_markTermS.l0 kq x0_1 x1_1 x5_1 = some (r1, r2)) ∧ Aside0 (kq ≤ k) ∧ Aside0 (Kd.R k185 185 w' w0.heap.size (fun k_ => (P0_ k_ ∨ w.heap.size ≤ k_)) u9000_ x0_1) ∧ Aside0 (Kept w w' (fun k_ => P0_ k_)) ∧ Aside0 (Below w0.heap.size w0 w'))
 case atStart => exact ⟨(l0), (a1), (0), (by first | rfl | (simp; done) | (simp [*]; done)), (by first | rfl | (simp; done) | (simp [*]; done)), H', ⟨Nat.le_refl _⟩, ⟨by (with_reducible repeat (first | apply Kd.R_alloc | apply Kd.R_drewN | apply Kd.R_drew)); exact HO0.out⟩, ⟨by repeat (first | (with_reducible first | exact HK.out | apply Kept.alloc | apply Kept.drewN | apply Kept.drew) | exact HK.out)⟩, ⟨by repeat (first | (with_reducible first | exact HB.out | apply below_alloc | apply pw_below_drewN | apply below_drew1) | exact HB.out)⟩⟩
 case round =>
  clear H'
  try clear c1
  try clear p2
  obtain ⟨x0_1, x1_1, x5_1, rfl, rfl, HA, HK1, HO_0, HK, HB⟩ := hrel
  cases gk with
  | zero => exact absurd HA.out (by simp [laws_markTermS.l0])
  | succ k1 =>
   have H := HA.out
   clear HA
   simp only [laws_markTermS.l0] at H
   by_cases c3 : x5_1 < (x0_1.length : Int)
   ·rw [if_pos c3] at H
    have c3b0 : decide (x5_1 < (x0_1.length : Int)) = true := decide_eq_true c3
    clear c3
    replace H := Option.bind_eq_some_iff.mp H
    obtain ⟨t277, A40, H⟩ := H
    replace H : (if 0 ≤ x5_1 then ((some (x0_1.set (x5_1 : Int).toNat (⟨t277, (rd_T185 x0_1 x5_1).f1⟩ : S185) : List (S185))).bind fun y278 => (laws_markTermS.l0 k1 (y278.set (x5_1 : Int).toNat (⟨(rd_T185 y278 x5_1).f0, wrap64 (x1_1 + 1)⟩ : S185)) (wrap64 ((wrap64 (x1_1 + 1)) + 1)) (wrap64 (x5_1 + 1)))) else (none)) = some (r1, r2) := H
    have A4 := Aside0.mk A40
    clear A40
    by_cases c5 : 0 ≤ x5_1
    ·rw [if_pos c5] at H
     have c5b0 : decide (0 ≤ x5_1) = true := decide_eq_true c5
     clear c5
     obtain ⟨y278, hy278⟩ : ∃ y_ : List (S185), y_ = (x0_1.set (x5_1 : Int).toNat (⟨t277, (rd_T185 x0_1 x5_1).f1⟩ : S185)) := ⟨_, rfl⟩
     replace H : (laws_markTermS.l0 k1 (y278.set (x5_1 : Int).toNat (⟨(rd_T185 y278 x5_1).f0, wrap64 (x1_1 + 1)⟩ : S185)) (wrap64 ((wrap64 (x1_1 + 1)) + 1)) (wrap64 (x5_1 + 1))) = some (r1, r2) := by first | (rw [hy278]; with_reducible exact H) | (have H2_ := (Option.bind_some _ _).symm.trans H; rw [hy278]; with_reducible exact H2_) | (have H2_ := (Option.bind_some _ _).symm.trans H; with_reducible exact H2_) | with_reducible exact H | (rw [hy278]; exact H) | exact H
     have Ny278 := Aside0.mk hy278
     clear hy278
     obtain ⟨y279, hy279⟩ : ∃ y_ : List (S185), y_ = (y278.set (x5_1 : Int).toNat (⟨(rd_T185 y278 x5_1).f0, wrap64 (x1_1 + 1)⟩ : S185)) := ⟨_, rfl⟩
     replace H : (laws_markTermS.l0 k1 y279 (wrap64 ((wrap64 (x1_1 + 1)) + 1)) (wrap64 (x5_1 + 1))) = some (r1, r2) := by first | (rw [hy279]; with_reducible exact H) | (have H2_ := (Option.bind_some _ _).symm.trans H; rw [hy279]; with_reducible exact H2_) | (have H2_ := (Option.bind_some _ _).symm.trans H; with_reducible exact H2_) | with_reducible exact H | (rw [hy279]; exact H) | exact H
     have Ny279 := Aside0.mk hy279
     clear hy279
     have H' := Aside0.mk H
     clear H
     obtain ⟨Ao8, co8, eo8⟩ := Kd.R_slice HO_0.out
     subst eo8
     go_wp2_with (first | ((with_reducible refine gate_callee (f := 79) rfl ?_); refine goesL_ (some 15) rfl rfl Try.func79 (by kernel_rfl) rfl #[.int .i64 x1_1] rfl (by (try simp only [List.map_toArray, List.map_cons, List.map_nil]); first | done | rfl | (simp only [List.length_drop, List.length_take]; rfl)) ?_; (with_reducible refine (laws_markText.calls k1 x1_1 t277 _ A4.out).mono ?_); rintro e w9 ⟨rfl, hb⟩; refine ⟨_, rfl, ?_⟩; have n0_ := Aside0.mk (Kd.R_below (by (with_reducible repeat (first | apply Kd.R_alloc | apply Kd.R_drewN | apply Kd.R_drew)); exact HO_0.out) hb); have n1_ := Aside0.mk (Kept.below (S := (fun k_ => P0_ k_)) (by repeat (first | (with_reducible first | exact HK.out | apply Kept.alloc | apply Kept.drewN | apply Kept.drew) | exact HK.out)) hb); have n2_ := Aside0.mk (below_step (by repeat (first | (with_reducible first | exact HB.out | apply below_alloc | apply pw_below_drewN | apply below_drew1) | exact HB.out)) hb); clear HO_0; clear HK; clear HB; have HO_0 := n0_; have HK := n1_; have HB := n2_; clear n0_ n1_ n2_; (try clear hb); (try clear hb2); (try clear hk); (try clear hi); have p6 : 0 ≤ (x5_1 : Int) := of_decide_eq_true (by first | (with_reducible assumption) | assumption); have q6 : (x5_1 : Int) < ((x0_1.length : Int) : Int) := of_decide_eq_true (by first | (with_reducible assumption) | assumption); obtain ⟨go6, co6, eo6, gb6, gl6, cl6, HG6⟩ := Kd.R_form HO_0.out (by omega); (first | cases eo6 | (injection eo6 with ea_ en_ ec_; (first | subst ea_ | (injection ea_ with ea_; subst ea_)); subst ec_; clear en_)); have GB6 := Aside0.mk gb6; have GG6 := Aside0.mk HG6; clear gb6 gl6 HG6; have HMgo6 := Aside0.mk (show (P0_ go6 ∨ w.heap.size ≤ go6) from (HO_0.out.1 _ rfl)); obtain ⟨ce6, hcl6, hM6, hcc6, hfr6⟩ := Kd.R_elem HO_0.out z185 (x5_1 : Int) p6 q6; obtain rfl := k185_openM hM6; have hx6_0 : w9.cell? ⟨go6, (x5_1 : Int).toNat * 2, none⟩ = some (.string ((rd_T185 x0_1 x5_1).f0)) := hcc6 0 _ rfl; have hx6_1 : w9.cell? ⟨go6, (x5_1 : Int).toNat * 2 + 1, none⟩ = some (.int .i64 ((rd_T185 x0_1 x5_1).f1)) := hcc6 1 _ rfl; have hf6_0 : w9.frozen? ⟨go6, (x5_1 : Int).toNat * 2, none⟩ = false := hfr6 0; have hf6_1 : w9.frozen? ⟨go6, (x5_1 : Int).toNat * 2 + 1, none⟩ = false := hfr6 1; clear hcl6 hcc6 hfr6; (try clear hM6); replace p6 := eq_true p6; replace q6 := eq_true q6; have HX10 := Aside0.mk (show Kd.R k185 185 w9 w0.heap.size (fun k_ => (P0_ k_ ∨ w.heap.size ≤ k_)) (.slice (some ⟨go6, 0, none⟩) x0_1.length co8) x0_1 from (by (with_reducible repeat (first | apply Kd.R_alloc | apply Kd.R_drewN | apply Kd.R_drew)); exact HO_0.out)); obtain ⟨ce10, hcl10, hM10, hcc10, hfr10⟩ := Kd.R_elem HX10.out z185 (x5_1 : Int) (of_decide_eq_true (by first | (with_reducible assumption) | assumption)) (by have h_ : (x5_1 : Int) < ((x0_1.length : Int) : Int) := of_decide_eq_true (by first | (with_reducible assumption) | assumption); first | exact h_ | (have e_ := (Kd.R_reads' HO_0.out).1; omega) | simpa using h_); obtain rfl := k185_openM hM10; have HP10 := Kd.R_seg HX10.out (x5_1 : Int) (of_decide_eq_true (by first | (with_reducible assumption) | assumption)) (by have h_ : (x5_1 : Int) < ((x0_1.length : Int) : Int) := of_decide_eq_true (by first | (with_reducible assumption) | assumption); first | exact h_ | (have e_ := (Kd.R_reads' HO_0.out).1; omega) | simpa using h_) (seg := [.string t277]) (j := 0) hcl10 hcc10 (show 1 ≤ 2 from by decide) (x' := (⟨t277, (rd_T185 x0_1 x5_1).f1⟩ : S185)) (k185_mkM _ _ _ (⟨t277, (rd_T185 x0_1 x5_1).f1⟩ : S185) ) (fun _ hk => hk); have hx10_0 := hcc10 0 _ rfl; (try simp only [show (k185).sz = 2 from rfl, Nat.mul_one, Nat.add_zero] at hx10_0); have hf10_0 := hfr10 0; (try simp only [show (k185).sz = 2 from rfl, Nat.mul_one, Nat.add_zero] at hf10_0); clear hcl10 hcc10 hfr10; (try clear hM10)) | ((with_reducible refine gate_store (t := 9) (p := 17) rfl ?_); refine store_event (t := 9) (p := 17) (v := ?vo_w11) (w1 := (w9.setCell ⟨go6, (x5_1 : Int).toNat * 2, none⟩ (.string t277))) ?hg ?ho ?hn ?hr ?_; (case ho => rfl); (case hg => rfl); (case hn => rfl); (case hr => first | (go_simp; done) | (go_simp; rfl) | ((try (obtain ⟨_, _, e_⟩ := Kd.R_slice HO_0.out; rw [e_])); (try (obtain ⟨_, _, e_⟩ := Kd.S_slice HO_0.out; rw [e_])); (try (obtain ⟨_, _, e_⟩ := Kd.N_slice HO_0.out; rw [e_])); (try (obtain ⟨_, _, e_⟩ := Kd.V_slice HO_0.out; rw [e_])); go_simp; first | done | rfl)); intro w11 hw; have hg : w9.grownBy w11 (some go6) := (by rw [hw]; exact HP10.2); have hp_ : Kd.R k185 185 w11 w0.heap.size (fun k_ => (P0_ k_ ∨ w.heap.size ≤ k_)) (.slice (some ⟨go6, 0, none⟩) x0_1.length co8) y278 := (by rw [hw, Ny278.out]; exact HP10.1); clear HP10; have n0_ := Aside0.mk (hp_); have n1_ := Aside0.mk ((by rw [hw]; exact below_set (HB.out) GB6.out : Below w0.heap.size w0 w11)); have n2_ := Aside0.mk (Kept.of_grown (S := (fun k_ => P0_ k_)) hg (by repeat (first | (with_reducible first | exact HK.out | apply Kept.alloc | apply Kept.drewN | apply Kept.drew) | exact HK.out)) (fun k_ e_ => (HO_0.out.1 k_ e_))); clear HO_0; clear HB; clear HK; have HO_0 := n0_; have HB := n1_; have HK := n2_; clear n0_ n1_ n2_; clear hg hw hp_; have p7 : 0 ≤ (x5_1 : Int) := of_decide_eq_true (by first | (with_reducible assumption) | assumption); have q7 : (x5_1 : Int) < ((x0_1.length : Int) : Int) := of_decide_eq_true (by first | (with_reducible assumption) | assumption); obtain ⟨ce7, hcl7, hM7, hcc7, hfr7⟩ := Kd.R_elem HO_0.out z185 (x5_1 : Int) p7 q7; obtain rfl := k185_openM hM7; have hx7_0 : w11.cell? ⟨go6, (x5_1 : Int).toNat * 2, none⟩ = some (.string ((rd_T185 y278 x5_1).f0)) := hcc7 0 _ rfl; have hx7_1 : w11.cell? ⟨go6, (x5_1 : Int).toNat * 2 + 1, none⟩ = some (.int .i64 ((rd_T185 y278 x5_1).f1)) := hcc7 1 _ rfl; have hf7_0 : w11.frozen? ⟨go6, (x5_1 : Int).toNat * 2, none⟩ = false := hfr7 0; have hf7_1 : w11.frozen? ⟨go6, (x5_1 : Int).toNat * 2 + 1, none⟩ = false := hfr7 1; clear hcl7 hcc7 hfr7; (try clear hM7); replace p7 := eq_true p7; replace q7 := eq_true q7; have HX12 := Aside0.mk (show Kd.R k185 185 w11 w0.heap.size (fun k_ => (P0_ k_ ∨ w.heap.size ≤ k_)) (.slice (some ⟨go6, 0, none⟩) x0_1.length co8) y278 from (by (with_reducible repeat (first | apply Kd.R_alloc | apply Kd.R_drewN | apply Kd.R_drew)); exact HO_0.out)); obtain ⟨ce12, hcl12, hM12, hcc12, hfr12⟩ := Kd.R_elem HX12.out z185 (x5_1 : Int) (of_decide_eq_true (by first | (with_reducible assumption) | assumption)) (by have h_ : (x5_1 : Int) < ((x0_1.length : Int) : Int) := of_decide_eq_true (by first | (with_reducible assumption) | assumption); first | exact h_ | (have e_ := (Kd.R_reads' HO_0.out).1; omega) | simpa using h_); obtain rfl := k185_openM hM12; have HP12 := Kd.R_seg HX12.out (x5_1 : Int) (of_decide_eq_true (by first | (with_reducible assumption) | assumption)) (by have h_ : (x5_1 : Int) < ((x0_1.length : Int) : Int) := of_decide_eq_true (by first | (with_reducible assumption) | assumption); first | exact h_ | (have e_ := (Kd.R_reads' HO_0.out).1; omega) | simpa using h_) (seg := [.int .i64 (wrap64 (x1_1 + 1))]) (j := 1) hcl12 hcc12 (show 2 ≤ 2 from by decide) (x' := (⟨(rd_T185 y278 x5_1).f0, wrap64 (x1_1 + 1)⟩ : S185)) (k185_mkM _ _ _ (⟨(rd_T185 y278 x5_1).f0, wrap64 (x1_1 + 1)⟩ : S185) ) (fun _ hk => hk); have hx12_1 := hcc12 1 _ rfl; (try simp only [show (k185).sz = 2 from rfl, Nat.mul_one, Nat.add_zero] at hx12_1); have hf12_1 := hfr12 1; (try simp only [show (k185).sz = 2 from rfl, Nat.mul_one, Nat.add_zero] at hf12_1); clear hcl12 hcc12 hfr12; (try clear hM12)) | ((with_reducible refine gate_store (t := 3) (p := 24) rfl ?_); refine store_event (t := 3) (p := 24) (v := ?vo_w13) (w1 := (w11.setCell ⟨go6, (x5_1 : Int).toNat * 2 + 1, none⟩ (.int .i64 (wrap64 (x1_1 + 1))))) ?hg ?ho ?hn ?hr ?_; (case ho => rfl); (case hg => rfl); (case hn => rfl); (case hr => first | (go_simp; done) | (go_simp; rfl) | ((try (obtain ⟨_, _, e_⟩ := Kd.R_slice HO_0.out; rw [e_])); (try (obtain ⟨_, _, e_⟩ := Kd.S_slice HO_0.out; rw [e_])); (try (obtain ⟨_, _, e_⟩ := Kd.N_slice HO_0.out; rw [e_])); (try (obtain ⟨_, _, e_⟩ := Kd.V_slice HO_0.out; rw [e_])); go_simp; first | done | rfl)); intro w13 hw; have hg : w11.grownBy w13 (some go6) := (by rw [hw]; exact HP12.2); have hp_ : Kd.R k185 185 w13 w0.heap.size (fun k_ => (P0_ k_ ∨ w.heap.size ≤ k_)) (.slice (some ⟨go6, 0, none⟩) x0_1.length co8) y279 := (by rw [hw, Ny279.out]; exact HP12.1); clear HP12; have n0_ := Aside0.mk (hp_); have n1_ := Aside0.mk ((by rw [hw]; exact below_set (HB.out) GB6.out : Below w0.heap.size w0 w13)); have n2_ := Aside0.mk (Kept.of_grown (S := (fun k_ => P0_ k_)) hg (by repeat (first | (with_reducible first | exact HK.out | apply Kept.alloc | apply Kept.drewN | apply Kept.drew) | exact HK.out)) (fun k_ e_ => (HO_0.out.1 k_ e_))); clear HO_0; clear HB; clear HK; have HO_0 := n0_; have HB := n1_; have HK := n2_; clear n0_ n1_ n2_; clear hg hw hp_))
     go_roundg k1
     case measure => have := HK1.out; omega
     case rel => exact ⟨(y279), (wrap64 ((wrap64 (x1_1 + 1)) + 1)), (wrap64 (x5_1 + 1)), (by first | rfl | (simp; done) | (simp [*]; done)), (by first | rfl | (simp; done) | (simp [*]; done)), H', ⟨by have := HK1.out; omega⟩, ⟨by (with_reducible repeat (first | apply Kd.R_alloc | apply Kd.R_drewN | apply Kd.R_drew)); exact HO_0.out⟩, ⟨by repeat (first | (with_reducible first | exact HK.out | apply Kept.alloc | apply Kept.drewN | apply Kept.drew) | exact HK.out)⟩, ⟨by repeat (first | (with_reducible first | exact HB.out | apply below_alloc | apply pw_below_drewN | apply below_drew1) | exact HB.out)⟩⟩
    ·rw [if_neg c5] at H
     exact absurd H (by simp)
   ·rw [if_neg c3] at H
    have c3b0 : decide (x5_1 < (x0_1.length : Int)) = false := decide_eq_false c3
    clear c3
    simp only [Option.some.injEq, Prod.mk.injEq] at H
    obtain ⟨rfl, rfl⟩ := H
    obtain ⟨Ao14, co14, eo14⟩ := Kd.R_slice HO_0.out
    subst eo14
    go_wp2
    go_ret
    exact ⟨by first | rfl | (simp [errW_none, errW_some] <;> rfl) | (simp [*, errW_none, errW_some] <;> rfl), by (with_reducible repeat (first | apply Kd.R_alloc | apply Kd.R_drewN | apply Kd.R_drew)); exact HO_0.out, by repeat (first | (with_reducible first | exact HB.out | apply below_alloc | apply pw_below_drewN | apply below_drew1) | exact HB.out), by repeat (first | (with_reducible first | exact HK.out | apply Kept.alloc | apply Kept.drewN | apply Kept.drew) | exact HK.out)⟩
end Go.Proofs.Ytkolhpmhbgbphaa.P
namespace Go.Proofs.Ytkolhpmhbgbphaa.P
open Go.RowKit Go.Proofs.YtkolhpmhbgbphaaW.PrintWords Go.Proofs.YtkolhpmhbgbphaaW.PrintLast Go.Proofs.YtkolhpmhbgbphaaW.PrintMore
attribute [local go_sem] max2_int min2_int max_two min_two max_three min_three max_four min_four
set_option linter.unusedVariables false
set_option linter.unusedSimpArgs false
def laws_heldStringS.l0 : Nat → List ByteArray → Int → Int → Option (Int)
 | 0, _, _, _ => none
 | k + 1, x0, x1, x5 => if x5 < (x0.length : Int) then (if 0 ≤ x5 then ((laws_markText.f k x1).bind fun t285 => (if (rdOf ByteArray.empty x0 x5).toList = t285.toList then (laws_heldStringS.l0 k x0 (wrap64 (x1 + 1)) (wrap64 (x5 + 1))) else (some (-1)))) else (none)) else (some x1)
def laws_heldStringS.f (k : Nat) (l0 : List ByteArray) (a1 : Int) : Option (Int) := laws_heldStringS.l0 k l0 a1 0
theorem laws_heldStringS.mono_l : ∀ k, (∀ y0 y1 y2, LeO (laws_heldStringS.l0 k y0 y1 y2) (laws_heldStringS.l0 (k + 1) y0 y1 y2))
 | 0 => fun _ _ _ r h => by simp [laws_heldStringS.l0] at h
 | k + 1 => by
  have ih0 := laws_heldStringS.mono_l k
  ·intro y0 y1 y2
   unfold laws_heldStringS.l0
   repeat' first
   | (with_reducible exact ih0 _ _ _)
   | (with_reducible exact laws_markText.mono _ _)
   | (with_reducible exact LeO.refl _)
   | (with_reducible exact LeO.none _)
   | (with_reducible refine LeO.ite ?_ ?_)
   | (with_reducible refine LeO.bind ?_ (fun _ => ?_))
   | exact ih0 _ _ _
   | exact laws_markText.mono _ _
   | exact LeO.none _
   | refine LeO.ite ?_ ?_
   | refine LeO.bind ?_ (fun _ => ?_)
theorem laws_heldStringS.mono : ∀ a0 a1 k, LeO (laws_heldStringS.f k a0 a1) (laws_heldStringS.f (k + 1) a0 a1) := by
 intro a0 a1 k
 have ih0 := laws_heldStringS.mono_l k
 unfold laws_heldStringS.f
 repeat' first
   | (with_reducible exact ih0 _ _ _)
   | (with_reducible exact laws_markText.mono _ _)
   | (with_reducible exact LeO.refl _)
   | (with_reducible exact LeO.none _)
   | (with_reducible refine LeO.ite ?_ ?_)
   | (with_reducible refine LeO.bind ?_ (fun _ => ?_))
   | exact ih0 _ _ _
   | exact laws_markText.mono _ _
   | exact LeO.none _
   | refine LeO.ite ?_ ?_
   | refine LeO.bind ?_ (fun _ => ?_)
set_option maxHeartbeats 8000000 in
set_option maxRecDepth 100000 in
theorem laws_heldStringS.calls (k : Nat) (A0 : Option Addr) (c0 : Nat) (l0 : List ByteArray) (a1 : Int) (r : Int) (w : World) (hr0 : Kd.C Kd.string w A0 l0.length l0) (hc0 : l0.length ≤ c0) (h : laws_heldStringS.f k l0 a1 = some r) :
  Calls Try.prog 29 #[.slice A0 l0.length c0, .int .i64 a1] w fun e w' => e = .returned (.int .i64 r) ∧ Below w.heap.size w w' := by
 have HR0 := Aside0.mk hr0
 have HC0 := Aside0.mk hc0
 clear hr0 hc0
 have HB := Aside0.mk (Below.refl w.heap.size w)
 have H : (laws_heldStringS.l0 k l0 a1 0) = some r := h
 clear h
 have H' := Aside0.mk H
 clear H
 go_enter Try.func29, Try.ntmps29
 go_wp2
 go_loopg [1, 5] k (fun kq v1 v5 w' => ∃ (x1_1 : Int) (x5_1 : Int), v1 = .int .i64 x1_1 ∧ v5 = .int .i64 x5_1 ∧ Aside0 (laws_heldStringS.l0 kq l0 x1_1 x5_1 = some r) ∧ Aside0 (kq ≤ k) ∧ Aside0 (Below w.heap.size w w'))
 case atStart => exact ⟨(a1), (0), (by first | rfl | (simp; done) | (simp [*]; done)), (by first | rfl | (simp; done) | (simp [*]; done)), H', ⟨Nat.le_refl _⟩, ⟨by repeat (first | (with_reducible first | exact HB.out | apply below_alloc | apply pw_below_drewN | apply below_drew1) | exact HB.out)⟩⟩
 case round =>
  clear H'
  try clear c2
  try clear p2
  obtain ⟨x1_1, x5_1, rfl, rfl, HA, HK1, HB⟩ := hrel
  cases gk with
  | zero => exact absurd HA.out (by simp [laws_heldStringS.l0])
  | succ k1 =>
   have H := HA.out
   clear HA
   simp only [laws_heldStringS.l0] at H
   by_cases c3 : x5_1 < (l0.length : Int)
   ·rw [if_pos c3] at H
    have c3b0 : decide (x5_1 < (l0.length : Int)) = true := decide_eq_true c3
    clear c3
    by_cases c4 : 0 ≤ x5_1
    ·rw [if_pos c4] at H
     have c4b0 : decide (0 ≤ x5_1) = true := decide_eq_true c4
     clear c4
     replace H := Option.bind_eq_some_iff.mp H
     obtain ⟨t285, A50, H⟩ := H
     replace H : (if (rdOf ByteArray.empty l0 x5_1).toList = t285.toList then (laws_heldStringS.l0 k1 l0 (wrap64 (x1_1 + 1)) (wrap64 (x5_1 + 1))) else (some (-1))) = some r := H
     have A5 := Aside0.mk A50
     clear A50
     by_cases c6 : (rdOf ByteArray.empty l0 x5_1).toList = t285.toList
     ·rw [if_pos c6] at H
      have c6b0 : ((rdOf ByteArray.empty l0 x5_1).toList == t285.toList) = true := beq_iff_eq.mpr c6
      have c6b1 : ((rdOf ByteArray.empty l0 x5_1).toList != t285.toList) = false := bne_eq_false_iff_eq.mpr c6
      clear c6
      have H' := Aside0.mk H
      clear H
      try go_wp2
      have n0_ := Aside0.mk (below_drew1 HB.out)
      clear HB
      have HB := n0_
      clear n0_
      have p284 : 0 ≤ (x5_1 : Int) := of_decide_eq_true (by first | (with_reducible assumption) | assumption)
      have q284 : x5_1 < (l0.length : Int) := of_decide_eq_true (by first | (with_reducible assumption) | assumption)
      obtain ⟨ad284, e284, hx284_0⟩ := Kd.at_string HR0.out x5_1 p284 q284
      have hw284_0 := hx284_0
      cases e284
      replace hx284_0 := (HB.out.cell (World.block_lt_of_cell? w _ hx284_0)).trans hx284_0
      replace p284 := eq_true p284
      replace q284 := eq_true q284
      refine start_ (n := 7) (S := fun w' => w'.cell? (ad284.add (x5_1).toNat) = some (.string (rdOf ByteArray.empty l0 x5_1))) (ds := []) #[false, false, false, false, false, false, false] (by kernel_rfl) rfl rfl (((HB.out.cell (World.block_lt_of_cell? w _ hw284_0)).trans hw284_0)) (fun hHeld => ?_)
      generalize wr.drew = w7 at HB hx284_0 hHeld ⊢
      refine pure_ (i := 0) (N := some 12) (v := ?_) (a' := ?_) #[true, false, false, false, false, false, false] rfl rfl (by kernel_rfl) (fun _ _ _ h => h) (Or.inl ⟨by rfl, ?_⟩) ?_ ?_
      rotate_left
      ·intro w'
       go_simp
       with_reducible rfl
      rotate_left
      ·simp only [Act.put, List.setIfInBounds_toArray, List.set_cons_zero, List.set_cons_succ, i64_w, i32_w]
       rfl
      refine pure_ (i := 1) (N := some 13) (v := ?_) (a' := ?_) #[true, true, false, false, false, false, false] rfl rfl (by kernel_rfl) (fun _ _ _ h => h) (Or.inl ⟨by rfl, ?_⟩) ?_ ?_
      rotate_left
      ·intro w'
       go_simp
       with_reducible rfl
      rotate_left
      ·simp only [Act.put, List.setIfInBounds_toArray, List.set_cons_zero, List.set_cons_succ, i64_w, i32_w]
       rfl
      refine pure_ (i := 2) (N := some 14) (v := ?_) (a' := ?_) #[true, true, true, false, false, false, false] rfl rfl (by kernel_rfl) (fun _ _ _ h => h) (Or.inl ⟨by rfl, ?_⟩) ?_ ?_
      rotate_left
      ·intro w'
       go_simp
       with_reducible rfl
      rotate_left
      ·simp only [Act.put, List.setIfInBounds_toArray, List.set_cons_zero, List.set_cons_succ, i64_w, i32_w]
       rfl
      refine pure_ (i := 4) (N := some 16) (v := ?_) (a' := ?_) #[true, true, true, false, true, false, false] rfl rfl (by kernel_rfl) (fun _ _ _ h => h) (Or.inl ⟨by rfl, ?_⟩) ?_ ?_
      rotate_left
      ·intro w'
       go_simp
       with_reducible rfl
      rotate_left
      ·simp only [Act.put, List.setIfInBounds_toArray, List.set_cons_zero, List.set_cons_succ, i64_w, i32_w]
       rfl
      refine take_ (i := 3) (N := some 15) (v := ?_) (a' := ?_) #[true, true, true, true, true, false, false] rfl rfl (by kernel_rfl) (fun _ _ _ h => h) (Or.inl ⟨by rfl, ?_⟩) hHeld ?_ ?_
      rotate_left
      ·intro w' s0
       go_simp
       with_reducible rfl
      rotate_left
      ·simp only [Act.put, List.setIfInBounds_toArray, List.set_cons_zero, List.set_cons_succ, i64_w, i32_w]
       rfl
      refine one_ (i := 5) (N := some 17) #[true, true, true, true, true, true, false] rfl rfl (by kernel_rfl) (by decide) (fun K hK => ?_)
      refine goes_ Try.func79 (by kernel_rfl) rfl #[.int .i64 x1_1] (by rfl) rfl rfl (by (try simp only [List.map_toArray, List.map_cons, List.map_nil]); first | done | rfl | (simp only [List.length_drop, List.length_take]; rfl)) ?_
      with_reducible refine (laws_markText.calls k1 x1_1 t285 _ A5.out).mono ?_
      rintro e w8 ⟨rfl, hb⟩
      refine ⟨_, rfl, ?_⟩
      have n0_ := Aside0.mk (below_step (by repeat (first | (with_reducible first | exact HB.out | apply below_alloc | apply pw_below_drewN | apply below_drew1) | exact HB.out)) hb)
      clear HB
      have HB := n0_
      clear n0_
      (try clear hb)
      (try clear hb2)
      (try clear hk)
      (try clear hi)
      refine hK.out _ _ (((HB.out.cell (World.block_lt_of_cell? w _ hw284_0)).trans hw284_0)) (fun hHeld => ?_)
      clear hK K
      refine norm_ (a' := ?_) ?_ ?_
      rotate_left
      ·show Act.put _ (some 17) _ = _
       simp only [Act.put, List.setIfInBounds_toArray, List.set_cons_zero, List.set_cons_succ, i64_w, i32_w]
       rfl
      refine pure_ (i := 6) (N := some 18) (v := ?_) (a' := ?_) #[true, true, true, true, true, true, true] rfl rfl (by kernel_rfl) (fun _ _ _ h => h) (Or.inl ⟨by rfl, ?_⟩) ?_ ?_
      rotate_left
      ·intro w'
       go_simp
       with_reducible rfl
      rotate_left
      ·simp only [Act.put, List.setIfInBounds_toArray, List.set_cons_zero, List.set_cons_succ, i64_w, i32_w]
       rfl
      refine done_ (by kernel_rfl) ?_
      try go_wp2
      go_roundg k1
      case measure => have := HK1.out; omega
      case rel => exact ⟨(wrap64 (x1_1 + 1)), (wrap64 (x5_1 + 1)), (by first | rfl | (simp; done) | (simp [*]; done)), (by first | rfl | (simp; done) | (simp [*]; done)), H', ⟨by have := HK1.out; omega⟩, ⟨by repeat (first | (with_reducible first | exact HB.out | apply below_alloc | apply pw_below_drewN | apply below_drew1) | exact HB.out)⟩⟩
     ·rw [if_neg c6] at H
      have c6b0 : ((rdOf ByteArray.empty l0 x5_1).toList == t285.toList) = false := beq_eq_false_iff_ne.mpr c6
      have c6b1 : ((rdOf ByteArray.empty l0 x5_1).toList != t285.toList) = true := bne_iff_ne.mpr c6
      obtain rfl := Option.some.inj H
      try go_wp2
      have n0_ := Aside0.mk (below_drew1 HB.out)
      clear HB
      have HB := n0_
      clear n0_
      have p284 : 0 ≤ (x5_1 : Int) := of_decide_eq_true (by first | (with_reducible assumption) | assumption)
      have q284 : x5_1 < (l0.length : Int) := of_decide_eq_true (by first | (with_reducible assumption) | assumption)
      obtain ⟨ad284, e284, hx284_0⟩ := Kd.at_string HR0.out x5_1 p284 q284
      have hw284_0 := hx284_0
      cases e284
      replace hx284_0 := (HB.out.cell (World.block_lt_of_cell? w _ hx284_0)).trans hx284_0
      replace p284 := eq_true p284
      replace q284 := eq_true q284
      refine start_ (n := 7) (S := fun w' => w'.cell? (ad284.add (x5_1).toNat) = some (.string (rdOf ByteArray.empty l0 x5_1))) (ds := []) #[false, false, false, false, false, false, false] (by kernel_rfl) rfl rfl (((HB.out.cell (World.block_lt_of_cell? w _ hw284_0)).trans hw284_0)) (fun hHeld => ?_)
      generalize wr.drew = w9 at HB hx284_0 hHeld ⊢
      refine pure_ (i := 0) (N := some 12) (v := ?_) (a' := ?_) #[true, false, false, false, false, false, false] rfl rfl (by kernel_rfl) (fun _ _ _ h => h) (Or.inl ⟨by rfl, ?_⟩) ?_ ?_
      rotate_left
      ·intro w'
       go_simp
       with_reducible rfl
      rotate_left
      ·simp only [Act.put, List.setIfInBounds_toArray, List.set_cons_zero, List.set_cons_succ, i64_w, i32_w]
       rfl
      refine pure_ (i := 1) (N := some 13) (v := ?_) (a' := ?_) #[true, true, false, false, false, false, false] rfl rfl (by kernel_rfl) (fun _ _ _ h => h) (Or.inl ⟨by rfl, ?_⟩) ?_ ?_
      rotate_left
      ·intro w'
       go_simp
       with_reducible rfl
      rotate_left
      ·simp only [Act.put, List.setIfInBounds_toArray, List.set_cons_zero, List.set_cons_succ, i64_w, i32_w]
       rfl
      refine pure_ (i := 2) (N := some 14) (v := ?_) (a' := ?_) #[true, true, true, false, false, false, false] rfl rfl (by kernel_rfl) (fun _ _ _ h => h) (Or.inl ⟨by rfl, ?_⟩) ?_ ?_
      rotate_left
      ·intro w'
       go_simp
       with_reducible rfl
      rotate_left
      ·simp only [Act.put, List.setIfInBounds_toArray, List.set_cons_zero, List.set_cons_succ, i64_w, i32_w]
       rfl
      refine pure_ (i := 4) (N := some 16) (v := ?_) (a' := ?_) #[true, true, true, false, true, false, false] rfl rfl (by kernel_rfl) (fun _ _ _ h => h) (Or.inl ⟨by rfl, ?_⟩) ?_ ?_
      rotate_left
      ·intro w'
       go_simp
       with_reducible rfl
      rotate_left
      ·simp only [Act.put, List.setIfInBounds_toArray, List.set_cons_zero, List.set_cons_succ, i64_w, i32_w]
       rfl
      refine take_ (i := 3) (N := some 15) (v := ?_) (a' := ?_) #[true, true, true, true, true, false, false] rfl rfl (by kernel_rfl) (fun _ _ _ h => h) (Or.inl ⟨by rfl, ?_⟩) hHeld ?_ ?_
      rotate_left
      ·intro w' s0
       go_simp
       with_reducible rfl
      rotate_left
      ·simp only [Act.put, List.setIfInBounds_toArray, List.set_cons_zero, List.set_cons_succ, i64_w, i32_w]
       rfl
      refine one_ (i := 5) (N := some 17) #[true, true, true, true, true, true, false] rfl rfl (by kernel_rfl) (by decide) (fun K hK => ?_)
      refine goes_ Try.func79 (by kernel_rfl) rfl #[.int .i64 x1_1] (by rfl) rfl rfl (by (try simp only [List.map_toArray, List.map_cons, List.map_nil]); first | done | rfl | (simp only [List.length_drop, List.length_take]; rfl)) ?_
      with_reducible refine (laws_markText.calls k1 x1_1 t285 _ A5.out).mono ?_
      rintro e w10 ⟨rfl, hb⟩
      refine ⟨_, rfl, ?_⟩
      have n0_ := Aside0.mk (below_step (by repeat (first | (with_reducible first | exact HB.out | apply below_alloc | apply pw_below_drewN | apply below_drew1) | exact HB.out)) hb)
      clear HB
      have HB := n0_
      clear n0_
      (try clear hb)
      (try clear hb2)
      (try clear hk)
      (try clear hi)
      refine hK.out _ _ (((HB.out.cell (World.block_lt_of_cell? w _ hw284_0)).trans hw284_0)) (fun hHeld => ?_)
      clear hK K
      refine norm_ (a' := ?_) ?_ ?_
      rotate_left
      ·show Act.put _ (some 17) _ = _
       simp only [Act.put, List.setIfInBounds_toArray, List.set_cons_zero, List.set_cons_succ, i64_w, i32_w]
       rfl
      refine pure_ (i := 6) (N := some 18) (v := ?_) (a' := ?_) #[true, true, true, true, true, true, true] rfl rfl (by kernel_rfl) (fun _ _ _ h => h) (Or.inl ⟨by rfl, ?_⟩) ?_ ?_
      rotate_left
      ·intro w'
       go_simp
       with_reducible rfl
      rotate_left
      ·simp only [Act.put, List.setIfInBounds_toArray, List.set_cons_zero, List.set_cons_succ, i64_w, i32_w]
       rfl
      refine done_ (by kernel_rfl) ?_
      try go_wp2
      go_ret
      exact ⟨by first | rfl | (simp [errW_none, errW_some] <;> rfl) | (simp [*, errW_none, errW_some] <;> rfl), by repeat (first | (with_reducible first | exact HB.out | apply below_alloc | apply pw_below_drewN | apply below_drew1) | exact HB.out)⟩
    ·rw [if_neg c4] at H
     exact absurd H (by simp)
   ·rw [if_neg c3] at H
    have c3b0 : decide (x5_1 < (l0.length : Int)) = false := decide_eq_false c3
    clear c3
    obtain rfl := Option.some.inj H
    go_wp2
    go_ret
    exact ⟨by first | rfl | (simp [errW_none, errW_some] <;> rfl) | (simp [*, errW_none, errW_some] <;> rfl), by repeat (first | (with_reducible first | exact HB.out | apply below_alloc | apply pw_below_drewN | apply below_drew1) | exact HB.out)⟩
end Go.Proofs.Ytkolhpmhbgbphaa.P
namespace Go.Proofs.Ytkolhpmhbgbphaa.PT
open Go.RowKit Go.Proofs.Ytkolhpmhbgbphaa.P Go.Proofs.YtkolhpmhbgbphaaW.PrintWords Go.Proofs.YtkolhpmhbgbphaaW.PrintLast Go.Proofs.Ytkolhpmhbgbphaa.EvKit
set_option linter.unusedSimpArgs false
set_option linter.unusedVariables false
theorem markText_l0 : ∀ (d : Nat) (a : Int) (s : ByteArray), a ≤ d → 0 ≤ a → s.size + d ≤ 4611686018427387904 → a ≤ 4611686018427387904 → ∃ r, Ev (fun k => laws_markText.l0 k a s) r := by
  intro d
  induction d with
  | zero =>
    intro a s h1 h2 h3 _
    refine ⟨(⟨#[109]⟩ : ByteArray) ++ s, Ev.succ ?_⟩
    · simp only [laws_markText.l0]
      exact Ev.neg (by omega) (Ev.pos (by omega) (Ev.now _))
  | succ d ih =>
    intro a s h1 h2 h3 h4
    by_cases h : a > 0
    · have e : Int.tdiv a 10 = a / 10 := Int.tdiv_eq_ediv_of_nonneg h2
      have e2 : wrap64 (Int.tdiv a 10) = a / 10 := by rw [e]; exact w64 (by omega) (by omega)
      have hs : ∀ (l : List Int), (strOfNums l).size = l.length := by intro l; simp [strOfNums, ByteArray.size]
      obtain ⟨r, hr⟩ := ih (a / 10) (strOfNums [wrap64 (48 + Int.tmod a 10) % 256] ++ s) (by omega) (by omega) (by rw [ByteArray.size_append, hs]; simp; omega) (by omega)
      refine ⟨r, Ev.succ ?_⟩
      simp only [laws_markText.l0, Option.bind_some, e2]
      exact Ev.pos h (Ev.pos (by rw [hs]; simp; omega) hr)
    · refine ⟨(⟨#[109]⟩ : ByteArray) ++ s, Ev.succ ?_⟩
      · simp only [laws_markText.l0]
        exact Ev.neg h (Ev.pos (by omega) (Ev.now _))
theorem markText_ex (a : Int) (h : a ≤ 1099511627776) : ∃ r, Ev (fun k => laws_markText.f k a) r := by
  by_cases h0 : a ≤ 0
  · exact ⟨_, Ev.pos h0 (Ev.now _)⟩
  · obtain ⟨r, hr⟩ := markText_l0 a.toNat a (⟨#[]⟩ : ByteArray) (by omega) (by omega) (by show 0 + a.toNat ≤ _; omega) (by omega)
    exact ⟨r, Ev.neg h0 hr⟩
open Classical in
noncomputable def mt (a : Int) : ByteArray := if h : ∃ r, Ev (fun k => laws_markText.f k a) r then h.choose else ⟨#[]⟩
theorem mt_ev {a : Int} (h : a ≤ 1099511627776) : Ev (fun k => laws_markText.f k a) (mt a) := by
  unfold mt
  rw [dif_pos (markText_ex a h)]
  exact (markText_ex a h).choose_spec
noncomputable def markStr : Int → List ByteArray → List ByteArray
  | _, [] => []
  | k, _ :: r => mt k :: markStr (k + 1) r
theorem markStr_len : ∀ (l : List ByteArray) (k : Int), (markStr k l).length = l.length
  | [], _ => rfl
  | _ :: r, k => by simp [markStr, markStr_len r (k + 1)]
noncomputable def markTm : Int → List Tm → List Tm
  | _, [] => []
  | k, _ :: r => ⟨mt k, k + 1⟩ :: markTm (k + 2) r
theorem markTm_len : ∀ (l : List Tm) (k : Int), (markTm k l).length = l.length
  | [], _ => rfl
  | _ :: r, k => by simp [markTm, markTm_len r (k + 2)]
theorem Ev.mark {α : Type} {F : Int → List α → List α} (st : Int) (hst : 0 ≤ st) (hF0 : ∀ k, F k [] = []) {f : Int → α → α} (hF : ∀ k x r, F k (x :: r) = f k x :: F (k + st) r) {g : Nat → List α → Int → Nat → Option (Int × List α)} (l : List α)
    (hend : ∀ xs k i, i = xs.length → Ev (fun q => g q xs k i) (k, xs)) (hstep : ∀ xs k i (h : i < xs.length) R, Ev (fun q => g q (xs.set i (f k xs[i])) (k + st) (i + 1)) R → k + st * (xs.length - i) ≤ 1099511627776 → 0 ≤ k → xs.length = l.length → Ev (fun q => g q xs k i) R)
    (k : Int) (h0 : 0 ≤ k) (hk : k + st * l.length ≤ 1099511627776) : Ev (fun q => g q l k 0) (k + st * l.length, F k l) := by
  have key : ∀ (r pre : List α) (k : Int), pre.length + r.length = l.length → 0 ≤ k → k + st * r.length ≤ 1099511627776 → Ev (fun q => g q (pre ++ r) k pre.length) (k + st * r.length, pre ++ F k r) := by
    intro r
    induction r with
    | nil =>
      intro pre k _ _ _
      rw [hF0]
      have := hend (pre ++ []) k pre.length (by simp)
      simpa using this
    | cons x r ih =>
      intro pre k hpl h0 hk
      have hl : ((x :: r).length : Int) = (r.length : Int) + 1 := by simp
      have hm : st * ((r.length : Int) + 1) = st * r.length + st := by rw [Int.mul_add, Int.mul_one]
      have hp : 0 ≤ st * (r.length : Int) := Int.mul_nonneg hst (by omega)
      rw [hl, hm] at hk ⊢
      have hlt : pre.length < (pre ++ x :: r).length := by simp
      refine hstep (pre ++ x :: r) k pre.length hlt _ ?_ ?_ h0 (by simpa using hpl)
      · have ih2 := ih (pre ++ [f k x]) (k + st) (by simp at hpl ⊢; omega) (by omega) (by omega)
        have e1 : (pre ++ x :: r).set pre.length (f k (pre ++ x :: r)[pre.length]) = (pre ++ [f k x]) ++ r := by
          rw [List.set_append_right _ _ (Nat.le_refl _)]
          simp
        rw [e1, hF]
        have e2 : (pre ++ [f k x]).length = pre.length + 1 := by simp
        rw [e2] at ih2
        have e3 : k + st + st * (r.length : Int) = k + (st * r.length + st) := by omega
        rw [e3] at ih2
        simpa using ih2
      · have : ((pre ++ x :: r).length : Int) - (pre.length : Int) = (r.length : Int) + 1 := by simp; omega
        rw [this, hm]; exact hk
  simpa using key l [] k (by simp) h0 hk
theorem markStringS_ev (l : List ByteArray) (k : Int) (h0 : 0 ≤ k) (hk : k + l.length ≤ 1099511627776) : Ev (fun q => laws_markStringS.f q l k) (k + l.length, markStr k l) := by
  unfold laws_markStringS.f
  have h := Ev.mark (F := markStr) 1 (by omega) (fun _ => rfl) (f := fun k _ => mt k) (fun k x r => rfl) (g := fun q xs k i => laws_markStringS.l0 q xs k (i : Int)) l (fun xs k i hi => Ev.succ (by
      simp only [laws_markStringS.l0]
      exact Ev.neg (by omega) (Ev.now _))) (fun xs k i hi R ih hb hk0 hxl => Ev.succ (by
      have h1 : (xs.length : Int) - i ≥ 1 := by omega
      simp only [laws_markStringS.l0, Int.toNat_natCast, w64n (show i ≤ 9223372036854775806 by omega), w64 (n := k + 1) (by omega) (by omega)]
      exact Ev.pos (by omega) (Ev.bind (mt_ev (by omega)) (Ev.pos (by omega) ih)))) k h0 (by omega)
  rwa [Int.one_mul] at h
theorem markTermS_ev (l : List Tm) (k : Int) (h0 : 0 ≤ k) (hk : k + 2 * l.length ≤ 1099511627776) : Ev (fun q => laws_markTermS.f q l k) (k + 2 * l.length, markTm k l) := by
  unfold laws_markTermS.f
  exact Ev.mark (F := markTm) 2 (by omega) (fun _ => rfl) (f := fun k _ => (⟨mt k, k + 1⟩ : Tm)) (fun k x r => rfl) (g := fun q xs k i => laws_markTermS.l0 q xs k (i : Int)) l (fun xs k i hi => Ev.succ (by
      simp only [laws_markTermS.l0]
      exact Ev.neg (by omega) (Ev.now _))) (fun xs k i hi R ih hb hk0 hxl => Ev.succ (by
      have h1 : (xs.length : Int) - i ≥ 1 := by omega
      have hx : rd_T185 (xs.set i (⟨mt k, (rd_T185 xs (i : Int)).f1⟩ : Tm)) (i : Int) = ⟨mt k, (rd_T185 xs (i : Int)).f1⟩ := (getD_at _ (by simpa using hi)).trans (by simp)
      simp only [laws_markTermS.l0, Int.toNat_natCast, w64n (show i ≤ 9223372036854775806 by omega), w64 (n := k + 1) (by omega) (by omega), w64 (n := k + 1 + 1) (by omega) (by omega)]
      refine Ev.pos (by omega) (Ev.bind (mt_ev (by omega)) (Ev.pos (by omega) ?_))
      simp only [Option.bind_some, hx, List.set_set]
      rw [show k + 1 + 1 = k + 2 by omega]
      exact ih)) k h0 (by omega)
theorem heldStringS_ev (l : List ByteArray) (k : Int) (h0 : 0 ≤ k) (hk : k + l.length ≤ 1099511627776) : Ev (fun q => laws_heldStringS.f q (markStr k l) k) (k + l.length) := by
  unfold laws_heldStringS.f
  have key : ∀ (r pre : List ByteArray) (j : Int), 0 ≤ j → j + r.length ≤ 1099511627776 → (pre.length : Int) + r.length ≤ 1099511627776 → Ev (fun q => laws_heldStringS.l0 q (pre ++ markStr j r) j (pre.length : Int)) (j + r.length) := by
    intro r
    induction r with
    | nil =>
      intro pre j _ _ _
      refine Ev.succ ?_
      simp only [laws_heldStringS.l0, markStr, List.append_nil]
      exact Ev.neg (by omega) (Ev.to (Ev.now _) (by simp))
    | cons x r ih =>
      intro pre j hj hb hq
      have hlen : ((x :: r).length : Int) = r.length + 1 := by simp
      rw [hlen] at hb hq ⊢
      have hlt : pre.length < (pre ++ markStr j (x :: r)).length := by simp [markStr]
      have hx : rdOf ByteArray.empty (pre ++ markStr j (x :: r)) (pre.length : Int) = mt j := (rdOf_at hlt).trans (by simp [markStr])
      have ih2 := ih (pre ++ [mt j]) (j + 1) (by omega) (by omega) (by simp; omega)
      have e1 : (pre ++ [mt j]) ++ markStr (j + 1) r = pre ++ markStr j (x :: r) := by simp [markStr]
      rw [e1] at ih2
      have hp : pre.length ≤ 9223372036854775806 := by omega
      · refine Ev.succ ?_
        simp only [laws_heldStringS.l0, hx, w64n hp, w64 (n := j + 1) (by omega) (by omega)]
        refine Ev.pos (by omega) (Ev.pos (by omega) (Ev.bind (mt_ev (by omega)) ?_))
        have e2 : (((pre ++ [mt j]).length : Nat) : Int) = ((pre.length + 1 : Nat) : Int) := by simp
        rw [e2] at ih2
        exact Ev.pos rfl (Ev.to ih2 (by omega))
  simpa using key l [] k h0 hk (by simp; omega)
end Go.Proofs.Ytkolhpmhbgbphaa.PT
namespace Go.Proofs.Ytkolhpmhbgbphaa.PT
open Go.RowKit Go.Proofs.Ytkolhpmhbgbphaa.P Go.Proofs.YtkolhpmhbgbphaaW.PrintWords Go.Proofs.YtkolhpmhbgbphaaW.PrintLast Go.Proofs.Ytkolhpmhbgbphaa.EvKit
set_option linter.unusedVariables false
set_option linter.unusedSimpArgs false
noncomputable def markAt : Int → List At → List At
  | _, [] => []
  | k, a :: r => ⟨mt k, markTm (k + 1) a.f1⟩ :: markAt (k + 1 + 2 * a.f1.length) r
def cntAt : List At → Int
  | [] => 0
  | a :: r => 1 + 2 * a.f1.length + cntAt r
theorem cntAt_ge : ∀ l, 0 ≤ cntAt l
  | [] => Int.le_refl _
  | a :: r => by simp only [cntAt]; have := cntAt_ge r; omega
def MarkPost (w0 w : World) (ok : Nat → Prop) (v : Value) (l : List At) (k : Int) (e : Ending) (w' : World) : Prop :=
  e = .returned (.int .i64 (k + cntAt l)) ∧ Kd.S k148 148 w' w0.heap.size (fun k_ => ok k_ ∨ w.heap.size ≤ k_) v (markAt k l) ∧ Below w0.heap.size w0 w' ∧ Kept w w' ok
set_option maxHeartbeats 8000000 in
set_option maxRecDepth 100000 in
theorem markAtomS_walk (ok : Nat → Prop) (v : Value) (l : List At) (k : Int) (w0 w : World) (hB : Below w0.heap.size w0 w) (hS : Kd.S k148 148 w w0.heap.size ok v l) (h0 : 0 ≤ k) (hk : k + cntAt l ≤ 1099511627776) :
    Calls Try.prog 78 #[v, .int .i64 k] w (MarkPost w0 w ok v l k) := by
  have hu2 := Try.underlying148
  have hlen : l.length ≤ 9223372036854775807 := by
    obtain ⟨A, c, _, _, hr⟩ := Kd.S_reads hS
    exact hr.2.1
  have HB := Aside0.mk hB
  have HT := Aside0.mk (Below.refl w.heap.size w)
  have HK := Aside0.mk hk
  cases hl : l with
  | nil =>
    subst hl
    obtain ⟨A, c, rfl⟩ := Kd.S_slice hS
    have HS := Aside0.mk hS
    clear hS hB hk
    go_enter Try.func78, Try.ntmps78
    go_wp2
    go_loop [5, 1] (fun i kk => i = .int .i64 0 ∧ kk = .int .i64 k) (fun _ _ => 0)
    case atStart => exact ⟨rfl, rfl⟩
    case round =>
      obtain ⟨rfl, rfl⟩ := hrel
      go_wp2
      go_ret
      exact ⟨by simp [cntAt], Kd.S_mono HS.out (fun _ h => .inl h), HB.out, Kept.refl _ _⟩
  | cons a0 r0 =>
    have hpos : 0 < l.length := by rw [hl]; simp
    rw [← hl]
    clear hl
    obtain ⟨g, cap, rfl, hg0, hg1, cells, hcells⟩ := Kd.S_form hS hpos
    have hgok : ok g := by
      obtain ⟨f, hR⟩ := hS
      exact hR.1 g (by simp [Value.ownBlock])
    have HG := Aside0.mk hgok
    have HG0 := Aside0.mk hg0
    have HS0 : Aside0 (Kd.S k148 148 w w0.heap.size (fun k_ => ok k_ ∨ w.heap.size ≤ k_) (.slice (some ⟨g, 0, none⟩) l.length cap) l) := ⟨Kd.S_mono hS (fun _ h => .inl h)⟩
    clear hS hB hk hgok hg0 hcells
    go_enter Try.func78, Try.ntmps78
    go_wp2
    go_loopw [5, 1] (fun i kk wr => ∃ (x kx : Int) (pre suf : List At), i = .int .i64 x ∧ kk = .int .i64 kx ∧ 0 ≤ x ∧ x = (pre.length : Int) ∧ pre.length + suf.length = l.length ∧ 0 ≤ kx ∧ Aside0 (kx + cntAt suf = k + cntAt l) ∧ Aside0 (pre ++ markAt kx suf = markAt k l) ∧
      Aside0 (Kd.S k148 148 wr w0.heap.size (fun k_ => ok k_ ∨ w.heap.size ≤ k_) (.slice (some ⟨g, 0, none⟩) l.length cap) (pre ++ suf)) ∧ Aside0 (Below w0.heap.size w0 wr) ∧ Aside0 (Kept w wr ok)) (fun i _ _ => l.length - (intOf i).toNat)
    case atStart => exact ⟨0, k, [], l, rfl, rfl, by omega, rfl, by simp, h0, ⟨rfl⟩, ⟨rfl⟩, ⟨HS0.out⟩, ⟨HB.out⟩, ⟨Kept.refl _ _⟩⟩
    case round =>
      clear HS0 HB HT
      obtain ⟨x, kx, pre, suf, rfl, rfl, hx0, hxp, hps, hk0, HC, HM, HS, HB, HKp⟩ := hrel
      cases suf with
      | nil =>
        have hge : ¬ x < (l.length : Int) := by simp at hps; omega
        have hge2 : decide (x < (l.length : Int)) = false := decide_eq_false hge
        have H1 : Aside0 (kx = k + cntAt l) := ⟨by have := HC.out; simpa [cntAt] using this⟩
        have H2 : Aside0 (pre = markAt k l) := ⟨by have := HM.out; simpa [markAt] using this⟩
        clear HC HM hps hxp
        go_wp2
        go_ret
        exact ⟨by rw [H1.out]; rfl, by rw [← H2.out]; simpa using HS.out, HB.out, HKp.out⟩
      | cons a r =>
        have hlt : x < (l.length : Int) := by simp at hps; omega
        have hlt2 : x.toNat < l.length := by omega
        have hel : (pre ++ a :: r).getD x.toNat z148 = a := by
          have : x.toNat = pre.length := by omega
          rw [this]; simp
        have hset : ∀ a', (pre ++ a :: r).set x.toNat a' = (pre ++ [a']) ++ r := by
          intro a'
          have : x.toNat = pre.length := by omega
          rw [this, List.set_append_right _ _ (Nat.le_refl _)]; simp
        obtain ⟨oki, c, hcl, hM0, hcell, hoki, hH⟩ := Kd.S_lend HS.out z148 x hx0 (by omega)
        rw [hel] at hM0
        obtain ⟨vt, rfl, ht⟩ := k148_openM hM0
        have hc0 : wr.cell? ⟨g, x.toNat * 2, none⟩ = some (.string a.f0) := hcell 0 _ rfl
        have hc1 : wr.cell? ⟨g, x.toNat * 2 + 1, none⟩ = some vt := hcell 1 _ rfl
        obtain ⟨inner, hown⟩ := Kd.S_own HS.out
        obtain ⟨cells2, hcells⟩ := own_typed hown g (by simp [Value.ownBlock])
        have hf0 : wr.frozen? ⟨g, x.toNat * 2, none⟩ = false := blk_frozen hcells _
        have hgl : g < wr.heap.size := (Array.getElem?_eq_some_iff.1 hcells).1
        have hcnt := cntAt_ge r
        have hsum : kx + (1 + 2 * (a.f1.length : Int) + cntAt r) ≤ 1099511627776 := by have h1 := HC.out; have h2 := HK.out; simp only [cntAt] at h1; omega
        have hk1 : kx + 1 ≤ 1099511627776 := by omega
        obtain ⟨kM, hkM⟩ := Ev.rounds (mt_ev (a := kx) (by omega))
        obtain ⟨kT, hkT⟩ := Ev.rounds (markTermS_ev a.f1 (kx + 1) (by omega) (by omega))
        have HkM := Aside0.mk hkM
        have HkT := Aside0.mk hkT
        have HH := Aside0.mk hH
        have Hok := Aside0.mk hoki
        have Ht := Aside0.mk ht
        have Hel := Aside0.mk hset
        have Hps : Aside0 (x = (pre.length : Int) ∧ pre.length + (r.length + 1) = l.length) := ⟨hxp, by simpa using hps⟩
        clear hkM hkT hH hoki ht hset hel hcell hM0 hcl hcells hown hps hxp hcnt
        have hge2 : decide (x < (l.length : Int)) = true := decide_eq_true hlt
        go_wp2_with (first | (go_at_call 79; refine (laws_markText.calls kM kx (mt kx) _ HkM.out).mono ?_; rintro e w1 ⟨rfl, hb1⟩; have d0 : w1.cell? ⟨g, x.toNat * 2, none⟩ = some (.string a.f0) := (hb1.cell (p := ⟨g, x.toNat * 2, none⟩) hgl).trans hc0; have d1 : w1.cell? ⟨g, x.toNat * 2 + 1, none⟩ = some vt := (hb1.cell (p := ⟨g, x.toNat * 2 + 1, none⟩) hgl).trans hc1; have d2 : w1.frozen? ⟨g, x.toNat * 2, none⟩ = false := (hb1.frozen (p := ⟨g, x.toNat * 2, none⟩) hgl).trans hf0) | (go_at_call 154; (with_reducible refine (laws_markTermS.calls kT oki vt a.f1 (kx + 1) _ _ w0 _ (below_set (below_step HB.out hb1) HG0.out) (Kd.R_far (Kd.R_below Ht.out hb1) (fun k hk => (Hok.out k hk).2) _) HkT.out).mono ?_); rintro e w3 ⟨rfl, hr3, hb3, hk3⟩))
        have hsz : w.heap.size ≤ (w1.setCell ⟨g, x.toNat * 2, none⟩ (.string (mt kx))).heap.size := by
          have h1 := HKp.out.1; have h2 := hb1.size; simp; omega
        have hH2 : Kd.H k148 148 (w1.setCell ⟨g, x.toNat * 2, none⟩ (.string (mt kx))) w0.heap.size (fun k_ => ok k_ ∨ w.heap.size ≤ k_) (.slice (some ⟨g, 0, none⟩) l.length cap) (pre ++ a :: r) x oki [.string (mt kx), vt] :=
          (Kd.H_seg (Kd.H_below HH.out hb1) hx0 hlt (seg := [.string (mt kx)]) (j := 0) (by show 0 + 1 ≤ 2; omega) (by simp [Value.oneCell'])).1
        have hH3 := Kd.H_step (Kd.H_widen hH2) (w1 := w3) (fun q hq hn hlt => hk3.2 q hlt (fun ho => hn (.inl ho)))
        have hS3 := Kd.H_back hH3 (x' := (⟨mt kx, markTm (kx + 1) a.f1⟩ : At)) (k148_mkM _ _ _ _ hr3) (fun q hq => hq.elim .inl (fun h => .inr ⟨.inr (Nat.le_trans hsz h), h⟩))
        rw [Hel.out] at hS3
        have hKf : Kept w w3 ok := ((HKp.out.below hb1).setCell (p := ⟨g, x.toNat * 2, none⟩) (.inl HG.out) _).then_ hk3 (fun q hq => (Hok.out q hq).1)
        go_roundw
        case rel => exact ⟨x + 1, kx + 1 + 2 * (a.f1.length : Int), pre ++ [⟨mt kx, markTm (kx + 1) a.f1⟩], r, rfl, rfl, by omega, by have := Hps.out.1; simp; omega, by have := Hps.out.2; simp; omega, by omega, ⟨by have := HC.out; simp only [cntAt] at this; omega⟩, ⟨by have := HM.out; simp only [markAt] at this; simpa using this⟩, ⟨hS3⟩, ⟨hb3⟩, ⟨hKf⟩⟩
        case measure => simp [intOf]; omega
def MarkQPost (w0 w : World) (ok : Nat → Prop) (v1 v3 : Value) (hd : List ByteArray) (l : List At) (k : Int) (e : Ending) (w' : World) : Prop :=
  e = .returned (.int .i64 (k + hd.length + cntAt l)) ∧ Kd.R Kd.string 9 w' w0.heap.size (fun k_ => True) v1 (markStr k hd) ∧ Kd.S k148 148 w' w0.heap.size (fun k_ => True) v3 (markAt (k + hd.length) l) ∧ Below w0.heap.size w0 w' ∧ Kept w w' ok
set_option maxHeartbeats 8000000 in
set_option maxRecDepth 100000 in
theorem markQuery_walk (ok1 ok3 : Nat → Prop) (nm : ByteArray) (v1 : Value) (hd : List ByteArray) (rg : Int) (v3 : Value) (l : List At) (k : Int) (w0 w : World) (hB : Below w0.heap.size w0 w) (hR : Kd.R Kd.string 9 w w0.heap.size ok1 v1 hd) (hS : Kd.S k148 148 w w0.heap.size ok3 v3 l)
    (hap : ∀ q, ok1 q → ¬ ok3 q) (h0 : 0 ≤ k) (hk : k + hd.length + cntAt l ≤ 1099511627776) :
    Calls Try.prog 27 #[.agg #[.string nm, v1, .int .i64 rg, v3], .int .i64 k] w (MarkQPost w0 w (fun q => ok1 q ∨ ok3 q) v1 v3 hd l k) := by
  have hu1 := Try.underlying39
  have hc := cntAt_ge l
  obtain ⟨kS, hkS⟩ := Ev.rounds (markStringS_ev hd k h0 (by omega))
  have HkS := Aside0.mk hkS
  have HB := Aside0.mk hB
  have HR : Aside0 (Kd.R Kd.string 9 w w0.heap.size (fun q => ok1 q ∧ q < w.heap.size) v1 hd) := ⟨Kd.R_mono (Kd.R_bound hR) (fun q hq => ⟨hq.1, hq.2.2.1⟩)⟩
  have HS : Aside0 (Kd.S k148 148 w w0.heap.size (fun q => ok3 q ∧ q < w.heap.size) v3 l) := ⟨Kd.S_mono (Kd.S_bound hS) (fun q hq => ⟨hq.1, hq.2.2.1⟩)⟩
  have HA : Aside0 (∀ q, ok1 q → ¬ ok3 q) := ⟨hap⟩
  have HK := Aside0.mk hk
  have HN : Aside0 (0 ≤ k + (hd.length : Int)) := ⟨by omega⟩
  obtain ⟨A1, c1, rfl⟩ := Kd.R_slice hR
  obtain ⟨A3, c3, rfl⟩ := Kd.S_slice hS
  clear hkS hB hR hS hap hk hc
  go_enter Try.func27, Try.ntmps27
  go_wp2_with (first | (go_at_call 28; (with_reducible refine (laws_markStringS.calls kS (fun q => ok1 q ∧ q < w.heap.size) _ hd k _ _ w0 _ (below_alloc HB.out _) (Kd.R_alloc HR.out _) HkS.out).mono ?_); rintro e w1 ⟨rfl, hr1, hb1, hk1⟩; have HK1 : Aside0 (Kept w w1 ok1) := ⟨(Kept.alloc (Kept.refl w ok1) _).then_ hk1 (fun _ h => .inl h.1)⟩; have HZ1 : Aside0 (w.heap.size + 1 ≤ w1.heap.size) := ⟨by have := hk1.1; simpa using this⟩; have HR1 := Aside0.mk hr1; have HB1 := Aside0.mk hb1; have HS1 : Aside0 (Kd.S k148 148 w1 w0.heap.size (fun q => ok3 q ∧ q < w.heap.size) (.slice A3 l.length c3) l) := ⟨Kd.S_step HS.out (fun q hq hlt => HK1.out.2 q hlt (fun h => HA.out q h hq.1))⟩; have hblk := hk1.2 w.heap.size (by simp) (fun h => Nat.lt_irrefl _ h.2); have e3 : w1.cell? ⟨w.heap.size, 3, none⟩ = some (.slice A3 l.length c3) := (by unfold World.cell?; rw [show w1.heap[(⟨w.heap.size, 3, none⟩ : Addr).block]? = some _ from hblk.trans (heap_alloc_new w _)]; rfl); clear hr1 hb1 hk1 hblk) | (go_at_call 78; (with_reducible refine (markAtomS_walk (fun q => ok3 q ∧ q < w.heap.size) _ l (k + (hd.length : Int)) w0 _ HB1.out HS1.out HN.out HK.out).mono ?_); intro e w2 hp2; obtain rfl := hp2.1))
  go_ret
  obtain ⟨he, hs2, hb2, hk2⟩ := hp2
  exact ⟨rfl, Kd.R_mono (Kd.R_step HR1.out (fun q hq hlt => hk2.2 q hlt (fun h => hq.elim (fun h1 => HA.out q h1.1 h.1) (fun h1 => by have := h.2; simp at h1; omega)))) (fun _ _ => trivial), Kd.S_mono hs2 (fun _ _ => trivial), hb2,
    (HK1.out.mono (fun _ h => .inl h)).then_ hk2 (fun q h => .inl (.inr h.1))⟩
end Go.Proofs.Ytkolhpmhbgbphaa.PT
namespace Go.Proofs.Ytkolhpmhbgbphaa.P
open Go.RowKit Go.Proofs.YtkolhpmhbgbphaaW.PrintWords Go.Proofs.YtkolhpmhbgbphaaW.PrintLast Go.Proofs.YtkolhpmhbgbphaaW.PrintMore
attribute [local go_sem] max2_int min2_int max_two min_two max_three min_three max_four min_four
set_option linter.unusedVariables false
set_option linter.unusedSimpArgs false
def spec_Variables.f (k : Nat) (a0_0 : ByteArray) (l0_1 : List ByteArray) (a0_2 : Int) (l0_3 : List (S148)) : Option (List ByteArray) := (spec_l3ShapeOK.f k a0_0 l0_1 a0_2 l0_3).bind fun t193 => (if t193 = true then ((spec_l3Vars.f k a0_0 l0_1 a0_2 l0_3).bind fun t194 => (some t194)) else (some (([] : List ByteArray))))
theorem spec_Variables.mono : ∀ a0 a1 a2 a3 k, LeO (spec_Variables.f k a0 a1 a2 a3) (spec_Variables.f (k + 1) a0 a1 a2 a3) := by
 intro a0 a1 a2 a3 k
 unfold spec_Variables.f
 repeat' first
   | (with_reducible exact spec_l3ShapeOK.mono _ _ _ _ _)
   | (with_reducible exact spec_l3Vars.mono _ _ _ _ _)
   | (with_reducible exact LeO.refl _)
   | (with_reducible exact LeO.none _)
   | (with_reducible refine LeO.ite ?_ ?_)
   | (with_reducible refine LeO.bind ?_ (fun _ => ?_))
   | exact spec_l3ShapeOK.mono _ _ _ _ _
   | exact spec_l3Vars.mono _ _ _ _ _
   | exact LeO.none _
   | refine LeO.ite ?_ ?_
   | refine LeO.bind ?_ (fun _ => ?_)
set_option maxHeartbeats 8000000 in
set_option maxRecDepth 100000 in
theorem spec_Variables.calls (k : Nat) (a0_0 : ByteArray) (A0_1 : Option Addr) (c0_1 : Nat) (l0_1 : List ByteArray) (a0_2 : Int) (A0_3 : Option Addr) (c0_3 : Nat) (l0_3 : List (S148)) (r : List ByteArray) (w : World) (hr0_1 : Kd.C Kd.string w A0_1 l0_1.length l0_1) (hc0_1 : l0_1.length ≤ c0_1) (hr0_3 : Kd.C k148 w A0_3 l0_3.length l0_3) (hc0_3 : l0_3.length ≤ c0_3) (h : spec_Variables.f k a0_0 l0_1 a0_2 l0_3 = some r) :
  Calls Try.prog 22 #[.agg #[.string a0_0, .slice A0_1 l0_1.length c0_1, .int .i64 a0_2, .slice A0_3 l0_3.length c0_3]] w fun e w' => ∃ v0_ : Value, e = .returned (v0_) ∧ Kd.R Kd.string 9 w' w.heap.size (fun _ => True) v0_ r ∧ Below w.heap.size w w' := by
 have hu39 := Try.underlying39
 have HR0_1 := Aside0.mk hr0_1
 have HC0_1 := Aside0.mk hc0_1
 clear hr0_1 hc0_1
 have HR0_3 := Aside0.mk hr0_3
 have HC0_3 := Aside0.mk hc0_3
 clear hr0_3 hc0_3
 have HB := Aside0.mk (Below.refl w.heap.size w)
 have H : ((spec_l3ShapeOK.f k a0_0 l0_1 a0_2 l0_3).bind fun t193 => (if t193 = true then ((spec_l3Vars.f k a0_0 l0_1 a0_2 l0_3).bind fun t194 => (some t194)) else (some (([] : List ByteArray))))) = some r := h
 clear h
 replace H := Option.bind_eq_some_iff.mp H
 obtain ⟨t193, A20, H⟩ := H
 replace H : (if t193 = true then ((spec_l3Vars.f k a0_0 l0_1 a0_2 l0_3).bind fun t194 => (some t194)) else (some (([] : List ByteArray)))) = some r := H
 have A2 := Aside0.mk A20
 clear A20
 by_cases c3 : t193 = true
 ·subst c3
  have H1 : ((spec_l3Vars.f k a0_0 l0_1 a0_2 l0_3).bind fun t194 => (some t194)) = some r := by rw [if_pos rfl] at H; exact H
  clear H
  have H := H1
  clear H1
  replace H := Option.bind_eq_some_iff.mp H
  obtain ⟨t194, A40, H⟩ := H
  replace H : (some t194) = some r := H
  have A4 := Aside0.mk A40
  clear A40
  obtain rfl := Option.some.inj H
  go_enter Try.func22, Try.ntmps22
  go_wp2_with (first | ((with_reducible refine gate_dst (N := 1) rfl ?_); refine box_event ?hg (N := 1) ?hd (cs := #[.string a0_0, .slice A0_1 l0_1.length c0_1, .int .i64 a0_2, .slice A0_3 l0_3.length c0_3]) (t := 39) ?hr ?_; (case hd => rfl); (case hg => rfl); (case hr => first | (go_simp; done) | (go_simp; rfl)); intro gb192 hg w5 hbox hb; have n0_ := Aside0.mk (below_step (by repeat (first | (with_reducible first | exact HB.out | apply below_alloc | apply pw_below_drewN | apply below_drew1) | exact HB.out)) hb); have n1_ := Aside0.mk (hbox); have n2_ := Aside0.mk ((by rw [hg]; exact (below_size (by repeat (first | (with_reducible first | exact HB.out | apply below_alloc | apply pw_below_drewN | apply below_drew1) | exact HB.out))) : w.heap.size ≤ gb192)); have n3_ := Aside0.mk ((by rw [hg]; exact (below_size (by repeat (first | (with_reducible first | exact HB.out | apply below_alloc | apply pw_below_drewN | apply below_drew1) | exact HB.out))) : w.heap.size ≤ gb192)); clear HB; have HB := n0_; have BK192 := n1_; have GW192 := n2_; have GE192 := n3_; clear n0_ n1_ n2_ n3_; clear hb hbox hg; have hcz6_0 : w5.cell? ⟨gb192, 0, none⟩ = some (.string a0_0) := (blk_cell BK192.out 0).trans rfl; have hcz6_1 : w5.cell? ⟨gb192, 1, none⟩ = some (.slice A0_1 l0_1.length c0_1) := (blk_cell BK192.out 1).trans rfl; have hcz6_2 : w5.cell? ⟨gb192, 2, none⟩ = some (.int .i64 a0_2) := (blk_cell BK192.out 2).trans rfl; have hcz6_3 : w5.cell? ⟨gb192, 3, none⟩ = some (.slice A0_3 l0_3.length c0_3) := (blk_cell BK192.out 3).trans rfl; have hfz6_0 := blk_frozen BK192.out 0; have hfz6_1 := blk_frozen BK192.out 1; have hfz6_2 := blk_frozen BK192.out 2; have hfz6_3 := blk_frozen BK192.out 3) | ((with_reducible refine gate_callee (f := 71) rfl ?_); refine goesL_ (some 4) rfl rfl Try.func71 (by kernel_rfl) rfl #[.agg #[.string a0_0, .slice A0_1 l0_1.length c0_1, .int .i64 a0_2, .slice A0_3 l0_3.length c0_3]] rfl (by (try simp only [List.map_toArray, List.map_cons, List.map_nil]); first | done | rfl | (simp only [List.length_drop, List.length_take]; rfl)) ?_; (with_reducible refine (spec_l3ShapeOK.calls k a0_0 _ _ l0_1 a0_2 _ _ l0_3 true _ ?side1 ?side2 ?side3 ?side4 A2.out).mono ?_); (case side1 => repeat (first | exact (Kd.C_below HR0_1.out HB.out) | (with_reducible refine Kd.C_alloc ?_ _) | (with_reducible refine Kd.C_drewN ?_ _) | (with_reducible refine Kd.C_drew ?_))); (case side2 => exact HC0_1.out); (case side3 => repeat (first | exact (Kd.C_below HR0_3.out HB.out) | (with_reducible refine Kd.C_alloc ?_ _) | (with_reducible refine Kd.C_drewN ?_ _) | (with_reducible refine Kd.C_drew ?_))); (case side4 => exact HC0_3.out); rintro e w7 ⟨rfl, hb⟩; refine ⟨_, rfl, ?_⟩; have n0_ := Aside0.mk (blk_below (g := gb192) (o := .cells #[.string a0_0, .slice A0_1 l0_1.length c0_1, .int .i64 a0_2, .slice A0_3 l0_3.length c0_3] 39 (0, 0)) (by (with_reducible repeat (first | refine blk_drewN ?_ _ | refine blk_drew ?_ | refine blk_alloc ?_ _)); exact BK192.out) hb); have n1_ := Aside0.mk (below_step (by repeat (first | (with_reducible first | exact HB.out | apply below_alloc | apply pw_below_drewN | apply below_drew1 | refine below_set ?_ GE192.out) | exact HB.out)) hb); clear BK192; clear HB; have BK192 := n0_; have HB := n1_; clear n0_ n1_; (try clear hb); (try clear hb2); (try clear hk); (try clear hi); have hcz8_0 : w7.cell? ⟨gb192, 0, none⟩ = some (.string a0_0) := (blk_cell BK192.out 0).trans rfl; have hcz8_1 : w7.cell? ⟨gb192, 1, none⟩ = some (.slice A0_1 l0_1.length c0_1) := (blk_cell BK192.out 1).trans rfl; have hcz8_2 : w7.cell? ⟨gb192, 2, none⟩ = some (.int .i64 a0_2) := (blk_cell BK192.out 2).trans rfl; have hcz8_3 : w7.cell? ⟨gb192, 3, none⟩ = some (.slice A0_3 l0_3.length c0_3) := (blk_cell BK192.out 3).trans rfl; have hfz8_0 := blk_frozen BK192.out 0; have hfz8_1 := blk_frozen BK192.out 1; have hfz8_2 := blk_frozen BK192.out 2; have hfz8_3 := blk_frozen BK192.out 3) | ((with_reducible refine gate_callee (f := 72) rfl ?_); refine goesL_ (some 8) rfl rfl Try.func72 (by kernel_rfl) rfl #[.agg #[.string a0_0, .slice A0_1 l0_1.length c0_1, .int .i64 a0_2, .slice A0_3 l0_3.length c0_3]] rfl (by (try simp only [List.map_toArray, List.map_cons, List.map_nil]); first | done | rfl | (simp only [List.length_drop, List.length_take]; rfl)) ?_; (with_reducible refine (spec_l3Vars.calls k a0_0 _ _ l0_1 a0_2 _ _ l0_3 t194 _ ?side1 ?side2 ?side3 ?side4 A4.out).mono ?_); (case side1 => repeat (first | exact (Kd.C_below HR0_1.out HB.out) | (with_reducible refine Kd.C_alloc ?_ _) | (with_reducible refine Kd.C_drewN ?_ _) | (with_reducible refine Kd.C_drew ?_))); (case side2 => exact HC0_1.out); (case side3 => repeat (first | exact (Kd.C_below HR0_3.out HB.out) | (with_reducible refine Kd.C_alloc ?_ _) | (with_reducible refine Kd.C_drewN ?_ _) | (with_reducible refine Kd.C_drew ?_))); (case side4 => exact HC0_3.out); rintro e w9 ⟨v195, rfl, ho0, hb⟩; refine ⟨_, rfl, ?_⟩; have n0_ := Aside0.mk (Kd.R_lower ho0 (below_size (by repeat (first | (with_reducible first | exact HB.out | apply below_alloc | apply pw_below_drewN | apply below_drew1 | refine below_set ?_ GE192.out) | exact HB.out)))); have n1_ := Aside0.mk (blk_below (g := gb192) (o := .cells #[.string a0_0, .slice A0_1 l0_1.length c0_1, .int .i64 a0_2, .slice A0_3 l0_3.length c0_3] 39 (0, 0)) (by (with_reducible repeat (first | refine blk_drewN ?_ _ | refine blk_drew ?_ | refine blk_alloc ?_ _)); exact BK192.out) hb); have n2_ := Aside0.mk (below_step (by repeat (first | (with_reducible first | exact HB.out | apply below_alloc | apply pw_below_drewN | apply below_drew1 | refine below_set ?_ GE192.out) | exact HB.out)) hb); clear BK192; clear HB; have HO196 := n0_; have BK192 := n1_; have HB := n2_; clear n0_ n1_ n2_; (try clear hb); (try clear hb2); (try clear hk); (try clear hi); (try clear ho0)))
  go_ret
  exact ⟨_, by first | rfl | (simp [errW_none, errW_some] <;> rfl) | (simp [*, errW_none, errW_some] <;> rfl), by (with_reducible repeat (first | apply Kd.R_alloc | apply Kd.R_drewN | apply Kd.R_drew)); exact HO196.out, by repeat (first | (with_reducible first | exact HB.out | apply below_alloc | apply pw_below_drewN | apply below_drew1 | refine below_set ?_ GE192.out) | exact HB.out)⟩
 ·replace c3 := Bool.eq_false_iff.mpr c3
  subst c3
  have H1 : (some (([] : List ByteArray))) = some r := by rw [if_neg (show ¬ (false = true) by decide)] at H; exact H
  clear H
  have H := H1
  clear H1
  obtain ⟨y197, hy197⟩ : ∃ y_ : List ByteArray, y_ = (([] : List ByteArray)) := ⟨_, rfl⟩
  replace H : (some y197) = some r := by first | (rw [hy197]; with_reducible exact H) | (have H2_ := (Option.bind_some _ _).symm.trans H; rw [hy197]; with_reducible exact H2_) | (have H2_ := (Option.bind_some _ _).symm.trans H; with_reducible exact H2_) | with_reducible exact H | (rw [hy197]; exact H) | exact H
  have Ny197 := Aside0.mk hy197
  clear hy197
  obtain rfl := Option.some.inj H
  go_enter Try.func22, Try.ntmps22
  go_wp2_with (first | ((with_reducible refine gate_dst (N := 1) rfl ?_); refine box_event ?hg (N := 1) ?hd (cs := #[.string a0_0, .slice A0_1 l0_1.length c0_1, .int .i64 a0_2, .slice A0_3 l0_3.length c0_3]) (t := 39) ?hr ?_; (case hd => rfl); (case hg => rfl); (case hr => first | (go_simp; done) | (go_simp; rfl)); intro gb192 hg w10 hbox hb; have n0_ := Aside0.mk (below_step (by repeat (first | (with_reducible first | exact HB.out | apply below_alloc | apply pw_below_drewN | apply below_drew1) | exact HB.out)) hb); have n1_ := Aside0.mk (hbox); have n2_ := Aside0.mk ((by rw [hg]; exact (below_size (by repeat (first | (with_reducible first | exact HB.out | apply below_alloc | apply pw_below_drewN | apply below_drew1) | exact HB.out))) : w.heap.size ≤ gb192)); have n3_ := Aside0.mk ((by rw [hg]; exact (below_size (by repeat (first | (with_reducible first | exact HB.out | apply below_alloc | apply pw_below_drewN | apply below_drew1) | exact HB.out))) : w.heap.size ≤ gb192)); clear HB; have HB := n0_; have BK192 := n1_; have GW192 := n2_; have GE192 := n3_; clear n0_ n1_ n2_ n3_; clear hb hbox hg; have hcz11_0 : w10.cell? ⟨gb192, 0, none⟩ = some (.string a0_0) := (blk_cell BK192.out 0).trans rfl; have hcz11_1 : w10.cell? ⟨gb192, 1, none⟩ = some (.slice A0_1 l0_1.length c0_1) := (blk_cell BK192.out 1).trans rfl; have hcz11_2 : w10.cell? ⟨gb192, 2, none⟩ = some (.int .i64 a0_2) := (blk_cell BK192.out 2).trans rfl; have hcz11_3 : w10.cell? ⟨gb192, 3, none⟩ = some (.slice A0_3 l0_3.length c0_3) := (blk_cell BK192.out 3).trans rfl; have hfz11_0 := blk_frozen BK192.out 0; have hfz11_1 := blk_frozen BK192.out 1; have hfz11_2 := blk_frozen BK192.out 2; have hfz11_3 := blk_frozen BK192.out 3) | ((with_reducible refine gate_callee (f := 71) rfl ?_); refine goesL_ (some 4) rfl rfl Try.func71 (by kernel_rfl) rfl #[.agg #[.string a0_0, .slice A0_1 l0_1.length c0_1, .int .i64 a0_2, .slice A0_3 l0_3.length c0_3]] rfl (by (try simp only [List.map_toArray, List.map_cons, List.map_nil]); first | done | rfl | (simp only [List.length_drop, List.length_take]; rfl)) ?_; (with_reducible refine (spec_l3ShapeOK.calls k a0_0 _ _ l0_1 a0_2 _ _ l0_3 false _ ?side1 ?side2 ?side3 ?side4 A2.out).mono ?_); (case side1 => repeat (first | exact (Kd.C_below HR0_1.out HB.out) | (with_reducible refine Kd.C_alloc ?_ _) | (with_reducible refine Kd.C_drewN ?_ _) | (with_reducible refine Kd.C_drew ?_))); (case side2 => exact HC0_1.out); (case side3 => repeat (first | exact (Kd.C_below HR0_3.out HB.out) | (with_reducible refine Kd.C_alloc ?_ _) | (with_reducible refine Kd.C_drewN ?_ _) | (with_reducible refine Kd.C_drew ?_))); (case side4 => exact HC0_3.out); rintro e w12 ⟨rfl, hb⟩; refine ⟨_, rfl, ?_⟩; have n0_ := Aside0.mk (blk_below (g := gb192) (o := .cells #[.string a0_0, .slice A0_1 l0_1.length c0_1, .int .i64 a0_2, .slice A0_3 l0_3.length c0_3] 39 (0, 0)) (by (with_reducible repeat (first | refine blk_drewN ?_ _ | refine blk_drew ?_ | refine blk_alloc ?_ _)); exact BK192.out) hb); have n1_ := Aside0.mk (below_step (by repeat (first | (with_reducible first | exact HB.out | apply below_alloc | apply pw_below_drewN | apply below_drew1 | refine below_set ?_ GE192.out) | exact HB.out)) hb); clear BK192; clear HB; have BK192 := n0_; have HB := n1_; clear n0_ n1_; (try clear hb); (try clear hb2); (try clear hk); (try clear hi)) | ((with_reducible refine gate_dst (N := 6) rfl ?_); refine Kd.R_lit Kd.string _ 9 ?hg (N := 6) ?hd (xs := ([] : List ByteArray)) (inner := []) (ok := fun _ => True) (okp := fun _ => True) ?hr ?hp (fun _ hk => hk) trivial (Below.refl _ _) (Nat.le_refl _) (by simp) ?_; (case hd => rfl); (case hg => rfl); (case hr => first | (go_simp; done) | (go_simp; rfl)); (case hp => exact (Reps.none _ _)); intro v198 w13 ho14 hb hg_ hnew_; clear hg_ hnew_; (first | rw [← Ny197.out] at ho14 | (simp only [Int.reduceToNat] at ho14; rw [← Ny197.out] at ho14)); have n0_ := Aside0.mk (Kd.R_lower ho14 (below_size (by repeat (first | (with_reducible first | exact HB.out | apply below_alloc | apply pw_below_drewN | apply below_drew1 | refine below_set ?_ GE192.out) | exact HB.out)))); have n1_ := Aside0.mk (blk_below (g := gb192) (o := .cells #[.string a0_0, .slice A0_1 l0_1.length c0_1, .int .i64 a0_2, .slice A0_3 l0_3.length c0_3] 39 (0, 0)) (by (with_reducible repeat (first | refine blk_drewN ?_ _ | refine blk_drew ?_ | refine blk_alloc ?_ _)); exact BK192.out) hb); have n2_ := Aside0.mk (below_step (by repeat (first | (with_reducible first | exact HB.out | apply below_alloc | apply pw_below_drewN | apply below_drew1 | refine below_set ?_ GE192.out) | exact HB.out)) hb); clear BK192; clear HB; have HO199 := n0_; have BK192 := n1_; have HB := n2_; clear n0_ n1_ n2_; clear hb ho14))
  go_ret
  exact ⟨_, by first | rfl | (simp [errW_none, errW_some] <;> rfl) | (simp [*, errW_none, errW_some] <;> rfl), by (with_reducible repeat (first | apply Kd.R_alloc | apply Kd.R_drewN | apply Kd.R_drew)); exact HO199.out, by repeat (first | (with_reducible first | exact HB.out | apply below_alloc | apply pw_below_drewN | apply below_drew1 | refine below_set ?_ GE192.out) | exact HB.out)⟩
end Go.Proofs.Ytkolhpmhbgbphaa.P
namespace Go.Proofs.Ytkolhpmhbgbphaa.PT
open Go.RowKit Go.Proofs.Ytkolhpmhbgbphaa.P Go.Proofs.YtkolhpmhbgbphaaW.PrintWords Go.Proofs.YtkolhpmhbgbphaaW.PrintLast Go.Proofs.Ytkolhpmhbgbphaa.MapKit Go.Proofs.Ytkolhpmhbgbphaa.EvKit
set_option linter.unusedVariables false
set_option linter.unusedSimpArgs false
noncomputable def varsV (nm : ByteArray) (hd : List ByteArray) (rg : Int) (l : List At) : List ByteArray := if shapeB nm hd rg l = true then varsF l else []
theorem specVariables_ev (nm : ByteArray) (hd : List ByteArray) (rg : Int) (l : List At) (hh : hd.length ≤ 9223372036854775806) (hl : l.length ≤ 9223372036854775806) (hts : ∀ a, a ∈ l → a.f1.length ≤ 9223372036854775806) (hN : (varsF l).length ≤ 1048576) :
    Ev (fun k => spec_Variables.f k nm hd rg l) (varsV nm hd rg l) := by
  unfold spec_Variables.f varsV
  refine Ev.bind (sshape_ev nm hd rg l hh hl hts) ?_
  by_cases h : shapeB nm hd rg l = true
  · rw [if_pos h]; exact Ev.pos h (Ev.bind (l3Vars_ev nm hd rg l hl hts hN) (Ev.now _))
  · rw [if_neg h]; exact Ev.neg h (Ev.now _)
set_option maxHeartbeats 8000000 in
set_option maxRecDepth 100000 in
theorem variablesTop_walk (a1 : ByteArray) (A1 : Option Addr) (c1 : Nat) (l1 : List ByteArray) (a2 : Int) (A3 : Option Addr) (c3 : Nat) (l3 : List At) (w : World) (hr1 : Kd.C Kd.string w A1 l1.length l1) (hc1 : l1.length ≤ c1) (hr3 : Kd.C k148 w A3 l3.length l3) (hc3 : l3.length ≤ c3)
    (hS : ∃ k, impl_Query_shape.f k a1 l1 a2 l3 = some (shapeB a1 l1 a2 l3)) (hN : (varsF l3).length ≤ 1048576) :
    Calls Try.prog 24 #[.agg #[.string a1, .slice A1 l1.length c1, .int .i64 a2, .slice A3 l3.length c3]] w (VarsPost w (varsV a1 l1 a2 l3)) := by
  have hu1 := Try.underlying39
  obtain ⟨kS, hS⟩ := hS
  have HB := Aside0.mk (Below.refl w.heap.size w)
  have HS : Aside0 (∀ W, Below w.heap.size w W → Calls Try.prog 75 #[.agg #[.string a1, .slice A1 l1.length c1, .int .i64 a2, .slice A3 l3.length c3]] W fun e W' => e = .returned (.bool (shapeB a1 l1 a2 l3)) ∧ Below W.heap.size W W') := ⟨fun W hW => impl_Query_shape.calls kS a1 A1 c1 l1 a2 A3 c3 l3 _ W (Kd.C_below hr1 hW) hc1 (Kd.C_below hr3 hW) hc3 hS⟩
  have HV : Aside0 (∀ W, Below w.heap.size w W → Calls Try.prog 76 #[.agg #[.string a1, .slice A1 l1.length c1, .int .i64 a2, .slice A3 l3.length c3]] W (VarsPost W (varsF l3))) := ⟨fun W hW => variables_walk a1 A1 c1 l1 a2 A3 c3 l3 W (Kd.C_below hr3 hW) hc3 hN⟩
  clear hr1 hr3 hN hS
  by_cases h : shapeB a1 l1 a2 l3 = true
  · have HG : Aside0 (varsV a1 l1 a2 l3 = varsF l3) := ⟨by unfold varsV; rw [if_pos h]⟩
    rw [h] at HS
    clear h
    go_enter Try.func24, Try.ntmps24
    go_wp2_with (first | (go_at_call 75; (with_reducible refine (HS.out _ (below_alloc HB.out _)).mono ?_); rintro e w1 ⟨rfl, hb1⟩; have HB1 : Aside0 (Below w.heap.size w w1) := ⟨below_step (below_alloc HB.out _) hb1⟩; have q0 : w1.cell? ⟨w.heap.size, 0, none⟩ = some (.string a1) := (hb1.cell (p := ⟨w.heap.size, 0, none⟩) (by simp)).trans (by go_simp); have q1 : w1.cell? ⟨w.heap.size, 1, none⟩ = some (.slice A1 l1.length c1) := (hb1.cell (p := ⟨w.heap.size, 1, none⟩) (by simp)).trans (by go_simp); have q2 : w1.cell? ⟨w.heap.size, 2, none⟩ = some (.int .i64 a2) := (hb1.cell (p := ⟨w.heap.size, 2, none⟩) (by simp)).trans (by go_simp); have q3 : w1.cell? ⟨w.heap.size, 3, none⟩ = some (.slice A3 l3.length c3) := (hb1.cell (p := ⟨w.heap.size, 3, none⟩) (by simp)).trans (by go_simp); clear hb1) | (go_at_call 76; (with_reducible refine (HV.out _ HB1.out).mono ?_); rintro e w2 ⟨v2, rfl, ho2, hb2⟩))
    go_ret
    exact ⟨_, rfl, by rw [HG.out]; exact Kd.R_lower ho2 HB1.out.size, below_step HB1.out hb2⟩
  · have HG : Aside0 (varsV a1 l1 a2 l3 = []) := ⟨by unfold varsV; rw [if_neg h]⟩
    rw [show shapeB a1 l1 a2 l3 = false by simpa using h] at HS
    clear h
    go_enter Try.func24, Try.ntmps24
    go_wp2_with (first | (go_at_call 75; (with_reducible refine (HS.out _ (below_alloc HB.out _)).mono ?_); rintro e w1 ⟨rfl, hb1⟩))
    go_ret
    exact ⟨_, rfl, by rw [HG.out]; exact Kd.R_nil _ _ _ _ _, below_step (below_alloc HB.out _) hb1⟩
theorem cell_on4 {W W' : World} {p : Addr} {v : Value} (h : W.cell? p = some v) (hb : Below W.heap.size W W') : W'.cell? p = some v := (hb.cell (World.block_lt_of_cell? W _ h)).trans h
def B4q (W : World) (n : Nat) (b c d e : Value) : Prop := W.cell? ⟨n, 0, none⟩ = some b ∧ W.cell? ⟨n, 1, none⟩ = some c ∧ W.cell? ⟨n, 2, none⟩ = some d ∧ W.cell? ⟨n, 3, none⟩ = some e
theorem B4q.below {W W' : World} {n : Nat} {b c d e : Value} (h : B4q W n b c d e) (hb : Below W.heap.size W W') : B4q W' n b c d e := ⟨cell_on4 h.1 hb, cell_on4 h.2.1 hb, cell_on4 h.2.2.1 hb, cell_on4 h.2.2.2 hb⟩
theorem below_far {w w2 w' : World} (h : Below w.heap.size w w2) (h2 : Below w2.heap.size w2 w') : Below w.heap.size w w' := below_step h h2
theorem heldS_at (k : Nat) (A : Option Addr) (c : Nat) (vs : List ByteArray) (m : Int) (W : World) (hr : Kd.C Kd.string W A (markStr 1 vs).length (markStr 1 vs)) (hc : vs.length ≤ c) (h : laws_heldStringS.f k (markStr 1 vs) 1 = some m) :
    Calls Try.prog 29 #[.slice A vs.length c, .int .i64 1] W fun e w' => e = .returned (.int .i64 m) ∧ Below W.heap.size W w' := by
  have h1 := laws_heldStringS.calls k A c (markStr 1 vs) 1 m W hr (by rw [markStr_len]; exact hc) h
  rwa [markStr_len] at h1
def ToQO (W : World) (nm : ByteArray) (hd : List ByteArray) (rg : Int) (ats : List At) (e : Ending) (W' : World) : Prop := ∃ A1 c1 A3 c3, e = .returned (.agg #[.string nm, .slice A1 hd.length c1, .int .i64 rg, .slice A3 ats.length c3]) ∧
  Kd.R Kd.string 9 W' W.heap.size (fun q => q < W'.heap.size ∧ ∃ cells, W'.heap[q]? = some (.cells cells 9 (0, 0))) (.slice A1 hd.length c1) hd ∧
  Kd.S k148 148 W' W.heap.size (fun q => q < W'.heap.size ∧ ∃ cells t, (t = 148 ∨ t = 185) ∧ W'.heap[q]? = some (.cells cells t (0, 0))) (.slice A3 ats.length c3) ats ∧ Below W.heap.size W W'
set_option maxHeartbeats 8000000 in
set_option maxRecDepth 100000 in
theorem lawVars_walk (a1 : ByteArray) (A1 : Option Addr) (c1 : Nat) (n1 : Nat) (a2 : Int) (A3 : Option Addr) (c3 : Nat) (n3 : Nat) (w : World)
    (hd : List ByteArray) (ats : List At) (zQ : Int) (vs : List ByteArray)
    (hzQ : ∀ W, Below w.heap.size w W → Calls Try.prog 21 #[.agg #[.string a1, .slice A1 n1 c1, .int .i64 a2, .slice A3 n3 c3], .int .i64 1048576] W fun e W' => e = .returned (.int .i64 zQ) ∧ Below W.heap.size W W')
    (htQ : 0 ≤ zQ → ∀ W, Below w.heap.size w W → Calls Try.prog 23 #[.agg #[.string a1, .slice A1 n1 c1, .int .i64 a2, .slice A3 n3 c3]] W (ToQO W a1 hd a2 ats))
    (hsV : 0 ≤ zQ → ∀ W A1 c1 A3 c3, Kd.C Kd.string W A1 hd.length hd → hd.length ≤ c1 → Kd.C k148 W A3 ats.length ats → ats.length ≤ c3 → Calls Try.prog 22 #[.agg #[.string a1, .slice A1 hd.length c1, .int .i64 a2, .slice A3 ats.length c3]] W (VarsPost W vs))
    (hiV : 0 ≤ zQ → ∀ W A1 c1 A3 c3, Kd.C Kd.string W A1 hd.length hd → hd.length ≤ c1 → Kd.C k148 W A3 ats.length ats → ats.length ≤ c3 → Calls Try.prog 24 #[.agg #[.string a1, .slice A1 hd.length c1, .int .i64 a2, .slice A3 ats.length c3]] W (VarsPost W vs))
    (hvs : 0 ≤ zQ → vs.length ≤ 1048576 ∧ hd.length ≤ 1048576 ∧ ats.length ≤ 1048576 ∧ (∀ x, x ∈ ats → x.f1.length ≤ 1048576) ∧ 1 + (hd.length : Int) + cntAt ats ≤ 1099511627776) :
    Calls Try.prog 4 #[.agg #[.string a1, .slice A1 n1 c1, .int .i64 a2, .slice A3 n3 c3]] w fun e w' => e = .returned (.bool true) ∧ Below w.heap.size w w' := by
  have hu1 := Try.underlying34
  have hu3 := Try.underlying39
  have HB := Aside0.mk (Below.refl w.heap.size w)
  have HzQ := Aside0.mk hzQ
  clear hzQ
  by_cases z1 : zQ < 0
  · have e1 : decide (zQ < 0) = true := decide_eq_true z1
    clear htQ hsV hiV hvs z1
    go_enter Try.func4, Try.ntmps4
    go_wp2_with (first | (go_at_call 21; (with_reducible refine (HzQ.out _ (below_alloc HB.out _)).mono ?_); rintro e w1 ⟨rfl, hb1⟩; have HB1 : Aside0 (Below w.heap.size w w1) := ⟨below_step (below_alloc HB.out _) hb1⟩; have HX1 : Aside0 (B4q w1 w.heap.size (.string a1) (.slice A1 n1 c1) (.int .i64 a2) (.slice A3 n3 c3)) := ⟨B4q.below ⟨by go_simp, by go_simp, by go_simp, by go_simp⟩ hb1⟩; clear hb1; obtain ⟨p0, p1, p2, p3⟩ := HX1.out))
    go_ret
    exact ⟨rfl, HB1.out⟩
  · have e1 : decide (zQ < 0) = false := decide_eq_false z1
    have HtQ := Aside0.mk (htQ (by omega))
    have HsV := Aside0.mk (hsV (by omega))
    have HiV := Aside0.mk (hiV (by omega))
    obtain ⟨hv0, hv1, hv2, hv3, hv4⟩ := hvs (by omega)
    have hcn := cntAt_ge ats
    obtain ⟨kE, hkE⟩ := Ev.rounds (eqStringS_ev vs hv0)
    obtain ⟨kQ, hkQ⟩ := Ev.rounds (eqQuery_ev a1 hd a2 ats hv1 hv2 hv3)
    obtain ⟨kM, hkM⟩ := Ev.rounds (markStringS_ev vs 1 (by omega) (by omega))
    obtain ⟨kH, hkH⟩ := Ev.rounds (heldStringS_ev vs 1 (by omega) (by omega))
    have HkE := Aside0.mk hkE
    have HkQ := Aside0.mk hkQ
    have HkM := Aside0.mk hkM
    have HkH := Aside0.mk hkH
    have HV4 := Aside0.mk hv4
    have e2 : decide (1 + (hd.length : Int) + cntAt ats < 0) = false := decide_eq_false (by omega)
    have e3 : decide (1 + (vs.length : Int) < 0) = false := decide_eq_false (by omega)
    have hms : (markStr 1 vs).length = vs.length := markStr_len vs 1
    have HMS := Aside0.mk hms
    clear htQ hsV hiV hvs z1 hkE hkQ hkM hkH hv3 hv4 hms hcn
    generalize hm1 : 1 + (hd.length : Int) + cntAt ats = m1 at *
    generalize hm2 : 1 + (vs.length : Int) = m2 at *
    have HM1 := Aside0.mk hm1
    clear hm1 hm2
    have b1 : (m2 != m2) = false := by simp
    go_enter Try.func4, Try.ntmps4
    go_wp2_with (first | (go_at_call 21; (with_reducible refine (HzQ.out _ (below_alloc HB.out _)).mono ?_); rintro e w1 ⟨rfl, hb1⟩; have HB1 : Aside0 (Below w.heap.size w w1) := ⟨below_step (below_alloc HB.out _) hb1⟩; have HX1 : Aside0 (B4q w1 w.heap.size (.string a1) (.slice A1 n1 c1) (.int .i64 a2) (.slice A3 n3 c3)) := ⟨B4q.below ⟨by go_simp, by go_simp, by go_simp, by go_simp⟩ hb1⟩; clear hb1; obtain ⟨p0, p1, p2, p3⟩ := HX1.out) | (go_at_call 23; have tok2 : True := trivial; (with_reducible refine (HtQ.out _ HB1.out).mono ?_); rintro e w2a ⟨B1, d1, B3, d3, rfl, hr2, hs2, hb2⟩; have HB2a : Aside0 (Below w.heap.size w w2a) := ⟨below_step HB1.out hb2⟩; have HX2a : Aside0 (B4q w2a w.heap.size (.string a1) (.slice A1 n1 c1) (.int .i64 a2) (.slice A3 n3 c3)) := ⟨HX1.out.below hb2⟩; obtain ⟨_, hl2, hc2⟩ := Kd.R_reads' hr2; obtain ⟨_, hl3, hc3⟩ := Kd.S_reads' hs2; have HC2 := Aside0.mk hc2; have HL2 := Aside0.mk hl2; have HC3 := Aside0.mk hc3; have HL3 := Aside0.mk hl3; clear hr2 hs2 hb2 hc2 hl2 hc3 hl3 tok2 HB1) | (go_at_call 22; (with_reducible refine (HsV.out _ B1 d1 B3 d3 HC2.out HL2.out HC3.out HL3.out).mono ?_); rintro e w2 ⟨v4, rfl, ho4, hb2⟩; have HB2 : Aside0 (Below w.heap.size w w2) := ⟨below_step HB2a.out hb2⟩; have HX2 : Aside0 (B4q w2 w.heap.size (.string a1) (.slice A1 n1 c1) (.int .i64 a2) (.slice A3 n3 c3)) := ⟨HX2a.out.below hb2⟩; obtain ⟨D4, f4, rfl, hl4, hc4⟩ := Kd.R_reads ho4; have HC4 := Aside0.mk hc4; have HL4 := Aside0.mk hl4; clear ho4 hb2 hc4 hl4 p0 p1 p2 p3; obtain ⟨p0, p1, p2, p3⟩ := HX2.out) | (go_at_call 23; have tok3 := HL4; (with_reducible refine (HtQ.out _ HB2.out).mono ?_); rintro e w3 ⟨C1, g1, C3, g3, rfl, hr3, hs3, hb3⟩; have HB3 : Aside0 (Below w.heap.size w w3) := ⟨below_step HB2.out hb3⟩; have HZ3 : Aside0 (Below w2.heap.size w2 w3) := ⟨hb3⟩; have HX3 : Aside0 (B4q w3 w.heap.size (.string a1) (.slice A1 n1 c1) (.int .i64 a2) (.slice A3 n3 c3)) := ⟨HX2.out.below hb3⟩; have HRx := Aside0.mk hr3; have HSx := Aside0.mk hs3; obtain ⟨_, hl5, hc5⟩ := Kd.R_reads' hr3; obtain ⟨_, hl6, hc6⟩ := Kd.S_reads' hs3; have HC5 := Aside0.mk hc5; have HL5 := Aside0.mk hl5; have HC6 := Aside0.mk hc6; have HL6 := Aside0.mk hl6; clear hr3 hs3 hb3 hc5 hl5 hc6 hl6 p0 p1 p2 p3 tok3) | (go_at_call 24; (with_reducible refine (HiV.out _ C1 g1 C3 g3 (Kd.C_below HC5.out (below_alloc (Below.refl _ _) _)) HL5.out (Kd.C_below HC6.out (below_alloc (Below.refl _ _) _)) HL6.out).mono ?_); rintro e w4 ⟨v6, rfl, ho6, hb4⟩; have HB4 : Aside0 (Below w.heap.size w w4) := ⟨below_step (below_alloc HB3.out _) hb4⟩; have HX4 : Aside0 (B4q w4 w.heap.size (.string a1) (.slice A1 n1 c1) (.int .i64 a2) (.slice A3 n3 c3)) := ⟨(HX3.out.below (below_alloc (Below.refl _ _) _)).below hb4⟩; have HZ4 : Aside0 (Below w2.heap.size w2 w4) := ⟨below_step (below_alloc HZ3.out _) hb4⟩; have HT4 : Aside0 (Below w3.heap.size w3 w4) := ⟨below_step (below_alloc (Below.refl _ _) _) hb4⟩; have HY4 : Aside0 (B4q w4 w3.heap.size (.string a1) (.slice C1 hd.length g1) (.int .i64 a2) (.slice C3 ats.length g3)) := ⟨B4q.below ⟨by go_simp, by go_simp, by go_simp, by go_simp⟩ hb4⟩; obtain ⟨D6, f6, rfl, hl7, hc7⟩ := Kd.R_reads ho6; have HR6 : Aside0 (Kd.R Kd.string 9 w4 w2.heap.size (fun q => w3.heap.size ≤ q) (.slice D6 vs.length f6) vs) := ⟨Kd.R_lower (Kd.R_mono (Kd.R_bound ho6) (fun q hq => by have := hq.2.1; simp at this; omega)) (by have := HZ3.out.size; simp; omega)⟩; have HC7 := Aside0.mk hc7; have HL7 := Aside0.mk hl7; clear ho6 hb4 hc7 hl7) | (go_at_call 25; (with_reducible refine (laws_eqStringS.calls kE D6 f6 vs D4 f4 vs true _ HC7.out HL7.out (Kd.C_below HC4.out HZ4.out) HL4.out HkE.out).mono ?_); rintro e w5 ⟨rfl, ⟨n5, rfl⟩⟩))
    go_region_held3 (fun w' => w'.cell? ⟨w3.heap.size, 0, none⟩ = some (.string a1) ∧ w'.cell? ⟨w3.heap.size, 1, none⟩ = some (.slice C1 hd.length g1) ∧ w'.cell? ⟨w3.heap.size, 2, none⟩ = some (.int .i64 a2) ∧ w'.cell? ⟨w3.heap.size, 3, none⟩ = some (.slice C3 ats.length g3) ∧ w'.cell? ⟨w.heap.size, 0, none⟩ = some (.string a1) ∧ w'.cell? ⟨w.heap.size, 1, none⟩ = some (.slice A1 n1 c1) ∧ w'.cell? ⟨w.heap.size, 2, none⟩ = some (.int .i64 a2) ∧ w'.cell? ⟨w.heap.size, 3, none⟩ = some (.slice A3 n3 c3)) (first | (first | exact ⟨(HY4.out.below (below_drew1 (pw_below_drewN (Below.refl _ _) n5))).1, (HY4.out.below (below_drew1 (pw_below_drewN (Below.refl _ _) n5))).2.1, (HY4.out.below (below_drew1 (pw_below_drewN (Below.refl _ _) n5))).2.2.1, (HY4.out.below (below_drew1 (pw_below_drewN (Below.refl _ _) n5))).2.2.2, (HX4.out.below (below_drew1 (pw_below_drewN (Below.refl _ _) n5)))⟩ | exact ⟨(HY4.out.below (pw_below_drewN (below_drew1 (Below.refl _ _)) n5)).1, (HY4.out.below (pw_below_drewN (below_drew1 (Below.refl _ _)) n5)).2.1, (HY4.out.below (pw_below_drewN (below_drew1 (Below.refl _ _)) n5)).2.2.1, (HY4.out.below (pw_below_drewN (below_drew1 (Below.refl _ _)) n5)).2.2.2, (HX4.out.below (pw_below_drewN (below_drew1 (Below.refl _ _)) n5))⟩ | exact ⟨(HY4.out.below (pw_below_drewN (Below.refl _ _) (n5 + 1))).1, (HY4.out.below (pw_below_drewN (Below.refl _ _) (n5 + 1))).2.1, (HY4.out.below (pw_below_drewN (Below.refl _ _) (n5 + 1))).2.2.1, (HY4.out.below (pw_below_drewN (Below.refl _ _) (n5 + 1))).2.2.2, (HX4.out.below (pw_below_drewN (Below.refl _ _) (n5 + 1)))⟩) | exact ⟨(HY4.out.below HT6.out).1, (HY4.out.below HT6.out).2.1, (HY4.out.below HT6.out).2.2.1, (HY4.out.below HT6.out).2.2.2, (HX4.out.below HT6.out)⟩ | exact ⟨(HY4.out.below HT7.out).1, (HY4.out.below HT7.out).2.1, (HY4.out.below HT7.out).2.2.1, (HY4.out.below HT7.out).2.2.2, (HX4.out.below HT7.out)⟩) (first | (go_at_call 23; refine (HtQ.out _ (by first | exact below_drew1 (pw_below_drewN HB4.out n5) | exact pw_below_drewN (below_drew1 HB4.out) n5 | exact pw_below_drewN HB4.out (n5 + 1))).mono ?_; rintro e w6 ⟨E1, i1, E3, i3, rfl, hr8, hs8, hb6⟩; have HB6 : Aside0 (Below w.heap.size w w6) := ⟨below_step (by first | exact below_drew1 (pw_below_drewN HB4.out n5) | exact pw_below_drewN (below_drew1 HB4.out) n5 | exact pw_below_drewN HB4.out (n5 + 1)) hb6⟩; have HT6 : Aside0 (Below w4.heap.size w4 w6) := ⟨below_step (by first | exact below_drew1 (pw_below_drewN (Below.refl _ _) n5) | exact pw_below_drewN (below_drew1 (Below.refl _ _)) n5 | exact pw_below_drewN (Below.refl _ _) (n5 + 1)) hb6⟩; obtain ⟨_, hl8, hc8⟩ := Kd.R_reads' hr8; obtain ⟨_, hl9, hc9⟩ := Kd.S_reads' hs8; have HC8 := Aside0.mk hc8; have HL8 := Aside0.mk hl8; have HC9 := Aside0.mk hc9; have HL9 := Aside0.mk hl9; clear hr8 hs8 hb6 hc8 hl8 hc9 hl9) | (go_at_call 26; (with_reducible refine (laws_eqQuery.calls kQ a1 C1 g1 hd a2 C3 g3 ats a1 E1 i1 hd a2 E3 i3 ats true _ (Kd.C_below HC5.out (below_step HT4.out HT6.out)) HL5.out (Kd.C_below HC6.out (below_step HT4.out HT6.out)) HL6.out HC8.out HL8.out HC9.out HL9.out HkQ.out).mono ?_); rintro e w7 ⟨rfl, hb7⟩; have HB7 : Aside0 (Below w.heap.size w w7) := ⟨below_step HB6.out hb7⟩; have HT7 : Aside0 (Below w4.heap.size w4 w7) := ⟨below_step HT6.out hb7⟩; clear hb7))
    have HZ7 : Aside0 (Below w2.heap.size w2 w7) := ⟨below_step HZ4.out HT7.out⟩
    have HRx7 := Aside0.mk (Kd.R_below HRx.out (below_step HT4.out HT7.out))
    have HSx7 := Aside0.mk (Kd.S_step HSx.out (fun q _ hlt => (below_step HT4.out HT7.out).block q hlt))
    have HR67 := Aside0.mk (Kd.R_below HR6.out HT7.out)
    have HAp : Aside0 (∀ q, (q < w3.heap.size ∧ ∃ cells, w3.heap[q]? = some (.cells cells 9 (0, 0))) → ¬ (q < w3.heap.size ∧ ∃ cells t, (t = 148 ∨ t = 185) ∧ w3.heap[q]? = some (.cells cells t (0, 0)))) := ⟨by
      rintro q ⟨_, c, h1⟩ ⟨_, c2, t, ht, h2⟩
      rw [h1] at h2
      injection h2 with h2
      injection h2 with _ h3
      rcases ht with rfl | rfl <;> exact absurd h3 (by decide)⟩
    have HX7 : Aside0 (B4q w7 w.heap.size (.string a1) (.slice A1 n1 c1) (.int .i64 a2) (.slice A3 n3 c3)) := ⟨HX4.out.below HT7.out⟩
    obtain ⟨p0, p1, p2, p3⟩ := HX7.out
    obtain ⟨y0, y1, y2, y3⟩ := HY4.out.below HT7.out
    go_wp2_with (first | (go_at_call 27; (with_reducible refine (markQuery_walk _ _ a1 (.slice C1 hd.length g1) hd a2 (.slice C3 ats.length g3) ats 1 w2 _ HZ7.out HRx7.out HSx7.out HAp.out (by omega) (by rw [HM1.out]; exact HV4.out)).mono ?_); intro e w8 hp8; obtain rfl := hp8.1.trans (by rw [HM1.out]); have HB8 : Aside0 (Below w.heap.size w w8) := ⟨below_far HB2.out hp8.2.2.2.1⟩; have HZ8 : Aside0 (Below w2.heap.size w2 w8) := ⟨hp8.2.2.2.1⟩; have HX8 : Aside0 (B4q w8 w.heap.size (.string a1) (.slice A1 n1 c1) (.int .i64 a2) (.slice A3 n3 c3)) := ⟨HX2.out.below HZ8.out⟩; have HR8 : Aside0 (Kd.R Kd.string 9 w8 w2.heap.size (fun q => w3.heap.size ≤ q) (.slice D6 vs.length f6) vs) := ⟨Kd.R_step HR67.out (fun q hq hlt => hp8.2.2.2.2.2 q hlt (fun h => h.elim (fun h => by have := h.1; omega) (fun h => by have := h.1; omega)))⟩; have HC10 := Aside0.mk (Kd.R_reads' HR8.out).2.2; clear hp8; obtain ⟨p0, p1, p2, p3⟩ := HX8.out) | (go_at_call 25; have tok4 := HB8; (with_reducible refine (laws_eqStringS.calls kE D6 f6 vs D4 f4 vs true _ HC10.out HL7.out (Kd.C_below HC4.out HZ8.out) HL4.out HkE.out).mono ?_); rintro e w9 ⟨rfl, ⟨n9, rfl⟩⟩; clear tok4) | (go_at_call 28; (with_reducible refine (laws_markStringS.calls kM (fun q => w3.heap.size ≤ q) (.slice D6 vs.length f6) vs 1 _ _ w2 _ (pw_below_drewN HZ8.out _) (Kd.R_drewN HR8.out _) HkM.out).mono ?_); rintro e w10 ⟨rfl, hr10, hb10, hk10⟩; have HZ10 : Aside0 (Below w2.heap.size w2 w10) := ⟨hb10⟩; have HB10 : Aside0 (Below w.heap.size w w10) := ⟨below_far HB2.out hb10⟩; have HX10 : Aside0 (B4q w10 w.heap.size (.string a1) (.slice A1 n1 c1) (.int .i64 a2) (.slice A3 n3 c3)) := ⟨HX2.out.below HZ10.out⟩; have HC11 : Aside0 (Kd.C Kd.string w10 D6 (markStr 1 vs).length (markStr 1 vs)) := ⟨(Kd.R_reads' hr10).2.2⟩; clear hr10 hb10 hk10 p0 p1 p2 p3; obtain ⟨p0, p1, p2, p3⟩ := HX10.out) | (go_at_call 29; refine (heldS_at kH D6 f6 vs _ _ HC11.out HL7.out HkH.out).mono ?_; rintro e w11 ⟨rfl, hb11⟩; have HB11 : Aside0 (Below w.heap.size w w11) := ⟨below_step HB10.out hb11⟩; have HZ11 : Aside0 (Below w2.heap.size w2 w11) := ⟨below_step HZ10.out hb11⟩; have HX11 : Aside0 (B4q w11 w.heap.size (.string a1) (.slice A1 n1 c1) (.int .i64 a2) (.slice A3 n3 c3)) := ⟨HX10.out.below hb11⟩; clear hb11 p0 p1 p2 p3; obtain ⟨p0, p1, p2, p3⟩ := HX11.out) | (go_at_call 23; have tok5 := HX11; (with_reducible refine (HtQ.out _ HB11.out).mono ?_); rintro e w12 ⟨F1, j1, F3, j3, rfl, hr12, hs12, hb12⟩; have HB12 : Aside0 (Below w.heap.size w w12) := ⟨below_step HB11.out hb12⟩; have HZ12 : Aside0 (Below w2.heap.size w2 w12) := ⟨below_step HZ11.out hb12⟩; obtain ⟨_, hl12, hc12⟩ := Kd.R_reads' hr12; obtain ⟨_, hl13, hc13⟩ := Kd.S_reads' hs12; have HC12 := Aside0.mk hc12; have HL12 := Aside0.mk hl12; have HC13 := Aside0.mk hc13; have HL13 := Aside0.mk hl13; clear hr12 hs12 hb12 hc12 hl12 hc13 hl13 tok5) | (go_at_call 24; (with_reducible refine (HiV.out _ F1 j1 F3 j3 HC12.out HL12.out HC13.out HL13.out).mono ?_); rintro e w13 ⟨v13, rfl, ho13, hb13⟩; have HB13 : Aside0 (Below w.heap.size w w13) := ⟨below_step HB12.out hb13⟩; have HZ13 : Aside0 (Below w2.heap.size w2 w13) := ⟨below_step HZ12.out hb13⟩; obtain ⟨D13, f13, rfl, hl14, hc14⟩ := Kd.R_reads ho13; have HC14 := Aside0.mk hc14; have HL14 := Aside0.mk hl14; clear ho13 hb13 hc14 hl14) | (go_at_call 25; have tok6 := HC14; (with_reducible refine (laws_eqStringS.calls kE D13 f13 vs D4 f4 vs true _ HC14.out HL14.out (Kd.C_below HC4.out HZ13.out) HL4.out HkE.out).mono ?_); rintro e w14 ⟨rfl, ⟨n14, rfl⟩⟩; have HB14 : Aside0 (Below w.heap.size w (w13.drewN n14)) := ⟨pw_below_drewN HB13.out _⟩))
    go_ret
    exact ⟨rfl, HB14.out⟩
end Go.Proofs.Ytkolhpmhbgbphaa.PT
namespace Go.Proofs.Ytkolhpmhbgbphaa.PT
open Go.RowKit Go.Proofs.Ytkolhpmhbgbphaa.P Go.Proofs.YtkolhpmhbgbphaaW.PrintWords Go.Proofs.YtkolhpmhbgbphaaW.PrintLast Go.Proofs.Ytkolhpmhbgbphaa.EvKit
set_option linter.unusedSimpArgs false
set_option linter.unusedVariables false
def GQuery (nm : ByteArray) (hd : List ByteArray) (rg : Int) (l : List LAt) : Prop := nm.size ≤ maxLen ∧ (hd.length ≤ maxLen ∧ ∀ x, x ∈ hd → x.size ≤ maxLen) ∧ (Lit.int .i64 rg).wf = true ∧
  (l.length ≤ maxLen ∧ ∀ x, x ∈ l → x.f0.size ≤ maxLen ∧ (x.f1.length ≤ maxLen ∧ ∀ t, t ∈ x.f1 → t.f0.size ≤ maxLen ∧ (Lit.int .i64 t.f1).wf = true))
theorem GQuery.parts {nm : ByteArray} {hd : List ByteArray} {rg : Int} {l : List LAt} (g : GQuery nm hd rg l) : GStr nm ∧ GL GStr hd ∧ GL GAt l := by
  obtain ⟨g1, g2, _, g3⟩ := g
  unfold maxLen at g1 g2 g3
  exact ⟨g1, g2, g3.1, fun x hx => ⟨(g3.2 x hx).1, (g3.2 x hx).2.1, fun t ht => ((g3.2 x hx).2.2 t ht).1⟩⟩
theorem cntAt_tsum : ∀ l : List At, cntAt l = l.length + 2 * (tsum l : Int)
  | [] => by simp [cntAt, tsum]
  | a :: r => by simp only [cntAt, tsum, cntAt_tsum r, List.length_cons]; omega
theorem tsum_len {l : List LAt} {a : Int} (ha : a ≤ 1048576) (h : 0 ≤ szHd szAt l a) : tsum (l.map toAt) ≤ 1048576 := by
  unfold szHd at h
  by_cases c : a - l.length < 0
  · rw [if_pos c] at h; omega
  · rw [if_neg c] at h
    have h1 := szL_sum l _ (by omega) h
    omega
theorem variables_law {a0_0 : ByteArray} {A0_1 : Option Addr} {c0_1 : Nat} {l0_1 : List ByteArray} {a0_2 : Int} {A0_3 : Option Addr} {c0_3 : Nat} {l0_3 : List LAt} {w : World}
    (hr0_1 : Kd.C Kd.string w A0_1 l0_1.length l0_1) (hc0_1 : l0_1.length ≤ c0_1) (hr0_3 : Kd.C k182 w A0_3 l0_3.length l0_3) (hc0_3 : l0_3.length ≤ c0_3) (g1 : GQuery a0_0 l0_1 a0_2 l0_3) :
    Calls Try.prog 4 #[.agg #[.string a0_0, .slice A0_1 l0_1.length c0_1, .int .i64 a0_2, .slice A0_3 l0_3.length c0_3]] w fun e w' => e = .returned (.bool true) ∧ Below w.heap.size w w' := by
  obtain ⟨gq1, gq2, gq3⟩ := g1.parts
  obtain ⟨kzQ, hzQ⟩ := Ev.rounds (szQuery_ev a0_0 l0_1 a0_2 l0_3 1048576 gq1 gq2 gq3 (by omega) (by omega))
  have z2 : 0 ≤ szQ a0_0 l0_1 l0_3 1048576 → SL SStr l0_1 ∧ SL SAt l0_3 ∧ (varsF (l0_3.map toAt)).length ≤ 1048576 ∧ tsum (l0_3.map toAt) ≤ 1048576 := by
    intro h1
    obtain ⟨q1, q2, q3, q4, _⟩ := szQ_le (by omega) h1
    refine ⟨q2, q3, ?_⟩
    unfold szQ at h1
    by_cases c1 : szStr1 a0_0 1048576 < 0
    · rw [if_pos c1] at h1; omega
    · rw [if_neg c1] at h1
      by_cases c2 : szHd szStr1 l0_1 (szStr1 a0_0 1048576) < 0
      · rw [if_pos c2] at h1; omega
      · rw [if_neg c2] at h1
        have r1 := (szStr_le (by omega) (Int.not_lt.1 c1)).2.1
        have r2 := (szHd_le (s := szStr1) (S := SStr) (fun _ _ => szStr_le) l0_1 _ (by omega) (Int.not_lt.1 c2)).2.1
        by_cases c3 : szHd szAt l0_3 (szHd szStr1 l0_1 (szStr1 a0_0 1048576)) < 0
        · rw [if_pos c3] at h1; omega
        · exact ⟨varsF_len (by omega) (Int.not_lt.1 c3), tsum_len (by omega) (Int.not_lt.1 c3)⟩
  generalize szQ a0_0 l0_1 l0_3 1048576 = zQ at *
  refine lawVars_walk a0_0 A0_1 c0_1 l0_1.length a0_2 A0_3 c0_3 l0_3.length w l0_1 (l0_3.map toAt) zQ (varsV a0_0 l0_1 a0_2 (l0_3.map toAt))
    (fun W hW => laws_szQuery.calls kzQ a0_0 A0_1 c0_1 l0_1 a0_2 A0_3 c0_3 l0_3 _ _ W (Kd.C_below hr0_1 hW) hc0_1 (Kd.C_below hr0_3 hW) hc0_3 hzQ) (fun h1 W hW => ?_) (fun h1 W A1 c1 A3 c3 r1 b1 r3 b3 => ?_) (fun h1 W A1 c1 A3 c3 r1 b1 r3 b3 => ?_) (fun h1 => ?_)
  · obtain ⟨q2, q3, _⟩ := z2 h1
    obtain ⟨k, hk⟩ := Ev.rounds (toQuery_ev a0_0 l0_1 a0_2 l0_3 q2 q3)
    refine (laws_toQuery.calls k a0_0 A0_1 c0_1 l0_1 a0_2 A0_3 c0_3 l0_3 _ _ _ _ W (Kd.C_below hr0_1 hW) hc0_1 (Kd.C_below hr0_3 hW) hc0_3 hk).mono fun e W' ⟨v1, v3, he, ho1, ho3, hb⟩ => ?_
    obtain ⟨A1, c1, rfl⟩ := Kd.R_slice ho1
    obtain ⟨A3, c3, rfl⟩ := Kd.S_slice ho3
    refine ⟨A1, c1, A3, c3, he, Kd.R_mono (Kd.R_bound ho1) (fun q hq => ⟨hq.2.2.1, ?_⟩), Kd.S_mono (Kd.S_bound ho3) (fun q hq => ⟨hq.2.2.1, ?_⟩), hb⟩
    · obtain ⟨_, _, _, t, ht, cells, hc⟩ := hq
      obtain rfl : t = 9 := by simpa [Kd.string, Kd.scalar] using ht
      exact ⟨cells, hc⟩
    · obtain ⟨_, _, _, t, ht, cells, hc⟩ := hq
      exact ⟨cells, t, by simpa [k148, k185, Kd.iso, Kd.pair, Kd.string, Kd.scalar, Kd.slice, Kd.int] using ht, hc⟩
  · obtain ⟨q2, q3, q4, _⟩ := z2 h1
    have ht := toAt_len q3
    obtain ⟨k, hk⟩ := Ev.rounds (specVariables_ev a0_0 l0_1 a0_2 (l0_3.map toAt) (by have := q2.1; omega) (by have := ht.1; omega) (fun a ha => by have := ht.2 a ha; omega) q4)
    exact spec_Variables.calls k a0_0 A1 c1 l0_1 a0_2 A3 c3 _ _ W r1 b1 r3 b3 hk
  · obtain ⟨q2, q3, q4, _⟩ := z2 h1
    have ht := toAt_len q3
    exact variablesTop_walk a0_0 A1 c1 l0_1 a0_2 A3 c3 _ W r1 b1 r3 b3 (Ev.rounds (shape_ev a0_0 l0_1 a0_2 _ (by have := q2.1; omega) (by have := ht.1; omega))) q4
  · obtain ⟨q2, q3, q4, q5⟩ := z2 h1
    have ht := toAt_len q3
    refine ⟨?_, q2.1, ht.1, ht.2, ?_⟩
    · unfold varsV; split
      · exact q4
      · simp
    · rw [cntAt_tsum]
      have := q2.1; have := ht.1
      omega
end Go.Proofs.Ytkolhpmhbgbphaa.PT
namespace Go.Proofs.Ytkolhpmhbgbphaa.fnExactVariables
open Go.ChangeShapes Go.WideShapes Go.ChangeAt Go.RowKit
open Go.ChangeMaps (open_string shut_string)
open Go.Proofs.Ytkolhpmhbgbphaa.Opens Go.Proofs.YtkolhpmhbgbphaaW.PrintWords
set_option linter.unusedVariables false
theorem own : ownKnob Try.prog.godebug = none := by kernel_rfl
theorem laidOut : laidOutB Try.prog = true := by kernel_rfl
def G9 (v : ByteArray) : Prop := v.size ≤ maxLen
theorem opens9 : Opens Try.prog Kd.string 9 G9 := Opens.string Try.underlying9 (by kernel_rfl)
def G31 (v : (List ByteArray)) : Prop := v.length ≤ maxLen ∧ ∀ x, x ∈ v → G9 x
theorem opens31 : Opens Try.prog (Kd.slice 9 Kd.string) 31 G31 := Opens.slice Try.underlying31 (by kernel_rfl) opens9
def G3 (v : Int) : Prop := (Lit.int .i64 v).wf = true
theorem opens3 : Opens Try.prog (Kd.int .i64) 3 G3 := Opens.int Try.underlying3 (by kernel_rfl)
def G237 (v : Go.Proofs.Ytkolhpmhbgbphaa.P.S237) : Prop := G9 (v.f0) ∧ G3 (v.f1)
theorem opensE237 : Opens Try.prog Go.Proofs.Ytkolhpmhbgbphaa.P.k237 237 G237 := Opens.struct Try.underlying237 (by kernel_rfl) (fun enc W held n cs hl hf =>
  Opens.iso (fun x : Go.Proofs.Ytkolhpmhbgbphaa.P.S237 => (x.f0, x.f1)) (fun x => ⟨x.1, x.2⟩) (fun _ => rfl) (Opens.cons (o := 0) (k := 1) (Opens.fld (o := 0) opens9 (hf 0 _ rfl)) (Opens.last (o := 1) (k := 1) (hl.trans rfl) (Opens.fld (o := 1) opens3 (hf 1 _ rfl)))))
def G180 (v : (List Go.Proofs.Ytkolhpmhbgbphaa.P.S237)) : Prop := v.length ≤ maxLen ∧ ∀ x, x ∈ v → G237 x
theorem opens180 : Opens Try.prog (Kd.slice 237 Go.Proofs.Ytkolhpmhbgbphaa.P.k237) 180 G180 := Opens.slice Try.underlying180 (by kernel_rfl) opensE237
def G182 (v : Go.Proofs.Ytkolhpmhbgbphaa.P.S182) : Prop := G9 (v.f0) ∧ G180 (v.f1)
theorem opensE182 : Opens Try.prog Go.Proofs.Ytkolhpmhbgbphaa.P.k182 182 G182 := Opens.struct Try.underlying182 (by kernel_rfl) (fun enc W held n cs hl hf =>
  Opens.iso (fun x : Go.Proofs.Ytkolhpmhbgbphaa.P.S182 => (x.f0, x.f1)) (fun x => ⟨x.1, x.2⟩) (fun _ => rfl) (Opens.cons (o := 0) (k := 1) (Opens.fld (o := 0) opens9 (hf 0 _ rfl)) (Opens.last (o := 1) (k := 1) (hl.trans rfl) (Opens.fld (o := 1) opens180 (hf 1 _ rfl)))))
def G32 (v : (List Go.Proofs.Ytkolhpmhbgbphaa.P.S182)) : Prop := v.length ≤ maxLen ∧ ∀ x, x ∈ v → G182 x
theorem opens32 : Opens Try.prog (Kd.slice 182 Go.Proofs.Ytkolhpmhbgbphaa.P.k182) 32 G32 := Opens.slice Try.underlying32 (by kernel_rfl) opensE182
def G34P (v : (ByteArray × (List ByteArray) × Int × (List Go.Proofs.Ytkolhpmhbgbphaa.P.S182))) : Prop := G9 (v.1) ∧ G31 (v.2.1) ∧ G3 (v.2.2.1) ∧ G32 (v.2.2.2)
theorem opens34 : Opens Try.prog (Kd.pair Kd.string (Kd.pair (Kd.slice 9 Kd.string) (Kd.pair (Kd.int .i64) (Kd.slice 182 Go.Proofs.Ytkolhpmhbgbphaa.P.k182)))) 34 G34P := Opens.struct Try.underlying34 (by kernel_rfl) (fun enc W held n cs hl hf => (Opens.cons (o := 0) (k := 1) (Opens.fld (o := 0) opens9 (hf 0 _ rfl)) (Opens.cons (o := 1) (k := 1) (Opens.fld (o := 1) opens31 (hf 1 _ rfl)) (Opens.cons (o := 2) (k := 1) (Opens.fld (o := 2) opens3 (hf 2 _ rfl)) (Opens.last (o := 3) (k := 1) (hl.trans rfl) (Opens.fld (o := 3) opens32 (hf 3 _ rfl)))))))
set_option maxRecDepth 100000 in
theorem lifted (os : Os) (started : os.Started) (H : Type) (enc : TypeId × Value → H) :
    ReturnsInHanded {} Try.checked os 4 .any (Rows.fnExactVariablesSpec.pre6 enc Try.prog Try.f4 Rows.fnExactVariablesRow.domain false) (Rows.fnExactVariablesSpec.post enc Try.prog Try.f4 false true false false) := by
  refine returnsInHanded_of_change_sized (C := Try.checked) own started (by kernel_rfl) Try.func4
    (ChangeSpec.witness6 (enc := enc) (C := Try.checked) false ⟨#[], #[.agg #[.string ByteArray.empty, .slice none 0 0, .int .i64 0, .slice none 0 0]], []⟩ 8 (by kernel_rfl) (by kernel_rfl) (by kernel_rfl) (by kernel_rfl)) ?_
  intro W base args ds gs before hval0 hW hcnd hsz0 _
  have hval : ∀ (j : Nat) t v, Try.f4.params[j]? = some t → args[j]? = some v → Value.okWide Try.prog W .any base t v := hval0
  have hW' := hW
  obtain ⟨p, q, hA0, hV, rfl, hfz, hnd⟩ := hW
  have hA : DataW.TrodAll enc Try.prog W 0 (fun _ => true) true Try.f4.params.toList args.toList ds p := hA0
  rw [Try.params4] at hA hval
  obtain ⟨v0, vs0, d0, ds0, p0, q0, hargs, rfl, rfl, h0, r0⟩ := trodAll_cons hA
  obtain ⟨rfl, rfl, rfl⟩ := trodAll_nil r0
  obtain rfl : args = #[v0] := by cases args; simp_all
  obtain ⟨rfl, rfl⟩ := trodVars_none hV
  have k0 := h0
  have lt0 : ∀ x ∈ p0, x.block < W.heap.size := by obtain ⟨m, hm⟩ := k0; exact DataW.trod_lt m _ _ _ hm
  obtain ⟨cs0, rfl, sz0⟩ := okWide_struct Try.underlying34 (hval 0 34 v0 rfl rfl)
  obtain ⟨fu0, hf0⟩ := h0
  obtain ⟨x0, hK0, gg0⟩ := (opens34).2 enc W true fu0 _ _ hf0
  have hK0' : ((Kd.pair Kd.string (Kd.pair (Kd.slice 9 Kd.string) (Kd.pair (Kd.int .i64) (Kd.slice 182 Go.Proofs.Ytkolhpmhbgbphaa.P.k182))))).K W x0 cs0.toList := hK0
  generalize hcs0 : cs0.toList = cl0 at hK0'
  obtain ⟨_, _, rfl, rfl, ⟨_, _, rfl, ⟨A0_1, c0_1, rfl, hc0_1, hr0_1⟩, ⟨_, _, rfl, rfl, ⟨A0_3, c0_3, rfl, hc0_3, hr0_3⟩⟩⟩⟩ := hK0'
  obtain rfl : cs0 = #[.string x0.1, .slice A0_1 x0.2.1.length c0_1, .int .i64 x0.2.2.1, .slice A0_3 x0.2.2.2.length c0_3] := by cases cs0; simp_all
  clear hA0 hval0
  refine (Go.Proofs.Ytkolhpmhbgbphaa.PT.variables_law (w := W) (a0_0 := x0.1) (A0_1 := A0_1) (c0_1 := c0_1) (l0_1 := x0.2.1) (a0_2 := x0.2.2.1) (A0_3 := A0_3) (c0_3 := c0_3) (l0_3 := x0.2.2.2) (hr0_1 := hr0_1) (hc0_1 := hc0_1) (hr0_3 := hr0_3) (hc0_3 := hc0_3) gg0).mono fun e W' ⟨he, bel⟩ => ?_
  subst he
  exact ⟨_, rfl, _, _, _, [], _, [], hW', trodAll_mk1 (shut_bool Try.underlying4 _), (trodAll_cons_mk (Below.trod laidOut (by kernel_rfl) (of_decide_eq_true (by kernel_rfl)) k0 bel lt0) trodAll_mk0), rfl, bel.frame _, fun h => by cases h⟩
theorem over : Rows.fnExactVariablesRow.holds Try.pinned (OpenSpec.ofChange Rows.fnExactVariablesSpec) :=
  OpenClaim.holds_of_wide 4 Try.f4 rfl rfl rfl rfl rfl rfl rfl ⟨rfl, rfl, rfl, rfl, rfl⟩ rfl rfl rfl rfl rfl (by kernel_rfl) Try.func4 (by kernel_rfl)
    (of_decide_eq_true (by kernel_rfl)) (by unfold Func.isWrapper; first | (rw [if_pos (by decide +kernel)]; kernel_rfl) | (rw [if_neg (by decide +kernel)]; exact ⟨rfl, rfl⟩))
    (fun os started H enc _ => lifted os started H enc)
theorem proved : Rows.FnExactVariablesSaid := over
#print axioms proved
end Go.Proofs.Ytkolhpmhbgbphaa.fnExactVariables
