/-
  The law FnExactSemijoin answers true at every argument.
-/
import Derived.Test.YtkohcdddgjaijaaRows
import Derived.Test.YtkohcdddgjaijaaKSemijoin2
import Derived.Test.YtkohcdddgjaijaaKSemijoin3
import Derived.Test.YtkohcdddgjaijaaKSemijoin5
import Derived.Test.YtkohcdddgjaijaaKSemijoin6
import Derived.Test.YtkohcdddgjaijaaKSemijoin9
import Derived.Test.YtkohcdddgjaijaaKSemijoin10
import Derived.WalkKit
import Derived.ProofKit
import Derived.OpenShut
import Derived.ShutString
import Derived.ChangeOld
import Derived.Below
import Derived.SizedLaws
import Derived.Lib.SmallJoins
namespace Go.Proofs.Ytkohcdddgjaijaa.PT
open Go.RowKit Go.Proofs.Ytkohcdddgjaijaa.P Go.Proofs.YtkohcdddgjaijaaW.PrintWords Go.Proofs.YtkohcdddgjaijaaW.PrintLast Go.Proofs.Ytkohcdddgjaijaa.EvKit
set_option linter.unusedVariables false
set_option linter.unusedSimpArgs false
def TrK (g : Nat) (w W : World) : Prop := w.heap.size ≤ W.heap.size ∧ ∀ k, k < w.heap.size → k ≠ g → W.heap[k]? = w.heap[k]?
theorem TrK.refl (g : Nat) (w : World) : TrK g w w := ⟨Nat.le_refl _, fun _ _ _ => rfl⟩
theorem TrK.below {g : Nat} {w W W' : World} (h : TrK g w W) (hb : Below W.heap.size W W') : TrK g w W' := ⟨Nat.le_trans h.1 hb.size, fun k hk hg => (hb.block k (Nat.lt_of_lt_of_le hk h.1)).trans (h.2 k hk hg)⟩
theorem TrK.grown {g : Nat} {w W W' : World} {row : Option Nat} (h : TrK g w W) (hg : W.grownBy W' row) (hr : ∀ k, row = some k → w.heap.size ≤ k) : TrK g w W' := ⟨Nat.le_trans h.1 hg.size, fun k hk hne => (hg.block k (Nat.lt_of_lt_of_le hk h.1) (fun e => by have := hr k e.symm; omega)).trans (h.2 k hk hne)⟩
theorem TrK.set {g : Nat} {w W : World} (h : TrK g w W) (j : Nat) (v : Value) : TrK g w (W.setCell ⟨g, j, none⟩ v) := ⟨Nat.le_trans h.1 (by simp), fun k hk hne => (Below.heap_setCell W ⟨g, j, none⟩ v k hne).trans (h.2 k hk hne)⟩
theorem TrK.drew {g : Nat} {w W : World} (h : TrK g w W) : TrK g w W.drew := h
set_option maxHeartbeats 1600000 in
set_option maxRecDepth 100000 in
theorem semiS_ok (A0 : Option Addr) (c0 : Nat) (atv : List Int) (A1 : Option Addr) (c1 : Nat) (arows : List (List Int)) (A2 : Option Addr) (c2 : Nat) (aws : List Int) (B0 : Option Addr) (d0 : Nat) (btv : List Int) (B1 : Option Addr) (d1 : Nat) (brows : List (List Int)) (B2 : Option Addr) (d2 : Nat) (bws : List Int) (w : World)
    (h0 : Kd.C (Kd.int .i64) w A0 atv.length atv) (l0 : atv.length ≤ c0) (h1 : Kd.C kRb w A1 arows.length arows) (l1 : arows.length ≤ c1) (h2 : Kd.C (Kd.int .i64) w A2 aws.length aws) (l2 : aws.length ≤ c2)
    (k0 : Kd.C (Kd.int .i64) w B0 btv.length btv) (m0 : btv.length ≤ d0) (k1 : Kd.C kRb w B1 brows.length brows) (m1 : brows.length ≤ d1) (k2 : Kd.C (Kd.int .i64) w B2 bws.length bws) (m2 : bws.length ≤ d2)
    (ga : tableOKb atv arows aws = true) (gb : tableOKb btv brows bws = true)
    (b0 : atv.length ≤ 1048576) (b1 : arows.length ≤ 1048576) (b1r : ∀ x, x ∈ arows → x.length ≤ 1048576) (b2 : btv.length ≤ 1048576) (b3 : brows.length ≤ 1048576) (b3r : ∀ x, x ∈ brows → x.length ≤ 1048576) :
    Calls Try.prog 15 #[.agg #[.slice A0 atv.length c0, .slice A1 arows.length c1, .slice A2 aws.length c2], .agg #[.slice B0 btv.length d0, .slice B1 brows.length d1, .slice B2 bws.length d2]] w (ProjPost w (semV atv arows aws btv brows bws)) := by
  have hrl := table_rows ga
  have hrb := table_rows gb
  have hwl : aws.length = arows.length := by
    unfold tableOKb at ga
    simp only [Bool.and_eq_true, decide_eq_true_eq] at ga
    exact ga.1.2
  have hcl : (cmn atv btv).length ≤ 1048576 := Nat.le_trans (cmn_len atv btv) b0
  obtain ⟨kt, hkt⟩ := Ev.rounds (specTableOK_ev atv arows aws b0 b1 (fun x hx => by have := b1r x hx; omega))
  obtain ⟨ku, hku⟩ := Ev.rounds (specTableOK_ev btv brows bws b2 b3 (fun x hx => by have := b3r x hx; omega))
  rw [ga] at hkt
  rw [gb] at hku
  obtain ⟨ks, hks⟩ := Ev.rounds (l2Shared_ev atv btv b0 b2)
  obtain ⟨kp, hkp⟩ := Ev.rounds (l2Project_ev btv brows bws (cmn atv btv) hrb b2 b3 hcl)
  have HTa := Aside0.mk (fun W (hb : Below w.heap.size w W) => spec_TableOK.calls kt A0 c0 atv A1 c1 arows A2 c2 aws _ W (Kd.C_below h0 hb) l0 (Kd.C_below h1 hb) l1 (Kd.C_below h2 hb) l2 hkt)
  have HTb := Aside0.mk (fun W (hb : Below w.heap.size w W) => spec_TableOK.calls ku B0 d0 btv B1 d1 brows B2 d2 bws _ W (Kd.C_below k0 hb) m0 (Kd.C_below k1 hb) m1 (Kd.C_below k2 hb) m2 hku)
  have HSh := Aside0.mk (fun W (hb : Below w.heap.size w W) => spec_l2Shared.calls ks A0 c0 atv B0 d0 btv _ W (Kd.C_below h0 hb) l0 (Kd.C_below k0 hb) m0 hks)
  have HPr := Aside0.mk (fun W A c (hb : Below w.heap.size w W) (hC : Kd.C (Kd.int .i64) W A (cmn atv btv).length (cmn atv btv)) (hc : (cmn atv btv).length ≤ c) => spec_l2Project.calls kp B0 d0 btv B1 d1 brows B2 d2 bws A c (cmn atv btv) (cmn atv btv) (keysV atv btv brows) (List.replicate (keysV atv btv brows).length 1) W (Kd.C_below k0 hb) m0 (Kd.C_below k1 hb) m1 (Kd.C_below k2 hb) m2 hC hc hkp)
  have HVs := Aside0.mk (fun r (hr : r ∈ arows) => Ev.rounds (l2Values_ev atv arows aws r (cmn atv btv) (hrl r hr) b0 hcl))
  have HVc := Aside0.mk (fun k r v W Ar cr A c (hb : Below w.heap.size w W) (hr : Kd.C (Kd.int .i64) W Ar r.length r) (hrc : r.length ≤ cr) (hC : Kd.C (Kd.int .i64) W A (cmn atv btv).length (cmn atv btv)) (hc : (cmn atv btv).length ≤ c) (hk : spec_l2Values.f k atv arows aws r (cmn atv btv) = some v) => spec_l2Values.calls k A0 c0 atv A1 c1 arows A2 c2 aws Ar cr r A c (cmn atv btv) v W (Kd.C_below h0 hb) l0 (Kd.C_below h1 hb) l1 (Kd.C_below h2 hb) l2 hr hrc hC hc hk)
  have HB := Aside0.mk (Below.refl w.heap.size w)
  have HA := Aside0.mk (fun W (hb : Below w.heap.size w W) => Kd.C_below h0 hb)
  have hsv : semV atv arows aws btv brows bws = (atv, (keptZ (semB atv btv brows) arows aws arows.length).map (·.1), (keptZ (semB atv btv brows) arows aws arows.length).map (·.2)) := by
    unfold semV; rw [if_pos ga, if_pos gb]
  have HSB : Aside0 (∀ r, semB atv btv brows r = decide (projR atv (cmn atv btv) r ∈ keysV atv btv brows)) := ⟨fun r => rfl⟩
  have HKS : Aside0 (Strict (keysV atv btv brows)) := ⟨strict_sdR (brows.map (projR btv (cmn atv btv)))⟩
  have HPl : Aside0 (∀ r, (projR atv (cmn atv btv) r).length = (cmn atv btv).length) := ⟨fun r => projR_len _ _ _⟩
  have HKL : Aside0 ((keysV atv btv brows).length ≤ 1048576 ∧ ∀ x, x ∈ keysV atv btv brows → x.length = (cmn atv btv).length) := ⟨by
    unfold keysV
    have := sdR_len (brows.map (projR btv (cmn atv btv)))
    rw [List.length_map] at this
    refine ⟨by omega, fun x hx => ?_⟩
    rw [mem_sdR] at hx
    obtain ⟨r, _, rfl⟩ := List.mem_map.1 hx
    exact projR_len _ _ _⟩
  have hfld := fld1
  rw [hsv]
  have HRa := Aside0.mk h1
  have HWa := Aside0.mk h2
  have HRL := Aside0.mk hrl
  have tokA : (1 : Nat) < 2 := by decide
  have HWL := Aside0.mk hwl
  have HLV : Aside0 ((keysV atv btv brows).length = (List.replicate (keysV atv btv brows).length (1 : Int)).length) := ⟨by rw [List.length_replicate]⟩
  clear h0 h1 h2 k0 k1 k2 ga gb hkt hku hks hkp hsv hrl hrb b1r b3r hwl
  generalize List.replicate (keysV atv btv brows).length (1 : Int) = reps at *
  generalize keysV atv btv brows = keys at *
  generalize semB atv btv brows = p at *
  generalize projR atv (cmn atv btv) = pr at *
  generalize cmn atv btv = cm at *
  go_enter Try.func15, Try.ntmps15
  go_wp2_with (first | (go_at_call 19; have tk := tokA; (with_reducible refine (HTa.out _ (below_alloc (below_alloc (below_alloc HB.out _) _) _)).mono ?_); clear HTa tk tokA; rintro e w1 ⟨rfl, hb1⟩; have HK0 := Aside0.mk (three0 hb1); have HK1 := Aside0.mk (three1 hb1); have HK2 := Aside0.mk (three2 hb1); have HB1 : Aside0 (Below w.heap.size w w1) := ⟨below_step (below_alloc (below_alloc (below_alloc HB.out _) _) _) hb1⟩; have hx0 : w1.cell? ⟨w.heap.size + 1, 0, none⟩ = some (.slice B0 btv.length d0) := (blk_cell HK1.out 0).trans rfl; have hx1 : w1.cell? ⟨w.heap.size + 1, 1, none⟩ = some (.slice B1 brows.length d1) := (blk_cell HK1.out 1).trans rfl; have hx2 : w1.cell? ⟨w.heap.size + 1, 2, none⟩ = some (.slice B2 bws.length d2) := (blk_cell HK1.out 2).trans rfl; clear hb1) | (go_at_call 19; (with_reducible refine (HTb.out _ HB1.out).mono ?_); clear HTb hx0 hx1 hx2; rintro e w2 ⟨rfl, hb2⟩; have HB2 : Aside0 (Below w.heap.size w w2) := ⟨below_step HB1.out hb2⟩; replace HK0 := Aside0.mk (blk_below HK0.out hb2); replace HK1 := Aside0.mk (blk_below HK1.out hb2); replace HK2 := Aside0.mk (blk_below HK2.out hb2); have hx0 : w2.cell? ⟨w.heap.size, 0, none⟩ = some (.slice A0 atv.length c0) := (blk_cell HK0.out 0).trans rfl; have hx1 : w2.cell? ⟨w.heap.size + 1, 0, none⟩ = some (.slice B0 btv.length d0) := (blk_cell HK1.out 0).trans rfl; clear hb2) | (go_at_call 33; (with_reducible refine (HSh.out _ HB2.out).mono ?_); clear HSh hx0 hx1; rintro e w3 ⟨v3, rfl, ho3, hb3⟩; obtain ⟨C3, e3, rfl, lC3, hC3⟩ := Kd.R_reads ho3; have HC3 := Aside0.mk hC3; have HL3 := Aside0.mk lC3; have HB3 : Aside0 (Below w.heap.size w w3) := ⟨below_step HB2.out hb3⟩; replace HK0 := Aside0.mk (blk_below HK0.out hb3); replace HK1 := Aside0.mk (blk_below HK1.out hb3); replace HK2 := Aside0.mk (blk_below HK2.out hb3); have hx0 : w3.cell? ⟨w.heap.size, 0, none⟩ = some (.slice A0 atv.length c0) := (blk_cell HK0.out 0).trans rfl; clear ho3 hb3 hC3 lC3) | ((with_reducible refine gate_dst (N := 24) rfl ?_); refine Kd.R_lit (Kd.int .i64) (w0 := w3) w3.heap.size 3 ?hg (N := 24) ?hd (xs := ([] : List Int)) (inner := []) (ok := fun _ => True) (okp := fun _ => True) ?hr ?hp (fun _ hk => hk) trivial (Below.refl _ _) (Nat.le_refl _) (by simp) ?_; (case hd => rfl); (case hg => rfl); (case hr => first | (go_simp; done) | (go_simp; rfl)); (case hp => exact (Reps.none _ _)); clear hx0; intro v4 w4 ho4 hb4 hg4 hn4; have HO4 := Aside0.mk ho4; have HB4 := Aside0.mk hb4; have hx0 : w4.cell? ⟨w.heap.size, 0, none⟩ = some (.slice A0 atv.length c0) := (blk_cell (blk_below HK0.out hb4) 0).trans rfl; clear ho4 hb4 hg4 hn4) | ((with_reducible refine gate_dst (N := 27) rfl ?_); refine Kd.R_append_rows (Kd.int .i64) (w0 := w3) w3.heap.size rfl (.tmp 24) (.tmp 26) 22 3 (.int .i64 0) 8 rfl Try.underlying22 info3 rfl (by decide) (by omega) v4 [] atv A0 atv.length c0 (fun _ => True) (fun _ => False) rfl rfl HO4.out ?aR (fun _ _ h => h) (fun _ hk => hk.elim) (fun _ _ => trivial) HB4.out HB4.out.size ?aL ?_; (case aR => exact (HA.out _ (below_step HB3.out HB4.out))); (case aL => (rw [List.length_nil]; omega)); clear hx0; intro v5 w5 hr5 hb5 hg5 hat5; rw [List.nil_append] at hr5; obtain ⟨D5, f5, rfl⟩ := Kd.R_slice hr5; have HO5 := Aside0.mk (Kd.R_lower hr5 HB3.out.size); have HB5 := Aside0.mk (below_step HB3.out hb5); replace HC3 := Aside0.mk (Kd.C_below HC3.out hb5); replace HK0 := Aside0.mk (blk_below HK0.out hb5); replace HK1 := Aside0.mk (blk_below HK1.out hb5); replace HK2 := Aside0.mk (blk_below HK2.out hb5); have hx0 : w5.cell? ⟨w.heap.size + 1, 0, none⟩ = some (.slice B0 btv.length d0) := (blk_cell HK1.out 0).trans rfl; have hx1 : w5.cell? ⟨w.heap.size + 1, 1, none⟩ = some (.slice B1 brows.length d1) := (blk_cell HK1.out 1).trans rfl; have hx2 : w5.cell? ⟨w.heap.size + 1, 2, none⟩ = some (.slice B2 bws.length d2) := (blk_cell HK1.out 2).trans rfl; have hlt5 : w.heap.size + 1 < w5.heap.size := blk_lt HK1.out; clear hr5 hb5 hg5 hat5 HO4 HB4) | (go_at_call 22; (with_reducible refine (HPr.out _ _ _ (below_alloc HB5.out _) (Kd.C_alloc HC3.out _) HL3.out).mono ?_); clear HPr hx0 hx1 hx2; rintro e w6 ⟨v0, v1, v2, rfl, hv0, hv1, hv2, hb6⟩; obtain ⟨E0, g0, rfl⟩ := Kd.R_slice hv0; obtain ⟨E2, g2, rfl⟩ := Kd.R_slice hv2; obtain ⟨E1, g1, rfl⟩ := Kd.V_slice hv1; have hlv := (Kd.V_reads' hv1).2.1; have HLE := Aside0.mk hlv; have HV := Aside0.mk (Kd.V_mono hv1 (ok' := fun k => w5.heap.size < k) (fun k hk => by have h := hk.1; rw [al_size] at h; omega)); have HK6 := Aside0.mk (one0 hb6); have HB6 : Aside0 (Below w5.heap.size w5 w6) := ⟨below_step (below_alloc (Below.refl _ _) _) hb6⟩; have hx1 : w6.cell? ⟨w.heap.size, 1, none⟩ = some (.slice A1 arows.length c1) := (blk_cell (blk_below HK0.out HB6.out) 1).trans rfl; clear hv0 hv1 hv2 hb6 hlv))
  clear hx1
  go_loopg [36] arows.length (fun G s36 wr => ∃ (i : Nat) (u1 u2 : Value), s36 = .int .i64 (i : Int) ∧ i ≤ arows.length ∧ arows.length - i ≤ G ∧ Aside0 (Below w5.heap.size w5 wr) ∧ Aside0 (TrK w5.heap.size w6 wr) ∧ Aside0 (wr.heap[w5.heap.size]? = some (.cells #[.slice D5 atv.length f5, u1, u2] 27 (0, 0))) ∧ Aside0 (Kd.S kRb 22 wr w5.heap.size (fun k => some k ≠ u2.ownBlock ∧ w6.heap.size ≤ k) u1 ((keptZ p arows aws i).map (·.1))) ∧ Aside0 (Kd.R (Kd.int .i64) 3 wr w5.heap.size (fun k => w6.heap.size ≤ k) u2 ((keptZ p arows aws i).map (·.2))))
  case atStart => exact ⟨0, .slice none 0 0, .slice none 0 0, rfl, Nat.zero_le _, by omega, HB6, ⟨TrK.refl _ _⟩, HK6, ⟨Kd.S_nil _ _ _ _ _⟩, ⟨Kd.R_nil _ _ _ _ _⟩⟩
  case round =>
    obtain ⟨i, u1, u2, rfl, hi, hg, HBr, HTr, HK, HS, HW⟩ := hrel
    by_cases hlt : i < arows.length
    · obtain ⟨ad, A5, c5, e, hx5, hl5, hC5⟩ := row_at HRa.out i hlt
      cases e
      have hwt : i < aws.length := by rw [HWL.out]; exact hlt
      obtain ⟨ad2, e, hx6⟩ := Kd.at_int HWa.out (i : Int) (by omega) (by omega)
      cases e
      have HE : Aside0 (keptZ p arows aws (i + 1) = keptZ p arows aws i ++ (if p arows[i] = true then [(arows[i], aws[i])] else [])) := ⟨keptZ_succ hlt hwt⟩
      have HLz : Aside0 ((keptZ p arows aws i).length ≤ 1048576) := ⟨Nat.le_trans (keptZ_len _ _ _ _) b1⟩
      have HBw : Aside0 (Below w.heap.size w wr) := ⟨below_step HB5.out HBr.out⟩
      have hrl5 : (arows[i]).length ≤ 1048576 := by rw [← HRL.out _ (List.getElem_mem hlt)]; exact b0
      have HC5r : Aside0 (Kd.C (Kd.int .i64) wr A5 (arows[i]).length arows[i]) := ⟨Kd.C_below hC5 HBw.out⟩
      obtain ⟨kv, hkv⟩ := HVs.out _ (List.getElem_mem hlt)
      have HPk : Aside0 (Calls Try.prog 35 #[.agg #[.slice A0 atv.length c0, .slice (some ad) arows.length c1, .slice (some ad2) aws.length c2], .slice A5 (arows[i]).length c5, .slice C3 cm.length e3] wr fun e w' => ∃ v, e = .returned v ∧ Kd.R (Kd.int .i64) 3 w' wr.heap.size (fun _ => True) v (pr arows[i]) ∧ Below wr.heap.size wr w') := ⟨HVc.out kv arows[i] (pr arows[i]) wr A5 c5 C3 e3 HBw.out HC5r.out hl5 (Kd.C_below HC3.out HBr.out) HL3.out hkv⟩
      obtain ⟨kb, hkb⟩ := Ev.rounds (begins_ev keys (pr arows[i]) HKL.out.1 (by rw [HPl.out]; exact hcl) HKS.out (fun x hx => by rw [HPl.out]; exact HKL.out.2 x hx))
      rw [← HSB.out] at hkb
      have HBs : Aside0 (∀ W2 Au cu, TrK w5.heap.size w6 W2 → Kd.C (Kd.int .i64) W2 Au (pr arows[i]).length (pr arows[i]) → (pr arows[i]).length ≤ cu → Calls Try.prog 34 #[.slice E1 keys.length g1, .slice Au (pr arows[i]).length cu] W2 fun e w' => e = .returned (.bool (p arows[i])) ∧ Drawn0 W2 w') := ⟨fun W2 Au cu ht hC hc => spec_l2Begins.calls kb E1 g1 keys Au cu (pr arows[i]) _ W2 (Kd.V_reads' (Kd.V_step HV.out (fun k hk hl => ht.2 k hl (by omega)))).2.2 HLE.out hC hc hkb⟩
      clear hkv hkb
      replace hx5 : wr.cell? (ad.add i) = some (.slice A5 (arows[i]).length c5) := (HBw.out.cell (World.block_lt_of_cell? w _ hx5)).trans hx5
      have HX6 : Aside0 (∀ W, Below w.heap.size w W → W.cell? (ad2.add i) = some (.int .i64 aws[i])) := ⟨fun W hb => (hb.cell (World.block_lt_of_cell? w _ hx6)).trans (by rw [hx6]; rw [rd_at hwt])⟩
      have hx0 : wr.cell? ⟨w.heap.size, 0, none⟩ = some (.slice A0 atv.length c0) := (blk_cell (blk_below HK0.out HBr.out) 0).trans rfl
      have hx1 : wr.cell? ⟨w.heap.size, 1, none⟩ = some (.slice (some ad) arows.length c1) := (blk_cell (blk_below HK0.out HBr.out) 1).trans rfl
      have hx2 : wr.cell? ⟨w.heap.size, 2, none⟩ = some (.slice (some ad2) aws.length c2) := (blk_cell (blk_below HK0.out HBr.out) 2).trans rfl
      clear hx6 hC5 hl5
      by_cases hp : p arows[i] = true
      · have HEa : Aside0 ((keptZ p arows aws (i + 1)).map (·.1) = (keptZ p arows aws i).map (·.1) ++ [arows[i]]) := ⟨by rw [HE.out, if_pos hp, List.map_append]; rfl⟩
        have HEb : Aside0 ((keptZ p arows aws (i + 1)).map (·.2) = (keptZ p arows aws i).map (·.2) ++ [aws[i]]) := ⟨by rw [HE.out, if_pos hp, List.map_append]; rfl⟩
        have HLa : Aside0 (((keptZ p arows aws i).map (·.1)).length ≤ 1048576 ∧ ((keptZ p arows aws i).map (·.2)).length ≤ 1048576) := ⟨by rw [List.length_map, List.length_map]; exact ⟨HLz.out, HLz.out⟩⟩
        have hb6 : (0 : Int) ≤ (i : Int) ∧ (i : Int) < (aws.length : Int) := ⟨by omega, by omega⟩
        rw [hp] at HBs
        clear HE HLz hp
        generalize (keptZ p arows aws i).map (·.1) = rws at *
        generalize (keptZ p arows aws i).map (·.2) = wts at *
        generalize arows[i] = row at *
        generalize aws[i] = wt at *
        clear hwt
        go_wp2_with (first | (go_at_call 35; (with_reducible refine HPk.out.mono ?_); clear HPk; rintro e w8 ⟨v8, rfl, ho8, hb8⟩; obtain ⟨A8, c8, rfl, lC8, hC8⟩ := Kd.R_reads ho8; have HC8 := Aside0.mk hC8; have HL8 := Aside0.mk lC8; have HB8 := Aside0.mk hb8; clear ho8 hC8 lC8 hb8) | (go_at_call 34; (with_reducible refine (HBs.out _ _ _ (HTr.out.below HB8.out) HC8.out HL8.out).mono ?_); clear HBs; rintro e w9 ⟨rfl, ⟨n9, rfl⟩⟩))
        have HBn : Aside0 (Below wr.heap.size wr (w8.drewN n9)) := ⟨pw_below_drewN HB8.out n9⟩
        clear HC8 HB8 hx5 hx0 hx1 hx2
        generalize w8.drewN n9 = w9 at *
        have HB9 : Aside0 (Below w5.heap.size w5 w9.drew) := ⟨below_drew (below_step HBr.out HBn.out)⟩
        have HT9 : Aside0 (TrK w5.heap.size w6 w9.drew) := ⟨(HTr.out.below HBn.out).drew⟩
        have HC9 : Aside0 (Kd.C (Kd.int .i64) w9.drew A5 row.length row) := ⟨Kd.C_drew (Kd.C_below HC5r.out HBn.out)⟩
        have HS9 := Aside0.mk (Kd.S_drew (Kd.S_below HS.out HBn.out))
        have HW9 := Aside0.mk (Kd.R_drew (Kd.R_below HW.out HBn.out))
        have HK9 := Aside0.mk (blk_drew (blk_below HK.out HBn.out))
        clear HK HS HW HC5r HBr HTr HBw HBn
        refine start_ (n := 9) (S := fun w' => w'.cell? ⟨w5.heap.size, 1, none⟩ = some u1) (ds := [8]) #[false, false, false, false, false, false, false, false, false] (by kernel_rfl) rfl rfl ((blk_cell HK9.out 1).trans rfl) (fun hHeld => ?_)
        generalize w9.drew = w10 at *
        refine pure_ (i := 0) (N := some 47) (v := ?_) (a' := ?_) #[true, false, false, false, false, false, false, false, false] rfl rfl (by kernel_rfl) (fun _ _ _ h => h) (Or.inl ⟨by rfl, ?_⟩) ?_ ?_
        rotate_left
        · intro w'
          go_simp
          with_reducible rfl
        rotate_left
        · simp only [Act.put, List.setIfInBounds_toArray, List.set_cons_zero, List.set_cons_succ, i64_w, i32_w]
          rfl
        refine pure_ (i := 3) (N := some 50) (v := ?_) (a' := ?_) #[true, false, false, true, false, false, false, false, false] rfl rfl (by kernel_rfl) (fun _ _ _ h => h) (Or.inl ⟨by rfl, ?_⟩) ?_ ?_
        rotate_left
        · intro w'
          go_simp
          with_reducible rfl
        rotate_left
        · simp only [Act.put, List.setIfInBounds_toArray, List.set_cons_zero, List.set_cons_succ, i64_w, i32_w]
          rfl
        refine take_ (i := 1) (N := some 48) (v := ?_) (a' := ?_) #[true, true, false, true, false, false, false, false, false] rfl rfl (by kernel_rfl) (fun _ _ _ h => h) (Or.inl ⟨by rfl, ?_⟩) hHeld ?_ ?_
        rotate_left
        · intro w' s0
          go_simp
          with_reducible rfl
        rotate_left
        · simp only [Act.put, List.setIfInBounds_toArray, List.set_cons_zero, List.set_cons_succ, i64_w, i32_w]
          rfl
        refine one_ (i := 2) (N := some 49) #[true, true, true, true, false, false, false, false, false] rfl rfl (by kernel_rfl) (by decide) (fun K hK => ?_)
        refine Kd.R_lit_step (Kd.int .i64) (w0 := w10) w10.heap.size 3 ?hg (N := 49) ?hd (xs := ([] : List Int)) (inner := []) (ok := fun _ => True) (okp := fun _ => True) ?hr ?hp (fun _ hk => hk) trivial (Below.refl _ _) (Nat.le_refl _) (by simp) ?_; (case hd => rfl); (case hg => rfl); (case hr => first | (go_simp; done) | (go_simp; rfl)); (case hp => exact (Reps.none _ _))
        intro v11 w11 ho11 hb11 hg11 hn11
        have HO11 := Aside0.mk ho11
        have HB11 := Aside0.mk hb11
        clear ho11 hb11 hg11 hn11
        refine hK.out _ _ ((blk_cell (blk_below HK9.out HB11.out) 1).trans rfl) (fun hHeld => ?_)
        clear hK K
        refine norm_ (a' := ?_) ?_ ?_
        rotate_left
        · show Act.put _ (some 49) _ = _
          simp only [Act.put, List.setIfInBounds_toArray, List.set_cons_zero, List.set_cons_succ, i64_w, i32_w]
          rfl
        refine one_ (i := 4) (N := some 51) #[true, true, true, true, true, false, false, false, false] rfl rfl (by kernel_rfl) (by decide) (fun K hK => ?_)
        refine Kd.R_append_rows_step (Kd.int .i64) (w0 := w10) w10.heap.size (by rfl) (.tmp 49) (.tmp 50) 22 3 (.int .i64 0) 8 rfl Try.underlying22 info3 rfl (by decide) (by omega) v11 [] row _ _ _ (fun _ => True) (fun _ => False) rfl rfl HO11.out ?aR (fun _ _ h => h) (fun _ h => h.elim) (fun _ _ => trivial) HB11.out HB11.out.size ?aL ?_
        (case aR => exact (Kd.C_below HC9.out HB11.out))
        (case aL => (rw [List.length_nil]; omega))
        intro v12 w12 ho12 hb12 hg12 hat12
        rw [List.nil_append] at ho12
        obtain ⟨A12, c12, rfl⟩ := Kd.R_slice ho12
        have HU1 := Aside0.mk (Kd.S_lt HS9.out)
        have HU2 := Aside0.mk (Kd.R_lt HW9.out)
        have HO12 := Aside0.mk (Kd.R_lower (Kd.R_mono (Kd.R_bound ho12) (ok' := fun k => w10.heap.size ≤ k) (fun k hk => hk.2.1)) HB9.out.size)
        have HS12 := Aside0.mk (Kd.S_below (Kd.S_mono (Kd.S_bound HS9.out) (ok' := fun k => (some k ≠ u2.ownBlock ∧ w6.heap.size ≤ k) ∧ ¬ w10.heap.size ≤ k) (fun k hk => ⟨hk.1, by have := hk.2.2.1; omega⟩)) hb12)
        have HW12 := Aside0.mk (Kd.R_below HW9.out hb12)
        have HK12 := Aside0.mk (blk_below HK9.out hb12)
        have HB12 := Aside0.mk (below_step HB9.out hb12)
        have HT12 := Aside0.mk (HT9.out.below hb12)
        have HZ12 := Aside0.mk hb12.size
        clear ho12 hb12 hg12 hat12 HO11 HB11 HS9 HW9 HK9
        refine hK.out _ _ ((blk_cell HK12.out 1).trans rfl) (fun hHeld => ?_)
        clear hK K
        refine norm_ (a' := ?_) ?_ ?_
        rotate_left
        · show Act.put _ (some 51) _ = _
          simp only [Act.put, List.setIfInBounds_toArray, List.set_cons_zero, List.set_cons_succ, i64_w, i32_w]
          rfl
        refine one_ (i := 5) (N := some 52) #[true, true, true, true, true, true, false, false, false] rfl rfl (by kernel_rfl) (by decide) (fun K hK => ?_)
        refine value_ (w1 := ?_) (v := ?_) (by rfl) rfl ?_ ?_
        rotate_left 2
        · go_simp
          constructor
          · rfl
          · rfl
        refine hK.out _ _ ((blk_cell (blk_alloc HK12.out _) 1).trans rfl) (fun hHeld => ?_)
        clear hK K
        refine norm_ (a' := ?_) ?_ ?_
        rotate_left
        · show Act.put _ (some 52) _ = _
          simp only [Act.put, List.setIfInBounds_toArray, List.set_cons_zero, List.set_cons_succ, i64_w, i32_w]
          rfl
        refine one_ (i := 6) (N := some 53) #[true, true, true, true, true, true, true, false, false] rfl rfl (by kernel_rfl) (by decide) (fun K hK => ?_)
        refine Kd.S_append_step kRb (w0 := w5) w5.heap.size (by rfl) (.tmp 48) (.tmp 52) 23 22 (.slice none 0 0) 24 rfl Try.underlying23 info22 rfl (by decide) (by omega) u1 rws row [.slice A12 row.length c12] (fun k => some k ≠ u2.ownBlock ∧ w6.heap.size ≤ k) (fun k => w10.heap.size ≤ k) rfl rfl ⟨_, rfl, HO12.out⟩ (fun k hk => ⟨⟨fun e => by have := HU2.out k e.symm; omega, by have := HT9.out.1; omega⟩, fun e => by have := HU1.out k e.symm; omega⟩) (fun k hk => ⟨fun e => by have := HU2.out k e.symm; have := HZ12.out; omega, by have := HT12.out.1; omega⟩) HS12.out HB12.out HB12.out.size (by have := HLa.out.1; omega) ?_
        intro v13 w13 hs13 hb13 hg13 hat13
        have HW13 := Aside0.mk (Kd.R_over' HW12.out (Kd.S_typed HS12.out) (by decide) hg13)
        have HK13 := Aside0.mk (blk_grown HK12.out hg13 (Kd.S_ne HS12.out HK12.out (by decide)))
        have HT13 := Aside0.mk (HT12.out.grown hg13 (fun k e => ((Kd.S_R HS12.out).1 k e).1.2))
        have HB13 := Aside0.mk hb13
        generalize hy : rws ++ [row] = rws' at hs13 HEa
        obtain ⟨A13, c13, rfl⟩ := Kd.S_slice hs13
        have HS13 := Aside0.mk hs13
        clear hs13 hb13 hg13 hat13 HW12 HK12 HB12 HS12 HO12 HT12 HT9 HB9 hy
        refine hK.out _ _ ((blk_cell HK13.out 1).trans rfl) (fun hHeld => ?_)
        clear hK K
        refine norm_ (a' := ?_) ?_ ?_
        rotate_left
        · show Act.put _ (some 53) _ = _
          simp only [Act.put, List.setIfInBounds_toArray, List.set_cons_zero, List.set_cons_succ, i64_w, i32_w]
          rfl
        refine pure_ (i := 7) (N := some 54) (v := ?_) (a' := ?_) #[true, true, true, true, true, true, true, true, false] rfl rfl (by kernel_rfl) (fun _ _ _ h => h) (Or.inl ⟨by rfl, ?_⟩) ?_ ?_
        rotate_left
        · intro w'
          go_simp
          with_reducible rfl
        rotate_left
        · simp only [Act.put, List.setIfInBounds_toArray, List.set_cons_zero, List.set_cons_succ, i64_w, i32_w]
          rfl
        refine last_ (i := 8) (N := none) #[true, true, true, true, true, true, true, true, true] rfl rfl (by kernel_rfl) (by decide) (fun K hK => ?_)
        have hs13 : w13.cell? ⟨w5.heap.size, 1, none⟩ = some u1 := (blk_cell HK13.out 1).trans rfl
        have hf13 := blk_frozen HK13.out 1
        refine skip_ (w1 := ?_) (by rfl) rfl ?_ ?_
        rotate_left
        · go_simp
          rfl
        refine hK.out _ _ ?_
        clear hK K
        refine done_ (by kernel_rfl) ?_
        clear hs13 hf13
        have HK14 : Aside0 ((w13.setCell ⟨w5.heap.size, 1, none⟩ (.slice A13 rws'.length c13)).heap[w5.heap.size]? = some (.cells #[.slice D5 atv.length f5, .slice A13 rws'.length c13, u2] 27 (0, 0))) := ⟨blk_put HK13.out 1 _ rfl⟩
        have HS14 := Aside0.mk (Kd.S_mono (Kd.S_far (p := ⟨w5.heap.size, 1, none⟩) (Kd.S_types HS13.out HK13.out (by decide)) (fun k hk => hk.2) (.slice A13 rws'.length c13)) (fun k hk => hk.1))
        have HW14 := Aside0.mk (Kd.R_mono (Kd.R_far (p := ⟨w5.heap.size, 1, none⟩) (Kd.R_types HW13.out HK13.out (by decide)) (fun k hk => hk.2) (.slice A13 rws'.length c13)) (fun k hk => hk.1))
        have HB14 : Aside0 (Below w5.heap.size w5 (w13.setCell ⟨w5.heap.size, 1, none⟩ (.slice A13 rws'.length c13))) := ⟨below_set HB13.out (Nat.le_refl _)⟩
        have HT14 : Aside0 (TrK w5.heap.size w6 (w13.setCell ⟨w5.heap.size, 1, none⟩ (.slice A13 rws'.length c13))) := ⟨HT13.out.set 1 _⟩
        clear HS13 HW13 HK13 HB13 HT13
        generalize w13.setCell ⟨w5.heap.size, 1, none⟩ (.slice A13 rws'.length c13) = w14 at *
        go_wp2
        have HB15 : Aside0 (Below w5.heap.size w5 w14.drew) := ⟨below_drew HB14.out⟩
        have HS15 := Aside0.mk (Kd.S_drew HS14.out)
        have HW15 := Aside0.mk (Kd.R_drew HW14.out)
        have HK15 := Aside0.mk (blk_drew HK14.out)
        have HT15 := Aside0.mk HT14.out.drew
        have hx15 : w14.drew.cell? (ad2.add i) = some (.int .i64 wt) := HX6.out _ (below_step HB5.out HB15.out)
        have hk15 : w14.drew.cell? ⟨w.heap.size, 2, none⟩ = some (.slice (some ad2) aws.length c2) := (blk_cell (blk_below HK0.out HB15.out) 2).trans rfl
        clear HB14 HS14 HW14 HK14 HT14
        refine start_ (n := 11) (S := fun w' => w'.cell? ⟨w5.heap.size, 2, none⟩ = some u2 ∧ w'.cell? ⟨w.heap.size, 2, none⟩ = some (.slice (some ad2) aws.length c2) ∧ w'.cell? (ad2.add i) = some (.int .i64 wt)) (ds := [10]) #[false, false, false, false, false, false, false, false, false, false, false] (by kernel_rfl) rfl rfl ⟨(blk_cell HK15.out 2).trans rfl, hk15, hx15⟩ (fun hHeld => ?_)
        generalize w14.drew = w15 at *
        refine pure_ (i := 0) (N := some 55) (v := ?_) (a' := ?_) #[true, false, false, false, false, false, false, false, false, false, false] rfl rfl (by kernel_rfl) (fun _ _ _ h => h) (Or.inl ⟨by rfl, ?_⟩) ?_ ?_
        rotate_left
        · intro w'
          go_simp
          with_reducible rfl
        rotate_left
        · simp only [Act.put, List.setIfInBounds_toArray, List.set_cons_zero, List.set_cons_succ, i64_w, i32_w]
          rfl
        refine pure_ (i := 2) (N := some 57) (v := ?_) (a' := ?_) #[true, false, true, false, false, false, false, false, false, false, false] rfl rfl (by kernel_rfl) (fun _ _ _ h => h) (Or.inl ⟨by rfl, ?_⟩) ?_ ?_
        rotate_left
        · intro w'
          go_simp
          with_reducible rfl
        rotate_left
        · simp only [Act.put, List.setIfInBounds_toArray, List.set_cons_zero, List.set_cons_succ, i64_w, i32_w]
          rfl
        refine pure_ (i := 4) (N := some 59) (v := ?_) (a' := ?_) #[true, false, true, false, true, false, false, false, false, false, false] rfl rfl (by kernel_rfl) (fun _ _ _ h => h) (Or.inl ⟨by rfl, ?_⟩) ?_ ?_
        rotate_left
        · intro w'
          go_simp
          with_reducible rfl
        rotate_left
        · simp only [Act.put, List.setIfInBounds_toArray, List.set_cons_zero, List.set_cons_succ, i64_w, i32_w]
          rfl
        refine take_ (i := 1) (N := some 56) (v := ?_) (a' := ?_) #[true, true, true, false, true, false, false, false, false, false, false] rfl rfl (by kernel_rfl) (fun _ _ _ h => h) (Or.inl ⟨by rfl, ?_⟩) hHeld ?_ ?_
        rotate_left
        · rintro w' ⟨s0, s1, s2⟩
          go_simp
          with_reducible rfl
        rotate_left
        · simp only [Act.put, List.setIfInBounds_toArray, List.set_cons_zero, List.set_cons_succ, i64_w, i32_w]
          rfl
        refine take_ (i := 3) (N := some 58) (v := ?_) (a' := ?_) #[true, true, true, true, true, false, false, false, false, false, false] rfl rfl (by kernel_rfl) (fun _ _ _ h => h) (Or.inl ⟨by rfl, ?_⟩) hHeld ?_ ?_
        rotate_left
        · rintro w' ⟨s0, s1, s2⟩
          go_simp
          with_reducible rfl
        rotate_left
        · simp only [Act.put, List.setIfInBounds_toArray, List.set_cons_zero, List.set_cons_succ, i64_w, i32_w]
          rfl
        refine take_ (i := 5) (N := some 60) (v := ?_) (a' := ?_) #[true, true, true, true, true, true, false, false, false, false, false] rfl rfl (by kernel_rfl) (fun _ _ _ h => h) (Or.inl ⟨by rfl, ?_⟩) hHeld ?_ ?_
        rotate_left
        · rintro w' ⟨s0, s1, s2⟩
          go_simp
          with_reducible rfl
        rotate_left
        · simp only [Act.put, List.setIfInBounds_toArray, List.set_cons_zero, List.set_cons_succ, i64_w, i32_w]
          rfl
        refine take_ (i := 6) (N := some 61) (v := ?_) (a' := ?_) #[true, true, true, true, true, true, true, false, false, false, false] rfl rfl (by kernel_rfl) (fun _ _ _ h => h) (Or.inl ⟨by rfl, ?_⟩) hHeld ?_ ?_
        rotate_left
        · rintro w' ⟨s0, s1, s2⟩
          go_simp
          with_reducible rfl
        rotate_left
        · simp only [Act.put, List.setIfInBounds_toArray, List.set_cons_zero, List.set_cons_succ, i64_w, i32_w]
          rfl
        refine one_ (i := 7) (N := some 62) #[true, true, true, true, true, true, true, true, false, false, false] rfl rfl (by kernel_rfl) (by decide) (fun K hK => ?_)
        refine value_ (w1 := ?_) (v := ?_) (by rfl) rfl ?_ ?_
        rotate_left 2
        · go_simp
          constructor
          · rfl
          · rfl
        refine hK.out _ _ ⟨(blk_cell (blk_alloc HK15.out _) 2).trans rfl, (blk_cell (blk_alloc (blk_below HK0.out HB15.out) _) 2).trans rfl, HX6.out _ (below_alloc (below_step HB5.out HB15.out) _)⟩ (fun hHeld => ?_)
        clear hK K
        refine norm_ (a' := ?_) ?_ ?_
        rotate_left
        · show Act.put _ (some 62) _ = _
          simp only [Act.put, List.setIfInBounds_toArray, List.set_cons_zero, List.set_cons_succ, i64_w, i32_w]
          rfl
        refine one_ (i := 8) (N := some 63) #[true, true, true, true, true, true, true, true, true, false, false] rfl rfl (by kernel_rfl) (by decide) (fun K hK => ?_)
        refine Kd.R_append_step (Kd.int .i64) (w0 := w5) w5.heap.size (by rfl) (.tmp 56) (.tmp 62) 22 3 (.int .i64 0) 8 rfl Try.underlying22 info3 rfl (by decide) (by omega) u2 wts wt [.int .i64 wt] (fun k => w6.heap.size ≤ k) (fun _ => False) rfl rfl rfl (fun _ hk => hk.elim) (fun k hk => by have := HT15.out.1; omega) HW15.out HB15.out HB15.out.size (by have := HLa.out.2; omega) ?_
        intro v16 w16 hr16 hb16 hg16 hat16
        have HS16 := Aside0.mk (Kd.S_after (ok := fun k => w6.heap.size ≤ k) (Kd.S_mono HS15.out (fun k hk => ⟨hk.2, hk.1⟩)) hg16 hat16)
        have HK16 := Aside0.mk (blk_grown HK15.out hg16 (Kd.R_ne HW15.out HK15.out (by decide)))
        have HT16 := Aside0.mk (HT15.out.grown hg16 (fun k e => HW15.out.1 k e))
        have HB16 := Aside0.mk hb16
        have HX16 := HX6.out _ (below_step HB5.out hb16)
        generalize hy : wts ++ [wt] = wts' at hr16 HEb
        obtain ⟨A16, c16, rfl⟩ := Kd.R_slice hr16
        have HR16 := Aside0.mk hr16
        clear hr16 hb16 hg16 hat16 HW15 HK15 HB15 HS15 hx15 hk15 HT15 hy
        refine hK.out _ _ ⟨(blk_cell HK16.out 2).trans rfl, (blk_cell (blk_below HK0.out HB16.out) 2).trans rfl, HX16⟩ (fun hHeld => ?_)
        clear hK K HX16
        refine norm_ (a' := ?_) ?_ ?_
        rotate_left
        · show Act.put _ (some 63) _ = _
          simp only [Act.put, List.setIfInBounds_toArray, List.set_cons_zero, List.set_cons_succ, i64_w, i32_w]
          rfl
        refine pure_ (i := 9) (N := some 64) (v := ?_) (a' := ?_) #[true, true, true, true, true, true, true, true, true, true, false] rfl rfl (by kernel_rfl) (fun _ _ _ h => h) (Or.inl ⟨by rfl, ?_⟩) ?_ ?_
        rotate_left
        · intro w'
          go_simp
          with_reducible rfl
        rotate_left
        · simp only [Act.put, List.setIfInBounds_toArray, List.set_cons_zero, List.set_cons_succ, i64_w, i32_w]
          rfl
        refine last_ (i := 10) (N := none) #[true, true, true, true, true, true, true, true, true, true, true] rfl rfl (by kernel_rfl) (by decide) (fun K hK => ?_)
        have hs16 : w16.cell? ⟨w5.heap.size, 2, none⟩ = some u2 := (blk_cell HK16.out 2).trans rfl
        have hf16 := blk_frozen HK16.out 2
        refine skip_ (w1 := ?_) (by rfl) rfl ?_ ?_
        rotate_left
        · go_simp
          rfl
        refine hK.out _ _ ?_
        clear hK K
        refine done_ (by kernel_rfl) ?_
        clear hs16 hf16
        have HK17 : Aside0 ((w16.setCell ⟨w5.heap.size, 2, none⟩ (.slice A16 wts'.length c16)).heap[w5.heap.size]? = some (.cells #[.slice D5 atv.length f5, .slice A13 rws'.length c13, .slice A16 wts'.length c16] 27 (0, 0))) := ⟨blk_put HK16.out 2 _ rfl⟩
        have HS17 := Aside0.mk (Kd.S_mono (Kd.S_far (p := ⟨w5.heap.size, 2, none⟩) (Kd.S_types HS16.out HK16.out (by decide)) (fun k hk => hk.2) (.slice A16 wts'.length c16)) (ok' := fun k => some k ≠ (.slice A16 wts'.length c16 : Value).ownBlock ∧ w6.heap.size ≤ k) (fun k hk => ⟨hk.1.2, hk.1.1⟩))
        have HW17 := Aside0.mk (Kd.R_mono (Kd.R_far (p := ⟨w5.heap.size, 2, none⟩) (Kd.R_types HR16.out HK16.out (by decide)) (fun k hk => hk.2) (.slice A16 wts'.length c16)) (ok' := fun k => w6.heap.size ≤ k) (fun k hk => hk.1))
        have HB17 : Aside0 (Below w5.heap.size w5 (w16.setCell ⟨w5.heap.size, 2, none⟩ (.slice A16 wts'.length c16))) := ⟨below_set HB16.out (Nat.le_refl _)⟩
        have HT17 : Aside0 (TrK w5.heap.size w6 (w16.setCell ⟨w5.heap.size, 2, none⟩ (.slice A16 wts'.length c16))) := ⟨HT16.out.set 2 _⟩
        clear HS16 HR16 HK16 HB16 HT16
        generalize w16.setCell ⟨w5.heap.size, 2, none⟩ (.slice A16 wts'.length c16) = w17 at *
        go_wp2
        go_roundg (arows.length - (i + 1))
        case measure => omega
        case rel => exact ⟨i + 1, .slice A13 rws'.length c13, .slice A16 wts'.length c16, by go_num, by omega, Nat.le_refl _, HB17, HT17, HK17, ⟨by rw [HEa.out]; exact HS17.out⟩, ⟨by rw [HEb.out]; exact HW17.out⟩⟩
      · have HEa : Aside0 (keptZ p arows aws (i + 1) = keptZ p arows aws i) := ⟨by rw [HE.out, if_neg hp, List.append_nil]⟩
        have hp2 : p arows[i] = false := by simpa using hp
        rw [hp2] at HBs
        clear HE HLz hp hp2 HX6
        generalize arows[i] = row at *
        clear hwt
        go_wp2_with (first | (go_at_call 35; (with_reducible refine HPk.out.mono ?_); clear HPk; rintro e w8 ⟨v8, rfl, ho8, hb8⟩; obtain ⟨A8, c8, rfl, lC8, hC8⟩ := Kd.R_reads ho8; have HC8 := Aside0.mk hC8; have HL8 := Aside0.mk lC8; have HB8 := Aside0.mk hb8; clear ho8 hC8 lC8 hb8) | (go_at_call 34; (with_reducible refine (HBs.out _ _ _ (HTr.out.below HB8.out) HC8.out HL8.out).mono ?_); clear HBs; rintro e w9 ⟨rfl, ⟨n9, rfl⟩⟩))
        have HBn : Aside0 (Below wr.heap.size wr (w8.drewN n9)) := ⟨pw_below_drewN HB8.out n9⟩
        go_roundg (arows.length - (i + 1))
        case measure => omega
        case rel => exact ⟨i + 1, u1, u2, by go_num, by omega, Nat.le_refl _, ⟨below_step HBr.out HBn.out⟩, ⟨HTr.out.below HBn.out⟩, ⟨blk_below HK.out HBn.out⟩, ⟨by rw [HEa.out]; exact Kd.S_below HS.out HBn.out⟩, ⟨by rw [HEa.out]; exact Kd.R_below HW.out HBn.out⟩⟩
    · have hie : i = arows.length := by omega
      subst hie
      have HLa : Aside0 (((keptZ p arows aws arows.length).map (·.1)).length ≤ 1048576 ∧ ((keptZ p arows aws arows.length).map (·.2)).length ≤ 1048576) := ⟨by
        have := keptZ_len p arows aws arows.length
        rw [List.length_map, List.length_map]; omega⟩
      generalize hr1 : (keptZ p arows aws arows.length).map (·.1) = rws at HS HLa
      generalize hr2 : (keptZ p arows aws arows.length).map (·.2) = wts at HW HLa
      have HR1 := Aside0.mk hr1
      have HR2 := Aside0.mk hr2
      clear hr1 hr2
      obtain ⟨F1, e1, rfl⟩ := Kd.S_slice HS.out
      obtain ⟨F2, e2, rfl⟩ := Kd.R_slice HW.out
      have HK3 : Aside0 (wr.heap[w.heap.size + 2]? = some (.cells #[.slice none 0 0, .slice none 0 0, .slice none 0 0] 27 (0, 0))) := ⟨blk_below HK2.out HBr.out⟩
      have HLT2 : Aside0 (w.heap.size + 2 < w5.heap.size) := ⟨blk_lt HK2.out⟩
      have HT : Aside0 (TabR wr w.heap.size (.slice D5 atv.length f5) (.slice F1 rws.length e1) (.slice F2 wts.length e2) (atv, rws, wts)) := ⟨by
        have f0 := Kd.R_lt HO5.out
        have f1 := Kd.R_base HW.out
        refine ⟨Kd.R_below (Kd.R_mono (Kd.R_bound HO5.out) (fun k hk e => ?_)) HBr.out, Kd.S_mono (Kd.S_bound HS.out) (ok' := fun k => some k ≠ (.slice D5 atv.length f5 : Value).ownBlock ∧ some k ≠ (.slice F2 wts.length e2 : Value).ownBlock) (fun k hk => ⟨fun e => ?_, hk.1.1⟩) |> fun h => Kd.S_lower h HB5.out.size, Kd.R_mono (Kd.R_bound HW.out) (ok' := fun k => some k ≠ (.slice D5 atv.length f5 : Value).ownBlock) (fun k hk e => ?_) |> fun h => Kd.R_lower h HB5.out.size⟩
        · have := f1 k e.symm; have := hk.2.2.1; omega
        · have := f0 k e.symm; have := hk.2.1; omega
        · have := f0 k e.symm; have := hk.2.1; omega⟩
      clear HS HW HO5 HK2
      have hx0 : wr.cell? ⟨w5.heap.size, 0, none⟩ = some (.slice D5 atv.length f5) := (blk_cell HK.out 0).trans rfl
      have hx1 : wr.cell? ⟨w5.heap.size, 1, none⟩ = some (.slice F1 rws.length e1) := (blk_cell HK.out 1).trans rfl
      have hx2 : wr.cell? ⟨w5.heap.size, 2, none⟩ = some (.slice F2 wts.length e2) := (blk_cell HK.out 2).trans rfl
      have hy0 : wr.cell? ⟨w.heap.size + 2, 0, none⟩ = some (.slice none 0 0) := (blk_cell HK3.out 0).trans rfl
      have hy1 : wr.cell? ⟨w.heap.size + 2, 1, none⟩ = some (.slice none 0 0) := (blk_cell HK3.out 1).trans rfl
      have hy2 : wr.cell? ⟨w.heap.size + 2, 2, none⟩ = some (.slice none 0 0) := (blk_cell HK3.out 2).trans rfl
      have hyf : ∀ j, wr.frozen? ⟨w.heap.size + 2, j, none⟩ = false := fun j => blk_frozen HK3.out j
      go_wp2
      obtain ⟨hb5, hk5⟩ := set3 HK3.out (.slice D5 atv.length f5) (.slice F1 rws.length e1) (.slice F2 wts.length e2)
      refine bodyPost_ret (results_cell_row rfl _ _ (w.heap.size + 2) 27 #[.slice D5 atv.length f5, .slice F1 rws.length e1, .slice F2 wts.length e2] (0, 0) _ rfl hb5 Try.underlying27 rfl (by kernel_rfl)) rfl ?_
      rw [HR1.out, HR2.out]
      exact ⟨_, _, _, rfl, TabR.past HT.out HK3.out hk5, below_set (below_set (below_set (below_step HB5.out HBr.out) (by omega)) (by omega)) (by omega)⟩
end Go.Proofs.Ytkohcdddgjaijaa.PT
namespace Go.Proofs.Ytkohcdddgjaijaa.PT
open Go.RowKit Go.Proofs.Ytkohcdddgjaijaa.P Go.Proofs.YtkohcdddgjaijaaW.PrintWords Go.Proofs.YtkohcdddgjaijaaW.PrintLast Go.Proofs.Ytkohcdddgjaijaa.EvKit
set_option linter.unusedVariables false
set_option linter.unusedSimpArgs false
set_option maxHeartbeats 1600000 in
set_option maxRecDepth 100000 in
theorem semiSp_walk (A0 : Option Addr) (c0 : Nat) (atv : List Int) (A1 : Option Addr) (c1 : Nat) (arows : List (List Int)) (A2 : Option Addr) (c2 : Nat) (aws : List Int) (B0 : Option Addr) (d0 : Nat) (btv : List Int) (B1 : Option Addr) (d1 : Nat) (brows : List (List Int)) (B2 : Option Addr) (d2 : Nat) (bws : List Int) (w : World)
    (h0 : Kd.C (Kd.int .i64) w A0 atv.length atv) (l0 : atv.length ≤ c0) (h1 : Kd.C kRb w A1 arows.length arows) (l1 : arows.length ≤ c1) (h2 : Kd.C (Kd.int .i64) w A2 aws.length aws) (l2 : aws.length ≤ c2)
    (k0 : Kd.C (Kd.int .i64) w B0 btv.length btv) (m0 : btv.length ≤ d0) (k1 : Kd.C kRb w B1 brows.length brows) (m1 : brows.length ≤ d1) (k2 : Kd.C (Kd.int .i64) w B2 bws.length bws) (m2 : bws.length ≤ d2)
    (b0 : atv.length ≤ 1048576) (b1 : arows.length ≤ 1048576) (b1r : ∀ x, x ∈ arows → x.length ≤ 1048576) (b2 : btv.length ≤ 1048576) (b3 : brows.length ≤ 1048576) (b3r : ∀ x, x ∈ brows → x.length ≤ 1048576) :
    Calls Try.prog 15 #[.agg #[.slice A0 atv.length c0, .slice A1 arows.length c1, .slice A2 aws.length c2], .agg #[.slice B0 btv.length d0, .slice B1 brows.length d1, .slice B2 bws.length d2]] w (ProjPost w (semV atv arows aws btv brows bws)) := by
  by_cases ga : tableOKb atv arows aws = true
  · by_cases gb : tableOKb btv brows bws = true
    · exact semiS_ok A0 c0 atv A1 c1 arows A2 c2 aws B0 d0 btv B1 d1 brows B2 d2 bws w h0 l0 h1 l1 h2 l2 k0 m0 k1 m1 k2 m2 ga gb b0 b1 b1r b2 b3 b3r
    · obtain ⟨kt, hkt⟩ := Ev.rounds (specTableOK_ev atv arows aws b0 b1 (fun x hx => by have := b1r x hx; omega))
      obtain ⟨ku, hku⟩ := Ev.rounds (specTableOK_ev btv brows bws b2 b3 (fun x hx => by have := b3r x hx; omega))
      rw [ga] at hkt
      rw [Bool.eq_false_iff.2 gb] at hku
      have HTa := Aside0.mk (fun W (hb : Below w.heap.size w W) => spec_TableOK.calls kt A0 c0 atv A1 c1 arows A2 c2 aws _ W (Kd.C_below h0 hb) l0 (Kd.C_below h1 hb) l1 (Kd.C_below h2 hb) l2 hkt)
      have HTb := Aside0.mk (fun W (hb : Below w.heap.size w W) => spec_TableOK.calls ku B0 d0 btv B1 d1 brows B2 d2 bws _ W (Kd.C_below k0 hb) m0 (Kd.C_below k1 hb) m1 (Kd.C_below k2 hb) m2 hku)
      have HB := Aside0.mk (Below.refl w.heap.size w)
      have hsv : semV atv arows aws btv brows bws = ([], [], []) := by
        unfold semV; rw [if_pos ga, if_neg gb]
      rw [hsv]
      have tokA : (1 : Nat) < 2 := by decide
      clear h0 h1 h2 k0 k1 k2 ga gb hkt hku hsv b1r b3r
      go_enter Try.func15, Try.ntmps15
      go_wp2_with (first | (go_at_call 19; have tk := tokA; (with_reducible refine (HTa.out _ (below_alloc (below_alloc (below_alloc HB.out _) _) _)).mono ?_); clear HTa tk tokA; rintro e w1 ⟨rfl, hb1⟩; have HK1 := Aside0.mk (three1 hb1); have HK2 := Aside0.mk (three2 hb1); have HB1 : Aside0 (Below w.heap.size w w1) := ⟨below_step (below_alloc (below_alloc (below_alloc HB.out _) _) _) hb1⟩; have hx0 : w1.cell? ⟨w.heap.size + 1, 0, none⟩ = some (.slice B0 btv.length d0) := (blk_cell HK1.out 0).trans rfl; have hx1 : w1.cell? ⟨w.heap.size + 1, 1, none⟩ = some (.slice B1 brows.length d1) := (blk_cell HK1.out 1).trans rfl; have hx2 : w1.cell? ⟨w.heap.size + 1, 2, none⟩ = some (.slice B2 bws.length d2) := (blk_cell HK1.out 2).trans rfl; clear hb1) | (go_at_call 19; (with_reducible refine (HTb.out _ HB1.out).mono ?_); clear HTb hx0 hx1 hx2; rintro e w2 ⟨rfl, hb2⟩; have HB2 : Aside0 (Below w.heap.size w w2) := ⟨below_step HB1.out hb2⟩; replace HK2 := Aside0.mk (blk_below HK2.out hb2); clear hb2; have hy0 : w2.cell? ⟨w.heap.size + 2, 0, none⟩ = some (.slice none 0 0) := (blk_cell HK2.out 0).trans rfl; have hy1 : w2.cell? ⟨w.heap.size + 2, 1, none⟩ = some (.slice none 0 0) := (blk_cell HK2.out 1).trans rfl; have hy2 : w2.cell? ⟨w.heap.size + 2, 2, none⟩ = some (.slice none 0 0) := (blk_cell HK2.out 2).trans rfl; have hyf : ∀ j, w2.frozen? ⟨w.heap.size + 2, j, none⟩ = false := fun j => blk_frozen HK2.out j))
      obtain ⟨hb5, hk5⟩ := set3 HK2.out (.slice none 0 0) (.slice none 0 0) (.slice none 0 0)
      refine bodyPost_ret (results_cell_row rfl _ _ (w.heap.size + 2) 27 #[.slice none 0 0, .slice none 0 0, .slice none 0 0] (0, 0) _ rfl hb5 Try.underlying27 rfl (by kernel_rfl)) rfl ?_
      exact ⟨_, _, _, rfl, TabR_nil _ _, below_set (below_set (below_set (HB2.out) (by omega)) (by omega)) (by omega)⟩
  · obtain ⟨kt, hkt⟩ := Ev.rounds (specTableOK_ev atv arows aws b0 b1 (fun x hx => by have := b1r x hx; omega))
    rw [Bool.eq_false_iff.2 ga] at hkt
    have HTa := Aside0.mk (fun W (hb : Below w.heap.size w W) => spec_TableOK.calls kt A0 c0 atv A1 c1 arows A2 c2 aws _ W (Kd.C_below h0 hb) l0 (Kd.C_below h1 hb) l1 (Kd.C_below h2 hb) l2 hkt)
    have HB := Aside0.mk (Below.refl w.heap.size w)
    have hsv : semV atv arows aws btv brows bws = ([], [], []) := by
      unfold semV; rw [if_neg ga]
    rw [hsv]
    have tokA : (1 : Nat) < 2 := by decide
    clear h0 h1 h2 k0 k1 k2 ga hkt hsv b1r b3r
    go_enter Try.func15, Try.ntmps15
    go_wp2_with (first | (go_at_call 19; have tk := tokA; (with_reducible refine (HTa.out _ (below_alloc (below_alloc (below_alloc HB.out _) _) _)).mono ?_); clear HTa tk tokA; rintro e w1 ⟨rfl, hb1⟩; have HK1 := Aside0.mk (three1 hb1); have HK2 := Aside0.mk (three2 hb1); have HB1 : Aside0 (Below w.heap.size w w1) := ⟨below_step (below_alloc (below_alloc (below_alloc HB.out _) _) _) hb1⟩; have hx0 : w1.cell? ⟨w.heap.size + 1, 0, none⟩ = some (.slice B0 btv.length d0) := (blk_cell HK1.out 0).trans rfl; have hx1 : w1.cell? ⟨w.heap.size + 1, 1, none⟩ = some (.slice B1 brows.length d1) := (blk_cell HK1.out 1).trans rfl; have hx2 : w1.cell? ⟨w.heap.size + 1, 2, none⟩ = some (.slice B2 bws.length d2) := (blk_cell HK1.out 2).trans rfl; clear hb1; have hy0 : w1.cell? ⟨w.heap.size + 2, 0, none⟩ = some (.slice none 0 0) := (blk_cell HK2.out 0).trans rfl; have hy1 : w1.cell? ⟨w.heap.size + 2, 1, none⟩ = some (.slice none 0 0) := (blk_cell HK2.out 1).trans rfl; have hy2 : w1.cell? ⟨w.heap.size + 2, 2, none⟩ = some (.slice none 0 0) := (blk_cell HK2.out 2).trans rfl; have hyf : ∀ j, w1.frozen? ⟨w.heap.size + 2, j, none⟩ = false := fun j => blk_frozen HK2.out j))
    obtain ⟨hb5, hk5⟩ := set3 HK2.out (.slice none 0 0) (.slice none 0 0) (.slice none 0 0)
    refine bodyPost_ret (results_cell_row rfl _ _ (w.heap.size + 2) 27 #[.slice none 0 0, .slice none 0 0, .slice none 0 0] (0, 0) _ rfl hb5 Try.underlying27 rfl (by kernel_rfl)) rfl ?_
    exact ⟨_, _, _, rfl, TabR_nil _ _, below_set (below_set (below_set (HB1.out) (by omega)) (by omega)) (by omega)⟩
end Go.Proofs.Ytkohcdddgjaijaa.PT
namespace Go.Proofs.Ytkohcdddgjaijaa.PT
open Go.RowKit Go.Proofs.Ytkohcdddgjaijaa.P Go.Proofs.YtkohcdddgjaijaaW.PrintWords Go.Proofs.Ytkohcdddgjaijaa.EvKit
set_option linter.unusedVariables false
theorem tableOK_parts {tv : List Int} {rows : List (List Int)} {ws : List Int} (h : tableOKb tv rows ws = true) : tv.length ≤ 6 ∧ rows.length ≤ 10000 ∧ ws.length = rows.length := by
  unfold tableOKb at h
  simp only [Bool.and_eq_true, decide_eq_true_eq] at h
  exact ⟨asc_len6 h.1.1.1, h.1.1.2, h.1.2⟩
theorem semV_small (atv : List Int) (arows : List (List Int)) (aws : List Int) (btv : List Int) (brows : List (List Int)) (bws : List Int) : goodT (semV atv arows aws btv brows bws) ∧ cntT (semV atv arows aws btv brows bws) ≤ 3145728 ∧ 0 ≤ cntT (semV atv arows aws btv brows bws) := by
  have hnil : goodT ([], [], []) ∧ cntT ([], [], []) ≤ 3145728 ∧ 0 ≤ cntT ([], [], []) := by
    refine ⟨⟨by simp [goodI], ⟨by simp, fun y hy => by simp at hy⟩, by simp [goodI]⟩, ?_, ?_⟩ <;> simp [cntT, cntII]
  unfold semV
  by_cases h1 : tableOKb atv arows aws = true
  · rw [if_pos h1]
    by_cases h2 : tableOKb btv brows bws = true
    · rw [if_pos h2]
      obtain ⟨p1, p2, p3⟩ := tableOK_parts h1
      have hl := keptZ_len (semB atv btv brows) arows aws arows.length
      have hx : ∀ x, x ∈ (keptZ (semB atv btv brows) arows aws arows.length).map (·.1) → x.length ≤ 6 := fun x hx => by
        obtain ⟨q, hq, rfl⟩ := List.mem_map.1 hx
        have := table_rows h1 _ (keptZ_mem hq)
        omega
      have hc := cntII_le _ hx
      have hn := cntII_ge ((keptZ (semB atv btv brows) arows aws arows.length).map (·.1))
      rw [List.length_map] at hc
      refine ⟨⟨by show atv.length ≤ _; omega, ⟨by show ((keptZ _ _ _ _).map _).length ≤ _; rw [List.length_map]; omega, fun y hy => by have := hx y hy; omega⟩, by show ((keptZ _ _ _ _).map _).length ≤ _; rw [List.length_map]; omega⟩, ?_, ?_⟩
      all_goals
        unfold cntT
        show _
        simp only [List.length_map]
        omega
    · rw [if_neg h2]; exact hnil
  · rw [if_neg h1]; exact hnil
theorem semijoin_law {A0_0 : Option Addr} {c0_0 : Nat} {l0_0 : List Int} {A0_1 : Option Addr} {c0_1 : Nat} {l0_1 : List (List Int)} {A0_2 : Option Addr} {c0_2 : Nat} {l0_2 : List Int} {A1_0 : Option Addr} {c1_0 : Nat} {l1_0 : List Int} {A1_1 : Option Addr} {c1_1 : Nat} {l1_1 : List (List Int)} {A1_2 : Option Addr} {c1_2 : Nat} {l1_2 : List Int} {w : World}
    (hr0_0 : Kd.C (Kd.int .i64) w A0_0 l0_0.length l0_0) (hc0_0 : l0_0.length ≤ c0_0) (hr0_1 : Kd.C (Kd.slice 3 (Kd.int .i64)) w A0_1 l0_1.length l0_1) (hc0_1 : l0_1.length ≤ c0_1) (hr0_2 : Kd.C (Kd.int .i64) w A0_2 l0_2.length l0_2) (hc0_2 : l0_2.length ≤ c0_2)
    (hr1_0 : Kd.C (Kd.int .i64) w A1_0 l1_0.length l1_0) (hc1_0 : l1_0.length ≤ c1_0) (hr1_1 : Kd.C (Kd.slice 3 (Kd.int .i64)) w A1_1 l1_1.length l1_1) (hc1_1 : l1_1.length ≤ c1_1) (hr1_2 : Kd.C (Kd.int .i64) w A1_2 l1_2.length l1_2) (hc1_2 : l1_2.length ≤ c1_2) {G0 G1 : Prop} (g0 : G0) (g1 : G1) :
    Calls Try.prog 4 #[.agg #[.slice A0_0 l0_0.length c0_0, .slice A0_1 l0_1.length c0_1, .slice A0_2 l0_2.length c0_2], .agg #[.slice A1_0 l1_0.length c1_0, .slice A1_1 l1_1.length c1_1, .slice A1_2 l1_2.length c1_2]] w fun e w' => e = .returned (.bool true) ∧ Below w.heap.size w w' := by
  have small : 0 ≤ szT l0_0 l0_1 l0_2 1048576 ∧ 0 ≤ szT l1_0 l1_1 l1_2 (szT l0_0 l0_1 l0_2 1048576) → (goodT (l0_0, l0_1, l0_2) ∧ cntT (l0_0, l0_1, l0_2) ≤ 3145728 ∧ 0 ≤ cntT (l0_0, l0_1, l0_2)) ∧ (goodT (l1_0, l1_1, l1_2) ∧ cntT (l1_0, l1_1, l1_2) ≤ 3145728 ∧ 0 ≤ cntT (l1_0, l1_1, l1_2)) := fun h =>
    by
    have e := szT_le5 (x := (l0_0, l0_1, l0_2)) h.1
    exact ⟨szT_all (x := (l0_0, l0_1, l0_2)) h.1 (Int.le_refl _), szT_all (x := (l1_0, l1_1, l1_2)) h.2 e⟩
  refine lawSemijoin_walk (l0_0, l0_1, l0_2) A0_0 c0_0 A0_1 c0_1 A0_2 c0_2 (l1_0, l1_1, l1_2) A1_0 c1_0 A1_1 c1_1 A1_2 c1_2 (semV l0_0 l0_1 l0_2 l1_0 l1_1 l1_2) _ _ w ⟨⟨hc0_0, hr0_0⟩, ⟨hc0_1, hr0_1⟩, ⟨hc0_2, hr0_2⟩⟩ ⟨⟨hc1_0, hr1_0⟩, ⟨hc1_1, hr1_1⟩, ⟨hc1_2, hr1_2⟩⟩ rfl rfl (fun h => ?_) (fun h => ?_) (fun h => ?_) (fun h => ?_)
  · exact ⟨(small h).1.1, (small h).2.1, (semV_small _ _ _ _ _ _).1, trivial⟩
  · have h1 := small h
    have h2 := semV_small l0_0 l0_1 l0_2 l1_0 l1_1 l1_2
    exact ⟨by omega, by omega, by omega, by omega, by omega⟩
  · obtain ⟨⟨hg, _⟩, ⟨hg', _⟩⟩ := small h
    intro W0 W q0_A0 q0_c0 q0_A1 q0_c1 q0_A2 q0_c2 q1_A0 q1_c0 q1_A1 q1_c1 q1_A2 q1_c2 t hx hy
    have hxW := hx.tr t
    have hyW := hy.tr t
    refine (semiSp_walk q0_A0 q0_c0 l0_0 q0_A1 q0_c1 l0_1 q0_A2 q0_c2 l0_2 q1_A0 q1_c0 l1_0 q1_A1 q1_c1 l1_1 q1_A2 q1_c2 l1_2 W hxW.vars.2 hxW.vars.1 hxW.rows.2 hxW.rows.1 hxW.wts.2 hxW.wts.1 hyW.vars.2 hyW.vars.1 hyW.rows.2 hyW.rows.1 hyW.wts.2 hyW.wts.1 hg.1 hg.2.1.1 hg.2.1.2 hg'.1 hg'.2.1.1 hg'.2.1.2).mono ?_
    rintro e w' ⟨v0, v1, v2, rfl, ht, hb⟩
    obtain ⟨B0, d0, rfl⟩ := Kd.R_slice ht.vars
    obtain ⟨B1, d1, rfl⟩ := Kd.S_slice ht.rows
    obtain ⟨B2, d2, rfl⟩ := Kd.R_slice ht.weights
    refine ⟨B0, d0, B1, d1, B2, d2, rfl, fun W9 h9 => ?_, Tr.of_below hb⟩
    have r0 := Kd.R_reads' (Kd.R_step (w1 := W9) (Kd.R_bound ht.vars) (fun k hk hl => h9 k hk.2.1 hl))
    have r1 := Kd.S_reads' (Kd.S_step (w1 := W9) (Kd.S_bound ht.rows) (fun k hk hl => h9 k hk.2.1 hl))
    have r2 := Kd.R_reads' (Kd.R_step (w1 := W9) (Kd.R_bound ht.weights) (fun k hk hl => h9 k hk.2.1 hl))
    exact ⟨r0.2, r1.2, r2.2⟩
  · obtain ⟨⟨hg, _⟩, ⟨hg', _⟩⟩ := small h
    intro W0 W q0_A0 q0_c0 q0_A1 q0_c1 q0_A2 q0_c2 q1_A0 q1_c0 q1_A1 q1_c1 q1_A2 q1_c2 t hx hy
    have hxW := hx.tr t
    have hyW := hy.tr t
    refine (semiI_walk q0_A0 q0_c0 l0_0 q0_A1 q0_c1 l0_1 q0_A2 q0_c2 l0_2 q1_A0 q1_c0 l1_0 q1_A1 q1_c1 l1_1 q1_A2 q1_c2 l1_2 W hxW.vars.2 hxW.vars.1 hxW.rows.2 hxW.rows.1 hxW.wts.2 hxW.wts.1 hyW.vars.2 hyW.vars.1 hyW.rows.2 hyW.rows.1 hyW.wts.2 hyW.wts.1 hg.1 hg.2.1.1 hg.2.1.2 hg'.1 hg'.2.1.1 hg'.2.1.2).mono ?_
    rintro e w' ⟨v0, v1, v2, rfl, ht, hb⟩
    obtain ⟨B0, d0, B1, d1, B2, d2, bs, rfl, rfl, rfl, ho, hbs⟩ := oT_of ht.vars ht.rows ht.weights (fun k hk => hk.1) (fun k hk => hk.2) (fun k hk => hk)
    exact ⟨B0, d0, B1, d1, B2, d2, bs, rfl, ho, hbs, Tr.of_below hb⟩
end Go.Proofs.Ytkohcdddgjaijaa.PT
namespace Go.Proofs.Ytkohcdddgjaijaa.fnExactSemijoin
open Go.ChangeShapes Go.WideShapes Go.ChangeAt Go.RowKit
open Go.ChangeMaps (open_string shut_string)
open Go.Proofs.Ytkohcdddgjaijaa.Opens Go.Proofs.YtkohcdddgjaijaaW.PrintWords
set_option linter.unusedVariables false
theorem own : ownKnob Try.prog.godebug = none := by kernel_rfl
theorem laidOut : laidOutB Try.prog = true := by kernel_rfl
def G3 (v : Int) : Prop := (Lit.int .i64 v).wf = true
theorem opens3 : Opens Try.prog (Kd.int .i64) 3 G3 := Opens.int Try.underlying3 (by kernel_rfl)
def G22 (v : (List Int)) : Prop := v.length ≤ maxLen ∧ ∀ x, x ∈ v → G3 x
theorem opens22 : Opens Try.prog (Kd.slice 3 (Kd.int .i64)) 22 G22 := Opens.slice Try.underlying22 (by kernel_rfl) opens3
def G23 (v : (List (List Int))) : Prop := v.length ≤ maxLen ∧ ∀ x, x ∈ v → G22 x
theorem opens23 : Opens Try.prog (Kd.slice 22 (Kd.slice 3 (Kd.int .i64))) 23 G23 := Opens.slice Try.underlying23 (by kernel_rfl) opens22
def G25P (v : ((List Int) × (List (List Int)) × (List Int))) : Prop := G22 (v.1) ∧ G23 (v.2.1) ∧ G22 (v.2.2)
theorem opens25 : Opens Try.prog (Kd.pair (Kd.slice 3 (Kd.int .i64)) (Kd.pair (Kd.slice 22 (Kd.slice 3 (Kd.int .i64))) (Kd.slice 3 (Kd.int .i64)))) 25 G25P := Opens.struct Try.underlying25 (by kernel_rfl) (fun enc W held n cs hl hf => (Opens.cons (o := 0) (k := 1) (Opens.fld (o := 0) opens22 (hf 0 _ rfl)) (Opens.cons (o := 1) (k := 1) (Opens.fld (o := 1) opens23 (hf 1 _ rfl)) (Opens.last (o := 2) (k := 1) (hl.trans rfl) (Opens.fld (o := 2) opens22 (hf 2 _ rfl))))))
set_option maxRecDepth 100000 in
theorem lifted (os : Os) (started : os.Started) (H : Type) (enc : TypeId × Value → H) :
    ReturnsInHanded {} Try.checked os 4 .any (Rows.fnExactSemijoinSpec.pre6 enc Try.prog Try.f4 Rows.fnExactSemijoinRow.domain false) (Rows.fnExactSemijoinSpec.post enc Try.prog Try.f4 false true false false) := by
  refine returnsInHanded_of_change_sized (C := Try.checked) own started (by kernel_rfl) Try.func4
    (ChangeSpec.witness6 (enc := enc) (C := Try.checked) false ⟨#[], #[.agg #[.slice none 0 0, .slice none 0 0, .slice none 0 0], .agg #[.slice none 0 0, .slice none 0 0, .slice none 0 0]], []⟩ 8 (by kernel_rfl) (by kernel_rfl) (by kernel_rfl) (by kernel_rfl)) ?_
  intro W base args ds gs before hval0 hW hcnd hsz0 _
  have hval : ∀ (j : Nat) t v, Try.f4.params[j]? = some t → args[j]? = some v → Value.okWide Try.prog W .any base t v := hval0
  have hW' := hW
  obtain ⟨p, q, hA0, hV, rfl, hfz, hnd⟩ := hW
  have hA : DataW.TrodAll enc Try.prog W 0 (fun _ => true) true Try.f4.params.toList args.toList ds p := hA0
  rw [Try.params4] at hA hval
  obtain ⟨v0, vs0, d0, ds0, p0, q0, hargs, rfl, rfl, h0, r0⟩ := trodAll_cons hA
  obtain ⟨v1, vs1, d1, ds1, p1, q1, rfl, rfl, rfl, h1, r1⟩ := trodAll_cons r0
  obtain ⟨rfl, rfl, rfl⟩ := trodAll_nil r1
  obtain rfl : args = #[v0, v1] := by cases args; simp_all
  obtain ⟨rfl, rfl⟩ := trodVars_none hV
  have k0 := h0
  have lt0 : ∀ x ∈ p0, x.block < W.heap.size := by obtain ⟨m, hm⟩ := k0; exact DataW.trod_lt m _ _ _ hm
  obtain ⟨cs0, rfl, sz0⟩ := okWide_struct Try.underlying25 (hval 0 25 v0 rfl rfl)
  obtain ⟨fu0, hf0⟩ := h0
  obtain ⟨x0, hK0, gg0⟩ := (opens25).2 enc W true fu0 _ _ hf0
  have hK0' : ((Kd.pair (Kd.slice 3 (Kd.int .i64)) (Kd.pair (Kd.slice 22 (Kd.slice 3 (Kd.int .i64))) (Kd.slice 3 (Kd.int .i64))))).K W x0 cs0.toList := hK0
  generalize hcs0 : cs0.toList = cl0 at hK0'
  obtain ⟨_, _, rfl, ⟨A0_0, c0_0, rfl, hc0_0, hr0_0⟩, ⟨_, _, rfl, ⟨A0_1, c0_1, rfl, hc0_1, hr0_1⟩, ⟨A0_2, c0_2, rfl, hc0_2, hr0_2⟩⟩⟩ := hK0'
  obtain rfl : cs0 = #[.slice A0_0 x0.1.length c0_0, .slice A0_1 x0.2.1.length c0_1, .slice A0_2 x0.2.2.length c0_2] := by cases cs0; simp_all
  have k1 := h1
  have lt1 : ∀ x ∈ p1, x.block < W.heap.size := by obtain ⟨m, hm⟩ := k1; exact DataW.trod_lt m _ _ _ hm
  obtain ⟨cs1, rfl, sz1⟩ := okWide_struct Try.underlying25 (hval 1 25 v1 rfl rfl)
  obtain ⟨fu1, hf1⟩ := h1
  obtain ⟨x1, hK1, gg1⟩ := (opens25).2 enc W true fu1 _ _ hf1
  have hK1' : ((Kd.pair (Kd.slice 3 (Kd.int .i64)) (Kd.pair (Kd.slice 22 (Kd.slice 3 (Kd.int .i64))) (Kd.slice 3 (Kd.int .i64))))).K W x1 cs1.toList := hK1
  generalize hcs1 : cs1.toList = cl1 at hK1'
  obtain ⟨_, _, rfl, ⟨A1_0, c1_0, rfl, hc1_0, hr1_0⟩, ⟨_, _, rfl, ⟨A1_1, c1_1, rfl, hc1_1, hr1_1⟩, ⟨A1_2, c1_2, rfl, hc1_2, hr1_2⟩⟩⟩ := hK1'
  obtain rfl : cs1 = #[.slice A1_0 x1.1.length c1_0, .slice A1_1 x1.2.1.length c1_1, .slice A1_2 x1.2.2.length c1_2] := by cases cs1; simp_all
  clear hA0 hval0
  refine (Go.Proofs.Ytkohcdddgjaijaa.PT.semijoin_law (w := W) (A0_0 := A0_0) (c0_0 := c0_0) (l0_0 := x0.1) (A0_1 := A0_1) (c0_1 := c0_1) (l0_1 := x0.2.1) (A0_2 := A0_2) (c0_2 := c0_2) (l0_2 := x0.2.2) (A1_0 := A1_0) (c1_0 := c1_0) (l1_0 := x1.1) (A1_1 := A1_1) (c1_1 := c1_1) (l1_1 := x1.2.1) (A1_2 := A1_2) (c1_2 := c1_2) (l1_2 := x1.2.2) (hr0_0 := hr0_0) (hc0_0 := hc0_0) (hr0_1 := hr0_1) (hc0_1 := hc0_1) (hr0_2 := hr0_2) (hc0_2 := hc0_2) (hr1_0 := hr1_0) (hc1_0 := hc1_0) (hr1_1 := hr1_1) (hc1_1 := hc1_1) (hr1_2 := hr1_2) (hc1_2 := hc1_2) gg0 gg1).mono fun e W' ⟨he, bel⟩ => ?_
  subst he
  exact ⟨_, rfl, _, _, _, [], _, [], hW', trodAll_mk1 (shut_bool Try.underlying4 _), (trodAll_cons_mk (Below.trod laidOut (by kernel_rfl) (of_decide_eq_true (by kernel_rfl)) k0 bel lt0) (trodAll_cons_mk (Below.trod laidOut (by kernel_rfl) (of_decide_eq_true (by kernel_rfl)) k1 bel lt1) trodAll_mk0)), rfl, bel.frame _, fun h => by cases h⟩
theorem over : Rows.fnExactSemijoinRow.holds Try.pinned (OpenSpec.ofChange Rows.fnExactSemijoinSpec) :=
  OpenClaim.holds_of_wide 4 Try.f4 rfl rfl rfl rfl rfl rfl rfl ⟨rfl, rfl, rfl, rfl, rfl⟩ rfl rfl rfl rfl rfl (by kernel_rfl) Try.func4 (by kernel_rfl)
    (of_decide_eq_true (by kernel_rfl)) (by unfold Func.isWrapper; first | (rw [if_pos (by decide +kernel)]; kernel_rfl) | (rw [if_neg (by decide +kernel)]; exact ⟨rfl, rfl⟩))
    (fun os started H enc _ => lifted os started H enc)
theorem proved : Rows.FnExactSemijoinSaid := over
#print axioms proved
end Go.Proofs.Ytkohcdddgjaijaa.fnExactSemijoin
