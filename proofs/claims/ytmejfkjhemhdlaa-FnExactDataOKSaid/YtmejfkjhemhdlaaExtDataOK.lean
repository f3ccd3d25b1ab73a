/-
  The walk of the program's DataOK: what it answers, as a function of the relations; no condition.
-/
import Derived.Test.YtmejfkjhemhdlaaMap
import Derived.Test.YtmejfkjhemhdlaaJ5
namespace Go.Proofs.Ytmejfkjhemhdlaa.P
open Go.RowKit Go.Proofs.YtmejfkjhemhdlaaW.PrintWords Go.Proofs.YtmejfkjhemhdlaaW.PrintLast Go.Proofs.Ytmejfkjhemhdlaa.MapKit
set_option linter.unusedVariables false
set_option linter.unusedSimpArgs false

/-- The relations one by one: each of a new name, each right. -/
def dataLoop (ok : ByteArray → Int → List (List Int) → List Int → Option Bool) : List ByteArray → List S37 → Option Bool
  | _, [] => some true
  | ns, r :: rest => if r.f0 ∈ ns then some false else (ok r.f0 r.f1 r.f2 r.f3).bind fun b => if b = true then dataLoop ok (ns ++ [r.f0]) rest else some false
def dataOKf (k : Nat) (l : List S37) : Option Bool := if l.length > 50 then some false else dataLoop (impl_Relation_ok.f k) [] l
theorem dataLoop_mono (k : Nat) : ∀ (l : List S37) (ns : List ByteArray), LeO (dataLoop (impl_Relation_ok.f k) ns l) (dataLoop (impl_Relation_ok.f (k + 1)) ns l)
  | [], _ => LeO.refl _
  | r :: rest, ns => by
    simp only [dataLoop]
    refine LeO.ite (LeO.refl _) (LeO.bind (impl_Relation_ok.mono _ _ _ _ k) (fun (b : Bool) => LeO.ite (dataLoop_mono k rest _) (LeO.refl _)))
theorem dataOKf_mono (k : Nat) (l : List S37) : LeO (dataOKf k l) (dataOKf (k + 1) l) := LeO.ite (LeO.refl _) (dataLoop_mono k l [])

theorem zeroBool (w : World) : (zeroValue 4).run Try.prog w = .ok (.bool false) w := by kernel_rfl
theorem keyString : KeyEnc Try.prog 9 Value.string := KeyEnc.string Try.underlying9

set_option maxHeartbeats 4000000 in
set_option maxRecDepth 100000 in
theorem dataOK_walk (k : Nat) (A : Option Addr) (c : Nat) (l : List S37) (r : Bool) (w : World) (hr : Kd.C k37 w A l.length l) (hc : l.length ≤ c) (h : dataOKf k l = some r) :
    Calls Try.prog 7 #[.agg #[.slice A l.length c]] w fun e w' => e = .returned (.bool r) ∧ Below w.heap.size w w' := by
  have hu1 := Try.underlying29
  have hu2 := Try.underlying37
  have HR := Aside0.mk hr
  have HB := Aside0.mk (Below.refl w.heap.size w)
  have hlen : l.length ≤ 9223372036854775807 := hr.2.1
  clear hr
  unfold dataOKf at h
  by_cases c2 : l.length > 50
  · rw [if_pos c2] at h
    obtain rfl := Option.some.inj h
    have c2b0 : decide (50 < (l.length : Int)) = true := decide_eq_true (by omega)
    have c2b1 : decide (50 < l.length) = true := decide_eq_true c2
    clear h c2
    have hmm := @run_makeMap Try.prog
    go_enter Try.func7, Try.ntmps7
    go_wp2
    go_ret
    exact ⟨rfl, by repeat (first | exact HB.out | apply below_alloc | apply pw_below_drewN | apply below_drew1)⟩
  · rw [if_neg c2] at h
    have c2b0 : decide (50 < (l.length : Int)) = false := decide_eq_false (by omega)
    have c2b1 : decide (50 < l.length) = false := decide_eq_false c2
    have H := Aside0.mk h
    clear h c2
    have hmm := @run_makeMap Try.prog
    go_enter Try.func7, Try.ntmps7
    go_wp2
    go_loopw [14] (fun i wr => ∃ x : Int, i = .int .i64 x ∧ 0 ≤ x ∧ x ≤ (l.length : Int) ∧ Aside0 (dataLoop (impl_Relation_ok.f k) ((l.take x.toNat).map (fun z => z.f0)) (l.drop x.toNat) = some r) ∧ Aside0 (HasMap wr (w.heap.size + 1) Value.string (setL ((l.take x.toNat).map (fun z => z.f0)))) ∧ Aside0 (Below w.heap.size w wr)) (fun i _ => l.length - (intOf i).toNat)
    case atStart =>
      refine ⟨0, rfl, by omega, by omega, ⟨by simpa using H.out⟩, ⟨?_⟩, ⟨by repeat (first | exact HB.out | apply below_alloc)⟩⟩
      have h1 := HasMap.made (w.alloc (.cells #[.slice A l.length c] 29)) Value.string
      simpa [setL] using h1
    case round =>
      obtain ⟨x, rfl, h0, hle, HA, HM, HB⟩ := hrel
      by_cases hlt : x < (l.length : Int)
      · obtain ⟨ad, A2, c2, A3, c3, e, hx0, hx1, hx2, hx3, hl2, hi2, hl3, hi3⟩ := at_T37 HR.out x h0 hlt
        cases e
        have hn : x.toNat < l.length := by omega
        have hrd : rd_T37 l x = l[x.toNat] := by unfold rd_T37; simp [List.getD_eq_getElem?_getD, hn]
        have HA2 : Aside0 (dataLoop (impl_Relation_ok.f k) ((l.take x.toNat).map (fun z => z.f0)) (rd_T37 l x :: l.drop (x.toNat + 1)) = some r) := ⟨by rw [hrd, ← List.drop_eq_getElem_cons hn]; exact HA.out⟩
        have HT : Aside0 ((l.take (x.toNat + 1)).map (fun z => z.f0) = (l.take x.toNat).map (fun z => z.f0) ++ [(rd_T37 l x).f0]) := ⟨by rw [List.take_succ_eq_append_getElem hn, List.map_append, hrd]; rfl⟩
        clear HA hrd
        replace hx0 := (HB.out.cell (World.block_lt_of_cell? w _ hx0)).trans hx0
        replace hx1 := (HB.out.cell (World.block_lt_of_cell? w _ hx1)).trans hx1
        replace hx2 := (HB.out.cell (World.block_lt_of_cell? w _ hx2)).trans hx2
        replace hx3 := (HB.out.cell (World.block_lt_of_cell? w _ hx3)).trans hx3
        have HR2 := Aside0.mk hi2
        have HC2 := Aside0.mk hl2
        have HR3 := Aside0.mk hi3
        have HC3 := Aside0.mk hl3
        clear hi2 hl2 hi3 hl3
        generalize rd_T37 l x = q at *
        obtain ⟨q0, q1, q2, q3⟩ := q
        dsimp only at *
        have Hd := HA2.out
        simp only [dataLoop] at Hd
        by_cases hm : q0 ∈ (l.take x.toNat).map (fun z => z.f0)
        · rw [if_pos hm] at Hd
          obtain rfl := Option.some.inj Hd
          clear Hd
          have hget : (get q0 (setL ((l.take x.toNat).map (fun z => z.f0)))).getD (.bool false) = .bool true := by rw [get_set]; simp only [hm, decide_true]
          have HG := Aside0.mk hget
          clear hget
          have hlt2 := HM.out.lt
          go_wp2_with (first | (at_lookup; refine wp_lookup rfl false _ _ rfl keyString Try.underlying42 (zeroBool _) rfl q0 rfl (l := setL ((l.take x.toNat).map (fun z => z.f0))) ?_ ?_; (case refine_1 => repeat (first | exact HM.out | refine HasMap.alloc ?_ _ | refine HasMap.set ?_ (by simp; omega) _)); (simp only [Bool.false_eq_true, if_false]; rw [HG.out])))
          go_ret
          exact ⟨rfl, by repeat (first | exact HB.out | apply below_alloc | refine below_set ?_ (by simp; omega))⟩
        · rw [if_neg hm] at Hd
          obtain ⟨b, hb1, Hd⟩ := Option.bind_eq_some_iff.1 Hd
          have HK := Aside0.mk hb1
          have HD := Aside0.mk Hd
          clear hb1 Hd
          have hget : (get q0 (setL ((l.take x.toNat).map (fun z => z.f0)))).getD (.bool false) = .bool false := by rw [get_set]; simp only [hm, decide_false]
          have HG := Aside0.mk hget
          have HN := Aside0.mk hm
          clear hget hm
          have hlt2 := HM.out.lt
          have hcall : ∀ W, Below w.heap.size w W → Calls Try.prog 14 #[.agg #[.string q0, .int .i64 q1, .slice A2 q2.length c2, .slice A3 q3.length c3]] W fun e W' => e = .returned (.bool b) ∧ Below W.heap.size W W' :=
            fun W hW => impl_Relation_ok.calls k q0 q1 A2 c2 q2 A3 c3 q3 b W (Kd.C_below HR2.out hW) HC2.out (Kd.C_below HR3.out hW) HC3.out HK.out
          have HCA := Aside0.mk hcall
          clear hcall
          cases b with
          | false =>
            have HD' := HD.out
            simp only [Bool.false_eq_true, if_false] at HD'
            obtain rfl := Option.some.inj HD'
            clear HD HD'
            go_wp2_with (first | (at_lookup; refine wp_lookup rfl false _ _ rfl keyString Try.underlying42 (zeroBool _) rfl q0 rfl (l := setL ((l.take x.toNat).map (fun z => z.f0))) ?_ ?_; (case refine_1 => repeat (first | exact HM.out | refine HasMap.alloc ?_ _ | refine HasMap.set ?_ (by simp; omega) _)); (simp only [Bool.false_eq_true, if_false]; rw [HG.out])) | (go_at_call 14; refine (HCA.out _ (by repeat (first | exact HB.out | apply below_alloc | refine below_set ?_ (by simp; omega)))).mono ?_; rintro e w1 ⟨rfl, hb1⟩))
            go_ret
            exact ⟨rfl, below_step (by repeat (first | exact HB.out | apply below_alloc | refine below_set ?_ (by simp; omega))) hb1⟩
          | true =>
            have HD' := HD.out
            simp only [if_true] at HD'
            have HD2 := Aside0.mk HD'
            clear HD HD'
            go_wp2_with (first | (at_lookup; refine wp_lookup rfl false _ _ rfl keyString Try.underlying42 (zeroBool _) rfl q0 rfl (l := setL ((l.take x.toNat).map (fun z => z.f0))) ?_ ?_; (case refine_1 => repeat (first | exact HM.out | refine HasMap.alloc ?_ _ | refine HasMap.set ?_ (by simp; omega) _)); (simp only [Bool.false_eq_true, if_false]; rw [HG.out])) | (go_at_call 14; refine (HCA.out _ (by repeat (first | exact HB.out | apply below_alloc | refine below_set ?_ (by simp; omega)))).mono ?_; rintro e w1 ⟨rfl, hb1⟩; have hc5 : w1.cell? ⟨wr.heap.size, 0, none⟩ = some (.string q0) := (hb1.cell (p := ⟨wr.heap.size, 0, none⟩) (by simp)).trans (by go_simp)) | (at_mapUpdate; refine wp_update rfl _ _ _ rfl keyString Try.underlying42 rfl q0 rfl (.bool true) rfl (l := setL ((l.take x.toNat).map (fun z => z.f0))) ?_ ?_; (case refine_1 => exact HasMap.below (by repeat (first | exact HM.out | refine HasMap.alloc ?_ _ | refine HasMap.set ?_ (by simp; omega) _)) hb1); intro w2 hm2 hg2))
            have hx1 : (x + 1).toNat = x.toNat + 1 := by omega
            go_roundw
            case rel =>
              have hbb : Below w.heap.size w w1 := below_step (by repeat (first | exact HB.out | apply below_alloc | refine below_set ?_ (by simp; omega))) hb1
              refine ⟨x + 1, rfl, by omega, by omega, ⟨?_⟩, ⟨?_⟩, ⟨?_⟩⟩
              · rw [hx1, HT.out]; exact HD2.out
              · rw [hx1, HT.out, ← put_set q0 _ HN.out]; exact hm2
              · exact hbb.grown hg2 hbb.size (fun k hk => by injection hk with hk; omega)
            case measure => simp [intOf]; omega
      · have hx : x.toNat = l.length := by omega
        have Hd := HA.out
        rw [hx, List.drop_length] at Hd
        simp only [dataLoop] at Hd
        obtain rfl := Option.some.inj Hd
        clear Hd HA
        go_wp2
        go_ret
        exact ⟨rfl, HB.out⟩
end Go.Proofs.Ytmejfkjhemhdlaa.P
