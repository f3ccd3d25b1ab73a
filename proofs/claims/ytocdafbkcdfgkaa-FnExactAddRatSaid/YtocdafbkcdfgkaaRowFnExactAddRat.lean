/-
  The program's AddRat and the reference's agree on every pair of rationals; no condition.
-/
import Derived.Test.YtocdafbkcdfgkaaRows
import Derived.Test.YtocdafbkcdfgkaaPureFnExactAddRat
import Derived.WalkKit
import Derived.ProofKit
import Derived.OpenShut
import Derived.ShutString
import Derived.ChangeOld
import Derived.Below
import Derived.SizedLaws
import Derived.Lib.SmallJoins
namespace Go.Proofs.Ytocdafbkcdfgkaa.fnExactAddRat
open Go.ChangeShapes Go.WideShapes Go.ChangeAt Go.RowKit
open Go.Joins
set_option linter.unusedVariables false
theorem own : ownKnob Try.prog.godebug = none := by kernel_rfl
theorem rat_one (fs : Array Field) (h : Try.prog.underlying 24 = some (.struct fs)) : fs.size = 2 := by
  rw [Try.underlying24] at h; cases h; rfl
theorem cells24 : Try.prog.cellsOf 24 = 2 := by kernel_rfl
theorem cells3 : Try.prog.cellsOf 3 = 1 := by kernel_rfl
set_option maxRecDepth 100000 in
theorem lifted (os : Os) (started : os.Started) (H : Type) (enc : TypeId × Value → H) :
    ReturnsInHanded {} Try.checked os 6 .any (Rows.fnExactAddRatSpec.pre6 enc Try.prog Try.f6 Rows.fnExactAddRatRow.domain false) (Rows.fnExactAddRatSpec.post enc Try.prog Try.f6 false true false false) := by
  refine returnsInHanded_of_change_sized (C := Try.checked) own started (by kernel_rfl) Try.func6
    (ChangeSpec.witness6 (enc := enc) (C := Try.checked) false ⟨#[], #[.agg #[.int .i64 0, .int .i64 0], .agg #[.int .i64 0, .int .i64 0]], []⟩ 8 (by kernel_rfl) (by kernel_rfl) (by kernel_rfl) (by kernel_rfl)) ?_
  intro W base args ds gs before hval0 hW hcnd hsz0 _
  have hsz : (DataW.weightsEach Try.prog (Try.f6.params.toList ++ Rows.fnExactAddRatSpec.plain.varTypes Try.prog) (ds ++ gs)).all (· ≤ reachBytes) = true := hsz0
  have hval : ∀ (j : Nat) t v, Try.f6.params[j]? = some t → args[j]? = some v → Value.okWide Try.prog W .any base t v := hval0
  have hW' := hW
  obtain ⟨p, q, hA0, hV, rfl, hfz, hnd⟩ := hW
  have hA : DataW.TrodAll enc Try.prog W 0 (fun _ => true) true Try.f6.params.toList args.toList ds p := hA0
  rw [Try.params6] at hA hval hsz
  obtain ⟨v0, vs0, d0, ds0, p0, q0, hargs, rfl, rfl, h0, r0⟩ := trodAll_cons hA
  obtain ⟨v1, vs1, d1, ds1, p1, q1, rfl, rfl, rfl, h1, r1⟩ := trodAll_cons r0
  obtain ⟨rfl, rfl, rfl⟩ := trodAll_nil r1
  obtain rfl : args = #[v0, v1] := by cases args; simp_all
  obtain ⟨rfl, rfl⟩ := trodVars_none hV
  obtain ⟨a0, b0, ya0, yb0, n0, rfl, rfl, rfl, ha0, hb0⟩ := open_agg2 Try.underlying24 (by kernel_rfl) cells24 (hval 0 24 v0 rfl rfl) h0
  obtain ⟨a1, b1, ya1, yb1, n1, rfl, rfl, rfl, ha1, hb1⟩ := open_agg2 Try.underlying24 (by kernel_rfl) cells24 (hval 1 24 v1 rfl rfl) h1
  obtain ⟨x0, hx0, hy0, w0⟩ := DataW.trod_int Try.underlying3 ha0
  obtain ⟨x1, hx1, hy1, w1⟩ := DataW.trod_int Try.underlying3 hb0
  obtain ⟨x2, hx2, hy2, w2⟩ := DataW.trod_int Try.underlying3 ha1
  obtain ⟨x3, hx3, hy3, w3⟩ := DataW.trod_int Try.underlying3 hb1
  simp only [List.cons.injEq, and_true] at hx0 hx1 hx2 hx3
  subst hx0 hx1 hx2 hx3 hy0 hy1 hy2 hy3
  clear hA0 hval0 hsz0 hsz
  obtain ⟨k, hk⟩ := Pure.FnExactAddRat x0 x1 x2 x3
  refine (PFnExactAddRat.laws_FnExactAddRat.calls k x0 x1 x2 x3 true W hk).mono fun e W' ⟨he, bel⟩ => ?_
  subst he
  refine ⟨_, rfl, _, _, _, [], _, [], hW', trodAll_mk1 (shut_bool Try.underlying4 _), (trodAll_cons_mk (shut_agg2 Try.underlying24 (by kernel_rfl) cells24 ⟨_, trod_int_mk 0 Try.underlying3 w0⟩ ⟨_, trod_int_mk 0 Try.underlying3 w1⟩) (trodAll_cons_mk (shut_agg2 Try.underlying24 (by kernel_rfl) cells24 ⟨_, trod_int_mk 0 Try.underlying3 w2⟩ ⟨_, trod_int_mk 0 Try.underlying3 w3⟩) trodAll_mk0)), rfl, bel.frame _, fun h => by cases h⟩
theorem over : Rows.fnExactAddRatRow.holds Try.pinned (OpenSpec.ofChange Rows.fnExactAddRatSpec) :=
  OpenClaim.holds_of_wide 6 Try.f6 rfl rfl rfl rfl rfl rfl rfl ⟨rfl, rfl, rfl, rfl, rfl⟩ rfl rfl rfl rfl rfl (by kernel_rfl) Try.func6 (by kernel_rfl)
    (of_decide_eq_true (by kernel_rfl)) (by unfold Func.isWrapper; first | (rw [if_pos (by decide +kernel)]; kernel_rfl) | (rw [if_neg (by decide +kernel)]; exact ⟨rfl, rfl⟩))
    (fun os started H enc _ => lifted os started H enc)
theorem proved : Rows.FnExactAddRatSaid := over
#print axioms proved
end Go.Proofs.Ytocdafbkcdfgkaa.fnExactAddRat
