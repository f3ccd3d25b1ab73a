/-
  The law FnExactDataOK answers true at every argument.
-/
import Derived.Test.YtmejfkjhemhdlaaRows
import Derived.Test.YtmejfkjhemhdlaaOpens
import Derived.Test.YtmejfkjhemhdlaaPDataOK
import Derived.WalkKit
import Derived.ProofKit
import Derived.OpenShut
import Derived.ShutString
import Derived.ChangeOld
import Derived.Below
import Derived.SizedLaws
import Derived.Lib.SmallJoins
namespace Go.Proofs.Ytmejfkjhemhdlaa.fnExactDataOK
open Go.ChangeShapes Go.WideShapes Go.ChangeAt Go.RowKit
open Go.ChangeMaps (open_string shut_string)
open Go.Proofs.Ytmejfkjhemhdlaa.Opens Go.Proofs.YtmejfkjhemhdlaaW.PrintWords
set_option linter.unusedVariables false
theorem own : ownKnob Try.prog.godebug = none := by kernel_rfl
theorem laidOut : laidOutB Try.prog = true := by kernel_rfl
def G9 (v : ByteArray) : Prop := v.size ≤ maxLen
theorem opens9 : Opens Try.prog Kd.string 9 G9 := Opens.string Try.underlying9 (by kernel_rfl)
def G3 (v : Int) : Prop := (Lit.int .i64 v).wf = true
theorem opens3 : Opens Try.prog (Kd.int .i64) 3 G3 := Opens.int Try.underlying3 (by kernel_rfl)
def G35 (v : (List Int)) : Prop := v.length ≤ maxLen ∧ ∀ x, x ∈ v → G3 x
theorem opens35 : Opens Try.prog (Kd.slice 3 (Kd.int .i64)) 35 G35 := Opens.slice Try.underlying35 (by kernel_rfl) opens3
def G34 (v : (List (List Int))) : Prop := v.length ≤ maxLen ∧ ∀ x, x ∈ v → G35 x
theorem opens34 : Opens Try.prog (Kd.slice 35 (Kd.slice 3 (Kd.int .i64))) 34 G34 := Opens.slice Try.underlying34 (by kernel_rfl) opens35
def G46 (v : Go.Proofs.Ytmejfkjhemhdlaa.P.S46) : Prop := G9 (v.f0) ∧ G3 (v.f1) ∧ G34 (v.f2) ∧ G35 (v.f3)
theorem opensE46 : Opens Try.prog Go.Proofs.Ytmejfkjhemhdlaa.P.k46 46 G46 := Opens.struct Try.underlying46 (by kernel_rfl) (fun enc W held n cs hl hf =>
  Opens.iso (fun x : Go.Proofs.Ytmejfkjhemhdlaa.P.S46 => (x.f0, x.f1, x.f2, x.f3)) (fun x => ⟨x.1, x.2.1, x.2.2.1, x.2.2.2⟩) (fun _ => rfl) (Opens.cons (o := 0) (k := 1) (Opens.fld (o := 0) opens9 (hf 0 _ rfl)) (Opens.cons (o := 1) (k := 1) (Opens.fld (o := 1) opens3 (hf 1 _ rfl)) (Opens.cons (o := 2) (k := 1) (Opens.fld (o := 2) opens34 (hf 2 _ rfl)) (Opens.last (o := 3) (k := 1) (hl.trans rfl) (Opens.fld (o := 3) opens35 (hf 3 _ rfl)))))))
def G22 (v : (List Go.Proofs.Ytmejfkjhemhdlaa.P.S46)) : Prop := v.length ≤ maxLen ∧ ∀ x, x ∈ v → G46 x
theorem opens22 : Opens Try.prog (Kd.slice 46 Go.Proofs.Ytmejfkjhemhdlaa.P.k46) 22 G22 := Opens.slice Try.underlying22 (by kernel_rfl) opensE46
def G24P (v : ((List Go.Proofs.Ytmejfkjhemhdlaa.P.S46))) : Prop := G22 v
theorem opens24 : Opens Try.prog (Kd.slice 46 Go.Proofs.Ytmejfkjhemhdlaa.P.k46) 24 G24P := Opens.struct Try.underlying24 (by kernel_rfl) (fun enc W held n cs hl hf => (Opens.last (o := 0) (k := 1) (hl.trans rfl) (Opens.fld (o := 0) opens22 (hf 0 _ rfl))))
set_option maxRecDepth 100000 in
theorem lifted (os : Os) (started : os.Started) (H : Type) (enc : TypeId × Value → H) :
    ReturnsInHanded {} Try.checked os 3 .any (Rows.fnExactDataOKSpec.pre6 enc Try.prog Try.f3 Rows.fnExactDataOKRow.domain false) (Rows.fnExactDataOKSpec.post enc Try.prog Try.f3 false true false false) := by
  refine returnsInHanded_of_change_sized (C := Try.checked) own started (by kernel_rfl) Try.func3
    (ChangeSpec.witness6 (enc := enc) (C := Try.checked) false ⟨#[], #[.agg #[.slice none 0 0]], []⟩ 8 (by kernel_rfl) (by kernel_rfl) (by kernel_rfl) (by kernel_rfl)) ?_
  intro W base args ds gs before hval0 hW hcnd hsz0 _
  have hval : ∀ (j : Nat) t v, Try.f3.params[j]? = some t → args[j]? = some v → Value.okWide Try.prog W .any base t v := hval0
  have hW' := hW
  obtain ⟨p, q, hA0, hV, rfl, hfz, hnd⟩ := hW
  have hA : DataW.TrodAll enc Try.prog W 0 (fun _ => true) true Try.f3.params.toList args.toList ds p := hA0
  rw [Try.params3] at hA hval
  obtain ⟨v0, vs0, d0, ds0, p0, q0, hargs, rfl, rfl, h0, r0⟩ := trodAll_cons hA
  obtain ⟨rfl, rfl, rfl⟩ := trodAll_nil r0
  obtain rfl : args = #[v0] := by cases args; simp_all
  obtain ⟨rfl, rfl⟩ := trodVars_none hV
  have k0 := h0
  have lt0 : ∀ x ∈ p0, x.block < W.heap.size := by obtain ⟨m, hm⟩ := k0; exact DataW.trod_lt m _ _ _ hm
  obtain ⟨cs0, rfl, sz0⟩ := okWide_struct Try.underlying24 (hval 0 24 v0 rfl rfl)
  obtain ⟨fu0, hf0⟩ := h0
  obtain ⟨x0, hK0, gg0⟩ := (opens24).2 enc W true fu0 _ _ hf0
  have hK0' : ((Kd.slice 46 Go.Proofs.Ytmejfkjhemhdlaa.P.k46)).K W x0 cs0.toList := hK0
  generalize hcs0 : cs0.toList = cl0 at hK0'
  obtain ⟨A0_0, c0_0, rfl, hc0_0, hr0_0⟩ := hK0'
  obtain rfl : cs0 = #[.slice A0_0 x0.length c0_0] := by cases cs0; simp_all
  clear hA0 hval0
  obtain ⟨k, hk⟩ := Pure.FnExactDataOK x0 gg0
  refine (Go.Proofs.Ytmejfkjhemhdlaa.P.laws_FnExactDataOK.calls (k := k) (A0_0 := A0_0) (c0_0 := c0_0) (l0_0 := x0) (r := true) (w := W) (hr0_0 := hr0_0) (hc0_0 := hc0_0) (h := hk)).mono fun e W' ⟨he, bel⟩ => ?_
  subst he
  exact ⟨_, rfl, _, _, _, [], _, [], hW', trodAll_mk1 (shut_bool Try.underlying4 _), (trodAll_cons_mk (Below.trod laidOut (by kernel_rfl) (of_decide_eq_true (by kernel_rfl)) k0 bel lt0) trodAll_mk0), rfl, bel.frame _, fun h => by cases h⟩
theorem over : Rows.fnExactDataOKRow.holds Try.pinned (OpenSpec.ofChange Rows.fnExactDataOKSpec) :=
  OpenClaim.holds_of_wide 3 Try.f3 rfl rfl rfl rfl rfl rfl rfl ⟨rfl, rfl, rfl, rfl, rfl⟩ rfl rfl rfl rfl rfl (by kernel_rfl) Try.func3 (by kernel_rfl)
    (of_decide_eq_true (by kernel_rfl)) (by unfold Func.isWrapper; first | (rw [if_pos (by decide +kernel)]; kernel_rfl) | (rw [if_neg (by decide +kernel)]; exact ⟨rfl, rfl⟩))
    (fun os started H enc _ => lifted os started H enc)
theorem proved : Rows.FnExactDataOKSaid := over
#print axioms proved
end Go.Proofs.Ytmejfkjhemhdlaa.fnExactDataOK
