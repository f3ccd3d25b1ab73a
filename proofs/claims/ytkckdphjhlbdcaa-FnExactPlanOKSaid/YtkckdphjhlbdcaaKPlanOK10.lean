/-
  Part 10 of the proof of this: The law FnExactPlanOK answers true at every argument.
-/
import Derived.Test.YtkckdphjhlbdcaaKPlanOK2
import Derived.Test.YtkckdphjhlbdcaaKPlanOK6
import Derived.Test.YtkckdphjhlbdcaaKPlanOK7
import Derived.Test.YtkckdphjhlbdcaaKPlanOK8
import Derived.Test.YtkckdphjhlbdcaaKPlanOK9
namespace Go.Proofs.Ytkckdphjhlbdcaa.P
open Go.RowKit Go.Proofs.YtkckdphjhlbdcaaW.PrintWords Go.Proofs.YtkckdphjhlbdcaaW.PrintLast Go.Proofs.YtkckdphjhlbdcaaW.PrintMore
attribute [local go_sem] max2_int min2_int max_two min_two max_three min_three max_four min_four
set_option linter.all false
def cX.l0:Nat->List (List Int)->List (List Int)->Int->Option (Bool)
 |0,_,_,_=>none
 |k+1,x0,x1,x5=>if x5<(x0.length:Int) then (if 0<=x5 then (if x5<(x1.length:Int) then ((cN.f k (cZ x0 x5) (cZ x1 x5)).bind fun WW=>(if WW=true then (cX.l0 k x0 x1 (wrap64 (x5+1))) else (some false))) else (none)) else (none)) else (some true)
def cX.f (k:Nat) (l0:List (List Int)) (l1:List (List Int)):Option (Bool):=if (l0.length:Int)=(l1.length:Int) then (cX.l0 k l0 l1 0) else (some false)
theorem cX.cC:∀k,(∀y0 y1 y2,aR (cX.l0 k y0 y1 y2) (cX.l0 (k+1) y0 y1 y2))
 |0=>fun _ _ _ r h=>by simp [cX.l0] at h
 |k+1=>by
  have dN:=cX.cC k
  ·intro y0 y1 y2
   unfold cX.l0
   repeat' first
   |(with_reducible exact dN _ _ _)
   |(with_reducible exact cN.mono _ _ _)
   |(with_reducible exact aR.refl _)
   |(with_reducible exact aR.none _)
   |(with_reducible refine aR.ite ?_ ?_)
   |(with_reducible refine aR.bind ?_ (fun _=>?_))
theorem cX.mono:∀a0 a1 k,aR (cX.f k a0 a1) (cX.f (k+1) a0 a1):=by
 intro a0 a1 k
 have dN:=cX.cC k
 unfold cX.f
 repeat' first
  |(with_reducible exact dN _ _ _)
  |(with_reducible exact cN.mono _ _ _)
  |(with_reducible exact aR.refl _)
  |(with_reducible exact aR.none _)
  |(with_reducible refine aR.ite ?_ ?_)
  |(with_reducible refine aR.bind ?_ (fun _=>?_))
set_option maxHeartbeats 8000000 in
set_option maxRecDepth 100000 in
theorem cX.calls (k:Nat) (A0:Option Addr) (c0:Nat) (l0:List (List Int)) (A1:Option Addr) (c1:Nat) (l1:List (List Int)) (r:Bool) (w:World) (fl:Kd.C (Kd.slice 3 (Kd.int .i64)) w A0 l0.length l0) (hc0:l0.length<=c0) (hr1:Kd.C (Kd.slice 3 (Kd.int .i64)) w A1 l1.length l1) (hc1:l1.length<=c1) (h:cX.f k l0 l1=some r):
 Calls Try.prog 11 #[.slice A0 l0.length c0,.slice A1 l1.length c1] w fun e w'=>e= .returned (.bool r)/\aW w w':=by
 have eu:=Aside0.mk fl
 have kr:=Aside0.mk hc0
 clear fl hc0
 have gA:=Aside0.mk hr1
 have gb:=Aside0.mk hc1
 clear hr1 hc1
 have H:(if (l0.length:Int)=(l1.length:Int) then (cX.l0 k l0 l1 0) else (some false))=some r:=h
 clear h
 by_cases c3:(l0.length:Int)=(l1.length:Int)
 ·rw [if_pos c3] at H
  have iw:((l0.length:Int)==(l1.length:Int))=true:=beq_iff_eq.mpr c3
  have oz:((l0.length:Int) !=(l1.length:Int))=false:=bne_eq_false_iff_eq.mpr c3
  have Dk:(l0.length==l1.length)=true:=by first|simpa using c3|(simp at c3⊢;omega)
  clear c3
  have H':=Aside0.mk H
  clear H
  go_enter Try.func11,Try.ntmps11
  go_wp2
  repeat (go_quiet (fail);try go_wp2)
  go_loopg [5] k (fun kq v5 w'=>∃(bC:Int),v5= .int .i64 bC/\Aside0 (cX.l0 kq l0 l1 bC=some r)/\Aside0 (kq<=k)/\aW w w')
  case atStart=>exact ⟨(0),(by first|rfl|(simp;done)|(simp [*];done)),H',⟨Nat.le_refl _⟩,by repeat (first|exact aW.refl _|apply aW.step)⟩
  case round=>
   clear H'
   try clear c1
   try clear p2
   try clear c3
   try clear iw
   try clear oz
   try clear Dk
   obtain ⟨bC,rfl,HA,dX,⟨m1,rfl⟩⟩:=hrel
   cases gk with
   |zero=>exact absurd HA.out (by simp [cX.l0])
   |succ k1=>
    have H:=HA.out
    clear HA
    simp only [cX.l0] at H
    by_cases c4:bC<(l0.length:Int)
    ·rw [if_pos c4] at H
     have mj:decide (bC<(l0.length:Int))=true:=decide_eq_true c4
     clear c4
     by_cases c5:0<=bC
     ·rw [if_pos c5] at H
      have wF:decide (0<=bC)=true:=decide_eq_true c5
      clear c5
      by_cases c6:bC<(l1.length:Int)
      ·rw [if_pos c6] at H
       have oc:decide (bC<(l1.length:Int))=true:=decide_eq_true c6
       clear c6
       replace H:=Option.bind_eq_some_iff.mp H
       obtain ⟨WW,CC,H⟩:=H
       replace H:(if WW=true then (cX.l0 k1 l0 l1 (wrap64 (bC+1))) else (some false))=some r:=H
       have A7:=Aside0.mk CC
       clear CC
       by_cases c8:WW=true
       ·subst c8
        have H1:(cX.l0 k1 l0 l1 (wrap64 (bC+1)))=some r:=by rw [if_pos rfl] at H;exact H
        clear H
        have H:=H1
        clear H1
        have H':=Aside0.mk H
        clear H
        have Gz:0<=(bC:Int):=of_decide_eq_true (by first|(with_reducible assumption)|assumption)
        have GA:bC<(l0.length:Int):=of_decide_eq_true (by first|(with_reducible assumption)|assumption)
        obtain ⟨b3z,b0E,b0F,a2U,a7m,Al,Am⟩:=kX eu.out bC Gz GA
        cases a2U
        have uB:=Aside0.mk Am
        have uC:=Aside0.mk Al
        clear Am Al
        replace Gz:=eq_true Gz
        replace GA:=eq_true GA
        have GC:0<=(bC:Int):=of_decide_eq_true (by first|(with_reducible assumption)|assumption)
        have GD:bC<(l1.length:Int):=of_decide_eq_true (by first|(with_reducible assumption)|assumption)
        obtain ⟨b3A,b0G,b0H,a2V,a7n,Ao,Ap⟩:=kX gA.out bC GC GD
        cases a2V
        have uD:=Aside0.mk Ap
        have uE:=Aside0.mk Ao
        clear Ap Ao
        replace GC:=eq_true GC
        replace GD:=eq_true GD
        go_wp2_with (first|(go_at_call 16;(with_reducible refine (cN.calls k1 _ _ (cZ l0 bC) _ _ (cZ l1 bC) true _ ?bO ?bP ?fV ?fW A7.out).mono ?_);(case bO=>repeat (first|exact uB.out|(with_reducible refine Kd.bV ?_ _)|(with_reducible refine Kd.bW ?_ _)|(with_reducible refine Kd.cy ?_)));(case bP=>exact uC.out);(case fV=>repeat (first|exact uD.out|(with_reducible refine Kd.bV ?_ _)|(with_reducible refine Kd.bW ?_ _)|(with_reducible refine Kd.cy ?_)));(case fW=>exact uE.out);rintro e w' ⟨rfl,⟨nd,rfl⟩⟩;(try first|exact ⟨rfl,_,World.drewN_drewN _ _ _⟩|exact ⟨rfl,_,Eq.trans (World.drewN_drewN _ _ _) (congrArg (World.drewN _) (Nat.add_assoc _ _ _))⟩)))
        repeat (go_quiet (first|(go_at_call 16;(with_reducible refine (cN.calls k1 _ _ (cZ l0 bC) _ _ (cZ l1 bC) true _ ?bO ?bP ?fV ?fW A7.out).mono ?_);(case bO=>repeat (first|exact uB.out|(with_reducible refine Kd.bV ?_ _)|(with_reducible refine Kd.bW ?_ _)|(with_reducible refine Kd.cy ?_)));(case bP=>exact uC.out);(case fV=>repeat (first|exact uD.out|(with_reducible refine Kd.bV ?_ _)|(with_reducible refine Kd.bW ?_ _)|(with_reducible refine Kd.cy ?_)));(case fW=>exact uE.out);rintro e w' ⟨rfl,⟨nd,rfl⟩⟩;(try first|exact ⟨rfl,_,World.drewN_drewN _ _ _⟩|exact ⟨rfl,_,Eq.trans (World.drewN_drewN _ _ _) (congrArg (World.drewN _) (Nat.add_assoc _ _ _))⟩)));try go_wp2_with (first|(go_at_call 16;(with_reducible refine (cN.calls k1 _ _ (cZ l0 bC) _ _ (cZ l1 bC) true _ ?bO ?bP ?fV ?fW A7.out).mono ?_);(case bO=>repeat (first|exact uB.out|(with_reducible refine Kd.bV ?_ _)|(with_reducible refine Kd.bW ?_ _)|(with_reducible refine Kd.cy ?_)));(case bP=>exact uC.out);(case fV=>repeat (first|exact uD.out|(with_reducible refine Kd.bV ?_ _)|(with_reducible refine Kd.bW ?_ _)|(with_reducible refine Kd.cy ?_)));(case fW=>exact uE.out);rintro e w' ⟨rfl,⟨nd,rfl⟩⟩;(try first|exact ⟨rfl,_,World.drewN_drewN _ _ _⟩|exact ⟨rfl,_,Eq.trans (World.drewN_drewN _ _ _) (congrArg (World.drewN _) (Nat.add_assoc _ _ _))⟩))))
        go_roundg k1
        case measure=>have:=dX.out;omega
        case rel=>exact ⟨(wrap64 (bC+1)),(by first|rfl|(simp;done)|(simp [*];done)),H',⟨by have:=dX.out;omega⟩,by repeat (first|exact aW.refl _|apply aW.step)⟩
       ·replace c8:=Bool.eq_false_iff.mpr c8
        subst c8
        have H1:(some false)=some r:=by rw [if_neg (show ¬(false=true) by decide)] at H;exact H
        clear H
        have H:=H1
        clear H1
        obtain rfl:=Option.some.inj H
        have Gz:0<=(bC:Int):=of_decide_eq_true (by first|(with_reducible assumption)|assumption)
        have GA:bC<(l0.length:Int):=of_decide_eq_true (by first|(with_reducible assumption)|assumption)
        obtain ⟨b3z,b0E,b0F,a2U,a7m,Al,Am⟩:=kX eu.out bC Gz GA
        cases a2U
        have uB:=Aside0.mk Am
        have uC:=Aside0.mk Al
        clear Am Al
        replace Gz:=eq_true Gz
        replace GA:=eq_true GA
        have GC:0<=(bC:Int):=of_decide_eq_true (by first|(with_reducible assumption)|assumption)
        have GD:bC<(l1.length:Int):=of_decide_eq_true (by first|(with_reducible assumption)|assumption)
        obtain ⟨b3A,b0G,b0H,a2V,a7n,Ao,Ap⟩:=kX gA.out bC GC GD
        cases a2V
        have uD:=Aside0.mk Ap
        have uE:=Aside0.mk Ao
        clear Ap Ao
        replace GC:=eq_true GC
        replace GD:=eq_true GD
        go_wp2_with (first|(go_at_call 16;(with_reducible refine (cN.calls k1 _ _ (cZ l0 bC) _ _ (cZ l1 bC) false _ ?bO ?bP ?fV ?fW A7.out).mono ?_);(case bO=>repeat (first|exact uB.out|(with_reducible refine Kd.bV ?_ _)|(with_reducible refine Kd.bW ?_ _)|(with_reducible refine Kd.cy ?_)));(case bP=>exact uC.out);(case fV=>repeat (first|exact uD.out|(with_reducible refine Kd.bV ?_ _)|(with_reducible refine Kd.bW ?_ _)|(with_reducible refine Kd.cy ?_)));(case fW=>exact uE.out);rintro e w' ⟨rfl,⟨nd,rfl⟩⟩;(try first|exact ⟨rfl,_,World.drewN_drewN _ _ _⟩|exact ⟨rfl,_,Eq.trans (World.drewN_drewN _ _ _) (congrArg (World.drewN _) (Nat.add_assoc _ _ _))⟩)))
        repeat (go_quiet (first|(go_at_call 16;(with_reducible refine (cN.calls k1 _ _ (cZ l0 bC) _ _ (cZ l1 bC) false _ ?bO ?bP ?fV ?fW A7.out).mono ?_);(case bO=>repeat (first|exact uB.out|(with_reducible refine Kd.bV ?_ _)|(with_reducible refine Kd.bW ?_ _)|(with_reducible refine Kd.cy ?_)));(case bP=>exact uC.out);(case fV=>repeat (first|exact uD.out|(with_reducible refine Kd.bV ?_ _)|(with_reducible refine Kd.bW ?_ _)|(with_reducible refine Kd.cy ?_)));(case fW=>exact uE.out);rintro e w' ⟨rfl,⟨nd,rfl⟩⟩;(try first|exact ⟨rfl,_,World.drewN_drewN _ _ _⟩|exact ⟨rfl,_,Eq.trans (World.drewN_drewN _ _ _) (congrArg (World.drewN _) (Nat.add_assoc _ _ _))⟩)));try go_wp2_with (first|(go_at_call 16;(with_reducible refine (cN.calls k1 _ _ (cZ l0 bC) _ _ (cZ l1 bC) false _ ?bO ?bP ?fV ?fW A7.out).mono ?_);(case bO=>repeat (first|exact uB.out|(with_reducible refine Kd.bV ?_ _)|(with_reducible refine Kd.bW ?_ _)|(with_reducible refine Kd.cy ?_)));(case bP=>exact uC.out);(case fV=>repeat (first|exact uD.out|(with_reducible refine Kd.bV ?_ _)|(with_reducible refine Kd.bW ?_ _)|(with_reducible refine Kd.cy ?_)));(case fW=>exact uE.out);rintro e w' ⟨rfl,⟨nd,rfl⟩⟩;(try first|exact ⟨rfl,_,World.drewN_drewN _ _ _⟩|exact ⟨rfl,_,Eq.trans (World.drewN_drewN _ _ _) (congrArg (World.drewN _) (Nat.add_assoc _ _ _))⟩))))
        go_ret
        exact ⟨by first|rfl|(simp;done)|(simp [*];done),by repeat (first|exact aW.refl _|apply aW.step)⟩
      ·rw [if_neg c6] at H
       exact absurd H (by simp)
     ·rw [if_neg c5] at H
      exact absurd H (by simp)
    ·rw [if_neg c4] at H
     have mj:decide (bC<(l0.length:Int))=false:=decide_eq_false c4
     clear c4
     obtain rfl:=Option.some.inj H
     go_wp2
     repeat (go_quiet (fail);try go_wp2)
     go_ret
     exact ⟨by first|rfl|(simp;done)|(simp [*];done),by repeat (first|exact aW.refl _|apply aW.step)⟩
 ·rw [if_neg c3] at H
  have iw:((l0.length:Int)==(l1.length:Int))=false:=beq_eq_false_iff_ne.mpr c3
  have oz:((l0.length:Int) !=(l1.length:Int))=true:=bne_iff_ne.mpr c3
  have Dk:(l0.length==l1.length)=false:=by first|simpa using c3|(simp at c3⊢;omega)
  obtain rfl:=Option.some.inj H
  go_enter Try.func11,Try.ntmps11
  go_wp2
  repeat (go_quiet (fail);try go_wp2)
  go_ret
  exact ⟨by first|rfl|(simp;done)|(simp [*];done),by repeat (first|exact aW.refl _|apply aW.step)⟩
end Go.Proofs.Ytkckdphjhlbdcaa.P
namespace Go.Proofs.Ytkckdphjhlbdcaa.PT
open Go.RowKit Go.Proofs.Ytkckdphjhlbdcaa.P Go.Proofs.YtkckdphjhlbdcaaW.PrintWords Go.Proofs.YtkckdphjhlbdcaaW.PrintLast Go.Proofs.Ytkckdphjhlbdcaa.EvKit
set_option linter.all false
theorem Dl (l:List Int) (a:Int) (hl:l.length<=9223372036854775807) (h1: -1<=a) (h2:a<=1048576):en.f l a=some (if a - l.length<0 then -1 else a - l.length):=by
 unfold en.f
 rw [XZ (by omega) (by omega)]
 split<;>rfl
def zj (a:Int):List (List Int)->Int
 | []=>a
 |l::r=>if a - l.length<0 then -1 else zj (a - l.length) r
def dU (l:List (List Int)) (a:Int):Int:=if a - l.length<0 then -1 else zj (a - l.length) l
theorem WX (l:List (List Int)) (hl:l.length<=9223372036854775806) (zB:∀x,x∈l->x.length<=9223372036854775807):∀d i,i+d=l.length->∀a:Int,0<=a->a<=1048576->Ev (fun k=>cD.l0 k l a (i:Int)) (zj a (l.drop i)):=by
 intro d
 induction d with
 |zero=>
  intro i hi a h0 h1
  refine Ev.succ ?_
  simp only [cD.l0,if_neg (show ¬((i:Int)<(l.length:Int)) by omega)]
  rw [List.drop_of_length_le (by omega)]
  exact Ev.now _
 |succ d ih=>
  intro i hi a h0 h1
  have hlt:i<l.length:=by omega
  refine Ev.succ ?_
  have hr:cZ l (i:Int)=l[i]:=getD_at _ hlt
  simp only [cD.l0,if_pos (show ((i:Int)<(l.length:Int)) by omega),if_pos (show (0:Int)<=(i:Int) by omega),hr,dQ (show i<=9223372036854775806 by omega)]
  rw [ox hlt]
  simp only [zj,Dl l[i] a (zB _ (List.getElem_mem hlt)) (by omega) h1,Option.bind_some]
  by_cases h:a - l[i].length<0
  ·simp only [if_pos h,show ((-1:Int)<0) from by omega,if_true]
   exact Ev.now _
  ·simp only [if_neg h]
   exact ih (i+1) (by omega) _ (by omega) (by omega)
theorem Jv (l:List (List Int)) (a:Int) (hl:l.length<=9223372036854775807) (zB:∀x,x∈l->x.length<=9223372036854775807) (h1: -1<=a) (h2:a<=1048576):Ev (fun k=>cD.f k l a) (dU l a):=by
 unfold cD.f dU
 simp only [XZ (n:=a -(l.length:Int)) (by omega) (by omega)]
 by_cases h:a -(l.length:Int)<0
 ·simp only [if_pos h];exact Ev.now _
 ·simp only [if_neg h]
  exact WX l (by omega) zB l.length 0 (by omega) _ (by omega) (by omega)
theorem toIntS_l0 (l:List Int) (hl:l.length<=35184372088832):∀d i,i+d=l.length->Ev (fun k=>ct.l0 k l (l.take i++List.replicate d 0) (i:Int)) l:=by
 intro d
 induction d with
 |zero=>
  intro i hi
  refine Ev.succ ?_
  simp only [ct.l0,if_neg (show ¬((i:Int)<(l.length:Int)) by omega)]
  have:l.take i++List.replicate 0 0=l:=by rw [List.take_of_length_le (by omega)];simp
  rw [this];exact Ev.now _
 |succ d ih=>
  intro i hi
  have hlt:i<l.length:=by omega
  refine Ev.succ ?_
  have hlen:(l.take i++List.replicate (d+1) (0:Int)).length=l.length:=by simp;omega
  simp only [ct.l0,if_pos (show ((i:Int)<(l.length:Int)) by omega),if_pos (show (0:Int)<=(i:Int) by omega),hlen,qh hlt,dQ (show i<=9223372036854775806 by omega)]
  have hs:(l.take i++List.replicate (d+1) (0:Int)).set (i:Int).toNat l[i]=l.take (i+1)++List.replicate d 0:=by
   rw [Int.toNat_natCast,List.set_append_right _ _ (by simp;omega),List.take_succ_eq_append_getElem hlt]
   have:i -(l.take i).length=0:=by simp;omega
   rw [this,List.replicate_succ]
   simp only [List.set_cons_zero,List.append_assoc,List.singleton_append]
  rw [hs]
  exact ih (i+1) (by omega)
theorem toIntS_ev (l:List Int) (hl:l.length<=35184372088832):Ev (fun k=>ct.f k l) l:=by
 unfold ct.f
 simp only [if_pos (show (0:Int)<=(l.length:Int) by omega),Int.toNat_natCast,if_pos hl]
 have:=toIntS_l0 l hl l.length 0 (by omega)
 simpa using this
theorem toIntSS_l0 (l:List (List Int)) (hl:l.length<=11728124029610) (zB:∀x,x∈l->x.length<=35184372088832):∀d i,i+d=l.length->Ev (fun k=>cM.l0 k l (l.take i++List.replicate d []) (i:Int)) l:=by
 intro d
 induction d with
 |zero=>
  intro i hi
  refine Ev.succ ?_
  simp only [cM.l0,if_neg (show ¬((i:Int)<(l.length:Int)) by omega)]
  have:l.take i++List.replicate 0 []=l:=by rw [List.take_of_length_le (by omega)];simp
  rw [this];exact Ev.now _
 |succ d ih=>
  intro i hi
  have hlt:i<l.length:=by omega
  refine Ev.succ ?_
  have hlen:(l.take i++List.replicate (d+1) ([]:List Int)).length=l.length:=by simp;omega
  have hr:cZ l (i:Int)=l[i]:=getD_at _ hlt
  simp only [cM.l0,if_pos (show ((i:Int)<(l.length:Int)) by omega),if_pos (show (0:Int)<=(i:Int) by omega),hlen,hr,dQ (show i<=9223372036854775806 by omega)]
  refine Ev.bind (toIntS_ev l[i] (zB _ (List.getElem_mem hlt))) ?_
  have hs:(l.take i++List.replicate (d+1) ([]:List Int)).set (i:Int).toNat l[i]=l.take (i+1)++List.replicate d []:=by
   rw [Int.toNat_natCast,List.set_append_right _ _ (by simp;omega),List.take_succ_eq_append_getElem hlt]
   have:i -(l.take i).length=0:=by simp;omega
   rw [this,List.replicate_succ]
   simp only [List.set_cons_zero,List.append_assoc,List.singleton_append]
  simp only [hs]
  exact ih (i+1) (by omega)
theorem toIntSS_ev (l:List (List Int)) (hl:l.length<=11728124029610) (zB:∀x,x∈l->x.length<=35184372088832):Ev (fun k=>cM.f k l) l:=by
 unfold cM.f
 simp only [if_pos (show (0:Int)<=(l.length:Int) by omega),Int.toNat_natCast,if_pos hl]
 have:=toIntSS_l0 l hl zB l.length 0 (by omega)
 simpa using this
theorem a0h (a b:List Int) (hab:a.length=b.length) (hl:a.length<=9223372036854775806):∀i,i<=a.length->Ev (fun k=>cN.l0 k a b (i:Int)) (decide (a.drop i=b.drop i)):=by
 refine Ev.loop (g:=fun k i=>cN.l0 k a b (i:Int)) (n:=a.length) ?_ ?_
 ·refine Ev.succ ?_
  simp only [cN.l0,if_neg (show ¬((a.length:Int)<(a.length:Int)) by omega)]
  have:decide (a.drop a.length=b.drop a.length)=true:=by simp [hab]
  rw [this];exact Ev.now _
 ·intro i hi ih
  have hi':i<b.length:=by omega
  refine Ev.succ ?_
  simp only [cN.l0,if_pos (show ((i:Int)<(a.length:Int)) by omega),if_pos (show ((i:Int)<(b.length:Int)) by omega),if_pos (show (0:Int)<=(i:Int) by omega),qh hi,qh hi',dQ (show i<=9223372036854775806 by omega)]
  rw [ox hi,ox hi']
  by_cases h:a[i]=b[i]
  ·simp only [if_pos h,List.cons.injEq,h,true_and];exact ih
  ·simp only [if_neg h,List.cons.injEq,h,false_and,decide_false];exact Ev.now _
theorem NR (a b:List Int) (hl:a.length<=9223372036854775806):Ev (fun k=>cN.f k a b) (decide (a=b)):=by
 unfold cN.f
 by_cases h:a.length=b.length
 ·simp only [if_pos (show (a.length:Int)=(b.length:Int) by omega)]
  have:=a0h a b h hl 0 (by omega)
  simpa using this
 ·simp only [if_neg (show ¬(a.length:Int)=(b.length:Int) by omega)]
  have:decide (a=b)=false:=by simp;intro e;exact h (by rw [e])
  rw [this];exact Ev.now _
theorem WY (a b:List (List Int)) (hab:a.length=b.length) (hl:a.length<=9223372036854775806) (zB:∀x,x∈a->x.length<=9223372036854775806):∀i,i<=a.length->Ev (fun k=>cX.l0 k a b (i:Int)) (decide (a.drop i=b.drop i)):=by
 refine Ev.loop (g:=fun k i=>cX.l0 k a b (i:Int)) (n:=a.length) ?_ ?_
 ·refine Ev.succ ?_
  simp only [cX.l0,if_neg (show ¬((a.length:Int)<(a.length:Int)) by omega)]
  have:decide (a.drop a.length=b.drop a.length)=true:=by simp [hab]
  rw [this];exact Ev.now _
 ·intro i hi ih
  have hi':i<b.length:=by omega
  refine Ev.succ ?_
  have ha:cZ a (i:Int)=a[i]:=getD_at _ hi
  have hb:cZ b (i:Int)=b[i]:=getD_at _ hi'
  simp only [cX.l0,if_pos (show ((i:Int)<(a.length:Int)) by omega),if_pos (show ((i:Int)<(b.length:Int)) by omega),if_pos (show (0:Int)<=(i:Int) by omega),ha,hb,dQ (show i<=9223372036854775806 by omega)]
  rw [ox hi,ox hi']
  refine Ev.bind (NR a[i] b[i] (zB _ (List.getElem_mem hi))) ?_
  by_cases h:a[i]=b[i]
  ·simp only [h,decide_true,if_true,List.cons.injEq,true_and];exact ih
  ·simp only [h,decide_false,Bool.false_eq_true,if_false,List.cons.injEq,false_and];exact Ev.now _
theorem WZ (a b:List (List Int)) (hl:a.length<=9223372036854775806) (zB:∀x,x∈a->x.length<=9223372036854775806):Ev (fun k=>cX.f k a b) (decide (a=b)):=by
 unfold cX.f
 by_cases h:a.length=b.length
 ·simp only [if_pos (show (a.length:Int)=(b.length:Int) by omega)]
  have:=WY a b h hl zB 0 (by omega)
  simpa using this
 ·simp only [if_neg (show ¬(a.length:Int)=(b.length:Int) by omega)]
  have:decide (a=b)=false:=by simp;intro e;exact h (by rw [e])
  rw [this];exact Ev.now _
theorem UM:∀(l:List (List Int)) (a:Int),0<=zj a l->0<=a/\zj a l<=a/\∀x,x∈l->(x.length:Int)<=a
 | [],a,h=>⟨h,Int.le_refl _,fun x hx=>by simp at hx⟩
 |y::r,a,h=>by
  simp only [zj] at h⊢
  by_cases h1:a - y.length<0
  ·rw [if_pos h1] at h;omega
  ·rw [if_neg h1] at h⊢
   obtain ⟨h2,h3,h4⟩:=UM r _ h
   refine ⟨by omega,by omega,fun x hx=>?_⟩
   rcases List.mem_cons.1 hx with rfl|hx
   ·omega
   ·have:=h4 x hx;omega
theorem Te (r:List (List Int)) (a:Int) (h:0<=dU r a):(r.length:Int)<=a/\dU r a<=a/\∀x,x∈r->(x.length:Int)<=a:=by
 unfold dU at h⊢
 by_cases h1:a - r.length<0
 ·rw [if_pos h1] at h;omega
 ·rw [if_neg h1] at h⊢
  obtain ⟨h2,h3,h4⟩:=UM r _ h
  exact ⟨by omega,by omega,fun x hx=>by have:=h4 x hx;omega⟩
end Go.Proofs.Ytkckdphjhlbdcaa.PT
namespace Go.Proofs.Ytkckdphjhlbdcaa.P
open Go.RowKit Go.Proofs.YtkckdphjhlbdcaaW.PrintWords Go.Proofs.YtkckdphjhlbdcaaW.PrintLast Go.Proofs.YtkckdphjhlbdcaaW.PrintMore
attribute [local go_sem] max2_int min2_int max_two min_two max_three min_three max_four min_four
set_option linter.all false
def dV.l0:Nat->List Int->Int->Int->Option (Int×List Int)
 |0,_,_,_=>none
 |k+1,x0,x1,x5=>if x5<(x0.length:Int) then (if 0<=x5 then (dV.l0 k (x0.set (x5:Int).toNat x1) (wrap64 (x1+1)) (wrap64 (x5+1))) else (none)) else (some (x1,x0))
def dV.f (k:Nat) (l0:List Int) (a1:Int):Option (Int×List Int):=dV.l0 k l0 a1 0
theorem dV.cC:∀k,(∀y0 y1 y2,aR (dV.l0 k y0 y1 y2) (dV.l0 (k+1) y0 y1 y2))
 |0=>fun _ _ _ r h=>by simp [dV.l0] at h
 |k+1=>by
  have dN:=dV.cC k
  ·intro y0 y1 y2
   unfold dV.l0
   repeat' first
   |(with_reducible exact dN _ _ _)
   |(with_reducible exact aR.refl _)
   |(with_reducible exact aR.none _)
   |(with_reducible refine aR.ite ?_ ?_)
   |(with_reducible refine aR.bind ?_ (fun _=>?_))
theorem dV.mono:∀a0 a1 k,aR (dV.f k a0 a1) (dV.f (k+1) a0 a1):=by
 intro a0 a1 k
 have dN:=dV.cC k
 unfold dV.f
 repeat' first
  |(with_reducible exact dN _ _ _)
  |(with_reducible exact aR.refl _)
  |(with_reducible exact aR.none _)
  |(with_reducible refine aR.ite ?_ ?_)
  |(with_reducible refine aR.bind ?_ (fun _=>?_))
set_option maxHeartbeats 8000000 in
set_option maxRecDepth 100000 in
theorem dV.calls (k:Nat) (Fu:Nat->Prop) (Dm:Value) (l0:List Int) (a1:Int) (r1:Int) (r2:List Int) (w0 w:World) (hB:Below w0.heap.size w0 w) (gG:Kd.R (Kd.int .i64) 3 w w0.heap.size Fu Dm l0) (h:dV.f k l0 a1=some (r1,r2)):
 Calls Try.prog 18 #[Dm,.int .i64 a1] w fun e w'=>e= .returned (.int .i64 r1)/\Kd.R (Kd.int .i64) 3 w' w0.heap.size (fun k_=>(Fu k_∨w.heap.size<=k_)) Dm r2/\Below w0.heap.size w0 w'/\Kept w w' (fun k_=>Fu k_):=by
 have HO0:=Aside0.mk (show Kd.R (Kd.int .i64) 3 w w0.heap.size (fun k_=>(Fu k_∨w.heap.size<=k_)) Dm l0 from Kd.dh gG (fun k_ hk=>(.inl hk)))
 have HK:=Aside0.mk (Kept.refl w (fun k_=>Fu k_))
 have HW0:=Aside0.mk hB.size
 have HB:=Aside0.mk hB
 clear hB
 have H:(dV.l0 k l0 a1 0)=some (r1,r2):=h
 clear h
 have H':=Aside0.mk H
 clear H
 go_enter Try.func18,Try.ntmps18
 go_wp2
 go_loopg [1,5] k (fun kq v1 v5 w'=>∃(oy:List Int) (kU:Int) (bC:Int),v1= .int .i64 kU/\v5= .int .i64 bC/\Aside0 (dV.l0 kq oy kU bC=some (r1,r2))/\Aside0 (kq<=k)/\Aside0 (Kd.R (Kd.int .i64) 3 w' w0.heap.size (fun k_=>(Fu k_∨w.heap.size<=k_)) Dm oy)/\Aside0 (Kept w w' (fun k_=>Fu k_))/\Aside0 (Below w0.heap.size w0 w'))
 case atStart=>exact ⟨(l0),(a1),(0),(by first|rfl|(simp;done)|(simp [*];done)),(by first|rfl|(simp;done)|(simp [*];done)),H',⟨Nat.le_refl _⟩,⟨by (with_reducible repeat (first|apply Kd.ck|apply Kd.cn|apply Kd.cK));exact HO0.out⟩,⟨by repeat (first|(with_reducible first|exact HK.out|apply Kept.alloc|apply Kept.drewN|apply Kept.drew)|exact HK.out)⟩,⟨ay⟩⟩
 case round=>
  clear H'
  try clear c1
  try clear p2
  obtain ⟨oy,kU,bC,rfl,rfl,HA,dX,sQ,HK,HB⟩:=hrel
  cases gk with
  |zero=>exact absurd HA.out (by simp [dV.l0])
  |succ k1=>
   have H:=HA.out
   clear HA
   simp only [dV.l0] at H
   by_cases c3:bC<(oy.length:Int)
   ·rw [if_pos c3] at H
    have iw:decide (bC<(oy.length:Int))=true:=decide_eq_true c3
    clear c3
    by_cases c4:0<=bC
    ·rw [if_pos c4] at H
     have mj:decide (0<=bC)=true:=decide_eq_true c4
     clear c4
     obtain ⟨a2W,Jw⟩:∃y_:List Int,y_=(oy.set (bC:Int).toNat kU):=⟨_,rfl⟩
     replace H:(dV.l0 k1 a2W (wrap64 (kU+1)) (wrap64 (bC+1)))=some (r1,r2):=by first|(rw [Jw];with_reducible exact H)|(have eF:=(Option.bind_some _ _).symm.trans H;rw [Jw];with_reducible exact eF)|(have eF:=(Option.bind_some _ _).symm.trans H;with_reducible exact eF)|with_reducible exact H|(rw [Jw];exact H)|exact H
     have b3B:=Aside0.mk Jw
     clear Jw
     have H':=Aside0.mk H
     clear H
     obtain ⟨Ao6,co6,eo6⟩:=Kd.gJ sQ.out
     subst eo6
     have p5:0<=(bC:Int):=of_decide_eq_true (by first|(with_reducible assumption)|assumption)
     have q5:(bC:Int)<((oy.length:Int):Int):=of_decide_eq_true (by first|(with_reducible assumption)|assumption)
     obtain ⟨go5,co5,eo5,gb5,gl5,cl5,HG5⟩:=Kd.Hx sQ.out (by omega)
     (first|cases eo5|(injection eo5 with tP Rw Rx;(first|subst tP|(injection tP with tP;subst tP));subst Rx;clear Rw))
     have GB5:=Aside0.mk gb5
     have GG5:=Aside0.mk HG5
     clear gb5 gl5 HG5
     have HMgo5:=Aside0.mk (show (Fu go5∨w.heap.size<=go5) from (sQ.out.1 _ rfl))
     obtain ⟨hx5_0,hf5_0⟩:=Kd.Tt 0 sQ.out (bC:Int) p5 q5
     replace p5:=eq_true p5
     replace q5:=eq_true q5
     have HP7:=Kd.XI sQ.out (bC:Int) kU
     go_wp2_with (first|((with_reducible refine kg (t:=3) (p:=15) rfl ?_);refine uO (t:=3) (p:=15) (v:=?vo_w8) (w1:=(wr.setCell ⟨go5,(bC:Int).toNat,none⟩ (.int .i64 kU))) ?hg ?ho ?hn ?hr ?_;(case ho=>rfl);(case hg=>rfl);(case hn=>rfl);(case hr=>first|(go_simp;done)|(go_simp;rfl)|((try (obtain ⟨_,_,e_⟩:=Kd.gJ sQ.out;rw [e_]));(try (obtain ⟨_,_,e_⟩:=Kd.ri sQ.out;rw [e_]));(try (obtain ⟨_,_,e_⟩:=Kd.zy sQ.out;rw [e_]));(try (obtain ⟨_,_,e_⟩:=Kd.zz sQ.out;rw [e_]));go_simp;first|done|rfl));intro w8 hw;have hg:wr.grownBy w8 (some go5):=(by rw [hw];exact HP7.2);have Di:Kd.R (Kd.int .i64) 3 w8 w0.heap.size (fun k_=>(Fu k_∨w.heap.size<=k_)) (.slice (some ⟨go5,0,none⟩) oy.length co6) a2W:=(by rw [hw,b3B.out];exact HP7.1);clear HP7;have aA:=Aside0.mk (Di);have aC:=Aside0.mk ((by rw [hw];exact bR (HB.out) GB5.out:Below w0.heap.size w0 w8));have aD:=Aside0.mk (Kept.Pp (S:=(fun k_=>Fu k_)) hg (by repeat (first|(with_reducible first|exact HK.out|apply Kept.alloc|apply Kept.drewN|apply Kept.drew)|exact HK.out)) (fun k_ e_=>(sQ.out.1 k_ e_)));clear sQ;clear HB;clear HK;have sQ:=aA;have HB:=aC;have HK:=aD;clear aA aC aD;clear hg hw Di))
     go_roundg k1
     case measure=>have:=dX.out;omega
     case rel=>exact ⟨(a2W),(wrap64 (kU+1)),(wrap64 (bC+1)),(by first|rfl|(simp;done)|(simp [*];done)),(by first|rfl|(simp;done)|(simp [*];done)),H',⟨by have:=dX.out;omega⟩,⟨by (with_reducible repeat (first|apply Kd.ck|apply Kd.cn|apply Kd.cK));exact sQ.out⟩,⟨by repeat (first|(with_reducible first|exact HK.out|apply Kept.alloc|apply Kept.drewN|apply Kept.drew)|exact HK.out)⟩,⟨ay⟩⟩
    ·rw [if_neg c4] at H
     exact absurd H (by simp)
   ·rw [if_neg c3] at H
    have iw:decide (bC<(oy.length:Int))=false:=decide_eq_false c3
    clear c3
    simp only [Option.some.injEq,Prod.mk.injEq] at H
    obtain ⟨rfl,rfl⟩:=H
    obtain ⟨Ao9,co9,eo9⟩:=Kd.gJ sQ.out
    subst eo9
    go_wp2
    go_ret
    exact ⟨by first|rfl|(simp [aX,aY]<;>rfl)|(simp [*,aX,aY]<;>rfl),by (with_reducible repeat (first|apply Kd.ck|apply Kd.cn|apply Kd.cK));exact sQ.out,ay,by repeat (first|(with_reducible first|exact HK.out|apply Kept.alloc|apply Kept.drewN|apply Kept.drew)|exact HK.out)⟩
end Go.Proofs.Ytkckdphjhlbdcaa.P
namespace Go.Proofs.Ytkckdphjhlbdcaa.PT
open Go.RowKit Go.Proofs.Ytkckdphjhlbdcaa.P Go.Proofs.YtkckdphjhlbdcaaW.PrintWords Go.Proofs.YtkckdphjhlbdcaaW.PrintLast Go.Proofs.Ytkckdphjhlbdcaa.EvKit
set_option linter.all false
abbrev b7P:Kd (List Int):=Kd.slice 3 (Kd.int .i64)
def Jx:List (List Int)->Int
 | []=>0
 |a::r=>a.length+Jx r
abbrev tr0:World->World->Prop:=Tr (fun _=>False)
theorem tr0.mM {W W':World} (h:tr0 W W'):Below W.heap.size W W':=Tr.below h (fun _ hk=>hk.elim) (Nat.le_refl _)
theorem Tr.drew {S:Nat->Prop} {W W':World} (h:Tr S W W'):Tr S W W'.drew:=⟨h.os,h.tape,h.output,h.size,h.block⟩
theorem Tr.drewN {S:Nat->Prop} {W W':World} (h:Tr S W W') (n:Nat):Tr S W (W'.drewN n):=⟨h.os,h.tape,h.output,h.size,h.block⟩
theorem Tr.alloc {S:Nat->Prop} {W W':World} (h:Tr S W W') (o:Obj):Tr S W (W'.alloc o):=⟨h.os,h.tape,h.output,by rw [a7g];exact Nat.le_succ_of_le h.size,fun k hk hn=>(Below.heap_alloc W' o k (Nat.lt_of_lt_of_le hk h.size)).trans (h.block k hk hn)⟩
theorem Tr.set {S:Nat->Prop} {W W':World} (h:Tr S W W') {p:Addr} (hp:W.heap.size<=p.block) (u:Value):Tr S W (W'.setCell p u):=⟨h.os,h.tape,h.output,by simpa [World.setCell] using h.size,fun k hk hn=>(Below.heap_setCell W' p u k (by omega)).trans (h.block k hk hn)⟩
def RdI (W:World) (x:List Int) (A:Option Addr) (c:Nat):Prop:=x.length<=c/\Kd.C (Kd.int .i64) W A x.length x
def a2X (W:World) (x:List (List Int)) (A:Option Addr) (c:Nat):Prop:=x.length<=c/\Kd.C b7P W A x.length x
abbrev oI (W:World) (x:List Int) (A:Option Addr) (n c:Nat) (bs:List Nat):Prop:=owI.own W x [.slice A n c] bs
abbrev oII (W:World) (x:List (List Int)) (A:Option Addr) (n c:Nat) (bs:List Nat):Prop:=a2I.own W x [.slice A n c] bs
theorem oI.len {W:World} {x:List Int} {A:Option Addr} {n c:Nat} {bs:List Nat} (h:oI W x A n c bs):n=x.length:=by
 obtain ⟨A',c',e,_⟩:=owI.rd h
 injection e with e;injection e
theorem oII.len {W:World} {x:List (List Int)} {A:Option Addr} {n c:Nat} {bs:List Nat} (h:oII W x A n c bs):n=x.length:=by
 obtain ⟨A',c',e,_⟩:=a2I.rd h
 injection e with e;injection e
theorem oI.rd {W:World} {x:List Int} {A:Option Addr} {n c:Nat} {bs:List Nat} (h:oI W x A n c bs):RdI W x A c:=by
 obtain ⟨A',c',e,hl,hC⟩:=owI.rd h
 injection e with e;injection e with e1 e2 e3
 subst e1;subst e3
 exact ⟨hl,hC⟩
theorem oII.rd {W:World} {x:List (List Int)} {A:Option Addr} {n c:Nat} {bs:List Nat} (h:oII W x A n c bs):a2X W x A c:=by
 obtain ⟨A',c',e,hl,hC⟩:=a2I.rd h
 injection e with e;injection e with e1 e2 e3
 subst e1;subst e3
 exact ⟨hl,hC⟩
theorem a2X.rows {W:World} {x:List (List Int)} {A:Option Addr} {c:Nat} (h:a2X W x A c):∀y,y∈x->y.length<=9223372036854775807:=fun y hy=>by
 obtain ⟨i,hi,rfl⟩:=List.getElem_of_mem hy
 obtain ⟨_,_,hc⟩:=h.2.2.2 (by omega)
 obtain ⟨_,_,⟨_,_,_,_,hC⟩,_⟩:=hc i _ (List.getElem?_eq_getElem hi)
 exact hC.2.1
def RdN (W w':World) (R:World->Prop):Prop:=∀W',(∀k,W.heap.size<=k->k<w'.heap.size->W'.heap[k]? =w'.heap[k]?)->R W'
theorem RdN.now {W w':World} {R:World->Prop} (r:RdN W w' R):R w':=r w' (fun _ _ _=>rfl)
end Go.Proofs.Ytkckdphjhlbdcaa.PT
namespace Go.Proofs.Ytkckdphjhlbdcaa.PT
open Go.RowKit Go.Proofs.Ytkckdphjhlbdcaa.P Go.Proofs.YtkckdphjhlbdcaaW.PrintWords Go.Proofs.Ytkckdphjhlbdcaa.EvKit
set_option linter.all false
theorem RM:∀(l:List (List Int)) (a:Int),0<=zj a l->(∀x,x∈l->(x.length:Int)<=a)/\Jx l<=a
 | [],a,h=>⟨fun x hx=>by simp at hx,by simpa [Jx,zj] using h⟩
 |y::r,a,h=>by
  simp only [zj] at h
  by_cases c:a -(y.length:Int)<0
  ·rw [if_pos c] at h;omega
  ·rw [if_neg c] at h
   obtain ⟨h1,h2⟩:=RM r _ h
   refine ⟨fun x hx=>?_,by simp only [Jx];omega⟩
   rcases List.mem_cons.1 hx with rfl|hx
   ·omega
   ·have:=h1 x hx;omega
theorem GF {l:List (List Int)} {a:Int} (h:0<=dU l a):(l.length:Int)<=a/\(∀x,x∈l->(x.length:Int)<=a)/\Jx l<=a/\dU l a<=a:=by
 have h4:=Te l a h
 unfold dU at h
 by_cases c:a -(l.length:Int)<0
 ·rw [if_pos c] at h;omega
 ·rw [if_neg c] at h
  obtain ⟨h1,h2⟩:=RM l _ h
  exact ⟨by omega,fun x hx=>by have:=h1 x hx;omega,by omega,h4.2.1⟩
theorem UN:∀(l:List Int) (a:Int),iA a l=true->l=[]∨(l.length:Int)<=5 - a
 | [],_,_=> .inl rfl
 |v::r,a,h=>by
  simp only [iA,Bool.and_eq_true,decide_eq_true_eq] at h
  right
  rcases UN r v h.2 with rfl|h2
  ·simp;omega
  ·simp only [List.length_cons];omega
theorem sR {l:List Int} (h:iA (-1) l=true):l.length<=6:=by
 rcases UN l _ h with rfl|h
 ·simp
 ·omega
end Go.Proofs.Ytkckdphjhlbdcaa.PT
namespace Go.Proofs.Ytkckdphjhlbdcaa.PT
open Go.RowKit Go.Proofs.Ytkckdphjhlbdcaa.P Go.Proofs.YtkckdphjhlbdcaaW.PrintWords Go.Proofs.YtkckdphjhlbdcaaW.PrintLast Go.Proofs.Ytkckdphjhlbdcaa.EvKit Go.Proofs.Ytkckdphjhlbdcaa.Num Go.Proofs.Ytkckdphjhlbdcaa.Lp
set_option linter.all false
theorem a0j {W:World} {A:Option Addr} {xs:List dz} (h:Kd.C mm W A xs.length xs):∃rows:List (List Value),rows.length=xs.length/\Kd.C (Kd.raw 3) W A xs.length rows/\∀(j:Nat) (x:dz) (c:List Value),xs[j]? =some x->rows[j]? =some c->mm.K W x c:=
 Kd.XP (Rr:=mm.K W) (sz:=3) h (fun x c hk=>⟨mm.jT hk,mm.kf hk⟩)
theorem a0k {W:World} {A:Option Addr} {xs:List dz} {rows:List (List Value)} (h:Kd.C (Kd.raw 3) W A xs.length rows) (hl:rows.length=xs.length) (hK:∀(j:Nat) (x:dz) (c:List Value),xs[j]? =some x->rows[j]? =some c->mm.K W x c):Kd.C mm W A xs.length xs:=by
 refine ⟨rfl,h.2.1,fun hp=>?_⟩
 obtain ⟨ad,e,hr⟩:=h.2.2 hp
 refine ⟨ad,e,fun j p hj=>?_⟩
 have hjl:=(List.getElem?_eq_some_iff.1 hj).1
 have Zr:rows[j]? =some rows[j]:=List.getElem?_eq_getElem (by omega)
 obtain ⟨c,hc,hk,hcc⟩:=hr j _ Zr
 have hk':c=rows[j]:=hk.1
 exact ⟨c,hc,hK j p c hj (by rw [Zr,hk']),hcc⟩
theorem NS (w:World):Kd.R (Kd.raw 3) 96 (w.alloc (.cells #[] 96)) w.heap.size (fun _=>True) (.slice (some ⟨w.heap.size,0,none⟩) 0 0) []:=
 ⟨fun _ _=>trivial,[],⟨rfl,.inr ⟨w.heap.size,0,#[],rfl,Nat.le_refl _,dn w _,Nat.le_refl _,by unfold maxLen;omega,rfl,rfl⟩⟩,dD.none _ _⟩
theorem Ew {W:World} {b:Nat} {u0 u1 u2:Value} (h:W.heap[b]? =some (.cells #[u0,u1,u2] 96 (0,0))) (h0:u0.oneCell'=true) (h1:u1.oneCell'=true) (h2:u2.oneCell'=true):Kd.C (Kd.raw 3) W (some ⟨b,0,none⟩) 1 [[u0,u1,u2]]:=by
 refine ⟨rfl,by omega,fun _=>⟨⟨b,0,none⟩,rfl,fun j p hj=>?_⟩⟩
 rcases j with _|j
 ·simp only [List.getElem?_cons_zero,Option.some.injEq] at hj
  subst hj
  refine ⟨_,rfl,⟨rfl,rfl,fun u hu=>?_⟩,fun i u hu=>?_⟩
  ·simp only [List.mem_cons,List.not_mem_nil,or_false] at hu
   rcases hu with rfl|rfl|rfl
   ·exact h0
   ·exact h1
   ·exact h2
  ·have ea:(Addr.add ⟨b,0,none⟩ (0*3+i))=⟨b,i,none⟩:=by
    rw [Nat.zero_mul,Nat.zero_add]
    unfold Addr.add
    split
    ·next h=>rw [h]
    ·simp
   show W.cell? (Addr.add ⟨b,0,none⟩ (0*3+i))=some u
   rw [ea]
   refine (ag h i).trans ?_
   rw [<-hu]
   simp
 ·simp at hj
def a5l (n:Nat) (most:Bool) (x:Nat->Rat):Option (Nat->Rat)->Option (Nat->Rat)
 |none=>some x
 |some b=>if iJ n x b most=true then some x else some b
theorem a0l {n:Nat} {all ch:List dz} {most:Bool} {best:Option (Nat->Rat)} (h:gH n (iL ch n) n=none):kS n all most ch best=best:=by unfold kS;rw [h]
theorem a0m {n:Nat} {all ch:List dz} {most:Bool} {best:Option (Nat->Rat)} {R:Nat->Nat->Rat} (h:gH n (iL ch n) n=some R):kS n all most ch best=if all.all (js (qd R n))=true then a5l n most (qd R n) best else best:=by
 unfold kS;rw [h];cases best<;>rfl
theorem a2Y {n:Nat} {ch:List dz} (hch:ch.all (kz (n:Int))=true) (hl:ch.length=n) (hn0:0<n) (hn:n<=7):Jg (n:Int) ch=some (sD n ((gH n (iL ch n) n).map (fun R=>qd R n)),(gH n (iL ch n) n).isSome):=by
 subst hl
 unfold Jg
 have:zR (ch.length:Int) ch=true:=by
  unfold zR
  simp only [Bool.and_eq_true,decide_eq_true_eq]
  exact ⟨⟨⟨trivial,hn0⟩,hn⟩,hch⟩
 rw [if_pos this]
 cases gH ch.length (iL ch ch.length) ch.length<;>rfl
theorem Bn:(Try.prog.info? 96).map (fun i=>(i.zero,i.size,i.bytes))=some (some (.agg #[.slice none 0 0,.bool false,.int .i64 0]),3,40):=by kernel_rfl
theorem a2Z {l:List dz} {p:dz->Bool} {i:Nat} (h:(l.take i).all p=true) (hi:i<l.length) (hp:p l[i]=true):(l.take (i+1)).all p=true:=by
 rw [List.take_succ_eq_append_getElem hi,List.all_append,h]
 simp [hp]
theorem b0J {l:List dz} {p:dz->Bool} {i:Nat} (hi:i<l.length) (hp:p l[i]=false):l.all p=false:=by
 cases h:l.all p with
 |false=>rfl
 |true=>rw [List.all_eq_true.1 h _ (List.getElem_mem hi)] at hp;exact absurd hp (by decide)
theorem NT (n:Nat) (all:List dz) (most:Bool) {ch:List dz} (h:ch.length=n) (d:Nat) (best:Option (Nat->Rat)):gD n all most d ch best=kS n all most ch best:=by
 cases d with
 |zero=>simp only [gD];rw [if_pos h]
 |succ d=>simp only [gD];rw [if_pos h]
theorem a0n (n:Nat) (all:List dz) (most:Bool) {ch:List dz} (h:ch.length<n) {d:Nat} (hd:d<n - ch.length) (best:Option (Nat->Rat)):gD n all most d ch best=best:=by
 cases d with
 |zero=>simp only [gD];rw [if_neg (by omega)]
 |succ d=>simp only [gD];rw [if_neg (by omega),if_pos hd]
theorem a3a (n:Nat) (all:List dz) (most:Bool) {ch:List dz} (h:ch.length<n) {d:Nat} (hd:¬d+1<n - ch.length) (best:Option (Nat->Rat)):gD n all most (d+1) ch best=gD n all most d ch (gD n all most d (ch++[all.getD (all.length -(d+1)) tE]) best):=by
 simp only [gD];rw [if_neg (by omega),if_neg hd]
def BR (W:World) (base n:Nat) (v:Value) (o:Option (Nat->Rat)):Prop:=(∃A c,v= .slice A (sD n o).length c/\(sD n o).length<=c/\gY.C W A (sD n o).length (sD n o))/\(o≠none->Kd.R gY 34 W base (fun _=>True) v (sD n o))
theorem RN {W W1:World} {base n:Nat} {v:Value} {o:Option (Nat->Rat)} (h:BR W base n v o) (hb:Below W.heap.size W W1):BR W1 base n v o:=by
 obtain ⟨⟨A,c,e,h1,h2⟩,h3⟩:=h
 exact ⟨⟨A,c,e,h1,Kd.bp h2 hb⟩,fun ho=>Kd.ig (h3 ho) hb⟩
theorem UO {W:World} {base n:Nat} {v:Value} {x:Nat->Rat} (h:Kd.R gY 34 W base (fun _=>True) v (LQ n x)):BR W base n v (some x):=⟨Kd.nx h,fun _=>h⟩
set_option maxHeartbeats 4000000 in
set_option maxRecDepth 100000 in
theorem Fv (n:Nat) (hn0:0<n) (ud:n<=7) (all:List dz) (hall:all.all (kz (n:Int))=true) (Ij:all.length<=100) (most:Bool) (A1:Option Addr) (c1:Nat) (base:Nat) (fr:Int) (A3:Option Addr) (c3:Nat) (ch:List dz) (vb:Value) (best:Option (Nat->Rat)) (w:World)
 (rU:Kd.C mm w A1 all.length all) (hc1:all.length<=c1) (Fw:Kd.C mm w A3 ch.length ch) (hc3:ch.length<=c3) (hch:ch.all (kz (n:Int))=true) (Ar:ch.length=n) (hcm:Ux n best) (hR:BR w base n vb best) (hb:base<=w.heap.size):
 Calls Try.prog 70 #[.int .i64 (n:Int),.slice A1 all.length c1,.int .i64 fr,.slice A3 ch.length c3,vb,.bool most] w fun e w'=>∃v,e= .returned v/\BR w' base n v (kS n all most ch best)/\Below w.heap.size w w':=by
 have hu:=Try.underlying96
 ·
  have UQ:=Aside0.mk (fun W (hb:Below w.heap.size w W)=>SZ (n:Int) A3 c3 ch _ _ W (Kd.bp Fw hb) hc3 (a2Y hch Ar hn0 ud))
  have gb:=Aside0.mk (fun W (hb:Below w.heap.size w W)=>Kd.bp rU hb)
  have HR:=Aside0.mk (fun W (hb:Below w.heap.size w W)=>RN hR hb)
  have HCm:=Aside0.mk hcm
  have HBb:=Aside0.mk hb
  have HB:=Aside0.mk (Below.refl w.heap.size w)
  have b7Q:=Aside0.mk hall
  have HCs:=Aside0.mk (fun R (h:gH n (iL ch n) n=some R)=>ZF hch Ar ud h)
  have e1:((ch.length:Int)==(n:Int))=true:=by rw [Ar];simp
  have NK:(ch.length==n)=true:=by rw [Ar];simp
  obtain ⟨Ab,cb,rfl,hlb,UR⟩:=hR.1
  have HLb:=Aside0.mk hlb
  have HCb:=Aside0.mk (fun W (hb:Below w.heap.size w W)=>Kd.bp UR hb)
  clear rU Fw hR hcm hb hall hlb UR Ar hch
  cases hg:gH n (iL ch n) n with
  |none=>
   have HEq:Aside0 (kS n all most ch best=best):=⟨a0l hg⟩
   rw [hg] at UQ
   have a3b:Aside0 (∀W,Below w.heap.size w W->Calls Try.prog 84 #[.int .i64 (n:Int),.slice A3 ch.length c3] W fun e w'=>∃lH:Value,e= .returned (.tuple #[lH,.bool false])/\Kd.R gY 34 w' W.heap.size (fun _=>True) lH []/\Below W.heap.size W w'):=⟨UQ.out⟩
   clear hg UQ HCs
   go_enter Try.func70,Try.ntmps70
   go_wp2_with (first|(go_at_call 84;(with_reducible refine (a3b.out _ HB.out).mono ?_);rintro e w1 ⟨v0,rfl,hr1,hb1⟩;have di:=Aside0.mk (ah HB.out hb1);clear hr1 hb1))
   go_ret
   refine ⟨_,rfl,?_,di.out⟩
   rw [HEq.out];exact HR.out _ di.out
  |some R=>
   have oK:=Aside0.mk (HCs.out R hg)
   have Xa:Aside0 (kS n all most ch best=if all.all (js (qd R n))=true then a5l n most (qd R n) best else best):=⟨a0m hg⟩
   rw [hg] at UQ
   have a3b:Aside0 (∀W,Below w.heap.size w W->Calls Try.prog 84 #[.int .i64 (n:Int),.slice A3 ch.length c3] W fun e w'=>∃lH:Value,e= .returned (.tuple #[lH,.bool true])/\Kd.R gY 34 w' W.heap.size (fun _=>True) lH (LQ n (qd R n))/\Below W.heap.size W w'):=⟨UQ.out⟩
   clear hg UQ HCs
   generalize qd R n=x at*
   go_enter Try.func70,Try.ntmps70
   go_wp2_with (first|(go_at_call 84;(with_reducible refine (a3b.out _ HB.out).mono ?_);rintro e w1 ⟨v0,rfl,hr1,hb1⟩;obtain ⟨Ax,cx,rfl,hxl,hxc⟩:=Kd.nx hr1;have di:=Aside0.mk (ah HB.out hb1);have yI:=Aside0.mk hr1;have HXC:=Aside0.mk (fun W (hb:Below w1.heap.size w1 W)=>Kd.bp hxc hb);have HXL:=Aside0.mk hxl;clear hr1 hb1 hxc hxl))
   have HXR:=Aside0.mk (fun W (hb:Below w1.heap.size w1 W)=>Kd.ie (Kd.ig yI.out hb) HBb.out)
   have eN:Aside0 (Below w1.heap.size w1 w1):=⟨Below.refl _ _⟩
   clear yI
   go_loopw [33] (fun iv wr=>∃i:Nat,iv= .int .i64 (i:Int)/\i<=all.length/\Aside0 ((all.take i).all (js x)=true)/\Aside0 (Below w1.heap.size w1 wr)) (fun iv _=>all.length -(intOf iv).toNat)
   case atStart=>exact ⟨0,rfl,by omega,⟨by simp⟩,eN⟩
   case round=>
    obtain ⟨i,rfl,hi,Fx,cO⟩:=hrel
    by_cases hin:i<all.length
    ·have ue:=Aside0.mk hin
     have qQ:Aside0 (Below w.heap.size w wr):=⟨ah di.out cO.out⟩
     obtain ⟨ad,A0,c0,e,hx0,hx1,hx2,CK,rU⟩:=PU (gb.out _ qQ.out) (i:Int) (by omega) (by omega)
     cases e
     have hd:tF all (i:Int)=all[i]:=by
      show all.getD (i:Int).toNat tE=_
      rw [Int.toNat_natCast];simp [List.getD_eq_getElem?_getD,hin]
     rw [hd] at hx0 hx1 hx2 CK rU
     have hmem:=List.all_eq_true.1 b7Q.out _ (List.getElem_mem hin)
     obtain ⟨k,hk⟩:=Ev.rounds (a2s hmem ud oK.out)
     have hT:=fun (hp:js x all[i]=true)=>a2Z Fx.out hin hp
     have hA:=fun (hp:js x all[i]=false)=>b0J (p:=js x) hin hp
     generalize all[i]=dd at*
     obtain ⟨jr,up,bd⟩:=dd
     dsimp only at*
     rw [Int.toNat_natCast] at hx0 hx1 hx2
     have g0:(0:Int)<=(i:Int):=by omega
     have g1:(i:Int)<(all.length:Int):=by omega
     have oB:decide ((i:Int)<(all.length:Int))=true:=decide_eq_true g1
     have mW:decide (i<all.length)=true:=decide_eq_true hin
     have fE:Aside0 (wrap64 ((i:Int)+1)=((i+1:Nat):Int)):=⟨dQ (by omega)⟩
     have HMt:Aside0 (∀W,Below wr.heap.size wr W->Calls Try.prog 85 #[.slice Ax (LQ n x).length cx,.agg #[.slice A0 jr.length c0,.bool up,.int .i64 bd]] W fun e w'=>e= .returned (.bool (js x ⟨jr,up,bd⟩))/\Below W.heap.size W w'):=⟨fun W hb=>dF.calls k Ax cx (LQ n x) A0 c0 jr up bd _ W (HXC.out _ (ah cO.out hb)) HXL.out (Kd.bp rU hb) CK hk⟩
     clear hk hmem hd hin hi CK rU
     cases hm:js x ⟨jr,up,bd⟩ with
     |true=>
      rw [hm] at HMt
      have qH:=Aside0.mk (hT hm)
      clear hT hA hm Fx
      go_wp2_with (first|(go_at_call 85;(with_reducible refine (HMt.out _ (aT (Below.refl _ _) _)).mono ?_);rintro e w2 ⟨rfl,hb2⟩;have fQ:Aside0 (Below w1.heap.size w1 w2):=⟨ah cO.out (ah (aT (Below.refl _ _) _) hb2)⟩;clear hb2))
      go_roundw
      case rel=>exact ⟨i+1,by first|(rw [fE.out];done)|rfl|(simp;done),ue.out,qH,fQ⟩
      case measure=>(try rw [fE.out]);have:=ue.out;simp [intOf];omega
     |false=>
      rw [hm] at HMt
      have HEq:Aside0 (kS n all most ch best=best):=⟨by rw [Xa.out,if_neg (by rw [hA hm];decide)]⟩
      clear hT hA hm Fx
      go_wp2_with (first|(go_at_call 85;(with_reducible refine (HMt.out _ (aT (Below.refl _ _) _)).mono ?_);rintro e w2 ⟨rfl,hb2⟩;have fQ:Aside0 (Below w.heap.size w w2):=⟨ah qQ.out (ah (aT (Below.refl _ _) _) hb2)⟩;clear hb2))
      go_ret
      refine ⟨_,rfl,?_,fQ.out⟩
      rw [HEq.out];exact HR.out _ fQ.out
    ·have Li:i=all.length:=by omega
     rw [Li,List.take_length] at Fx
     have oB:decide ((i:Int)<(all.length:Int))=false:=decide_eq_false (by omega)
     have mW:decide (i<all.length)=false:=decide_eq_false hin
     have qQ:Aside0 (Below w.heap.size w wr):=⟨ah di.out cO.out⟩
     cases best with
     |none=>
      have HEq:Aside0 (kS n all most ch none=some x):=⟨by rw [Xa.out,if_pos Fx.out];rfl⟩
      have hl0:(sD n none).length=0:=rfl
      rw [hl0]
      clear Li hin hi Fx
      go_wp2
      go_ret
      refine ⟨_,rfl,?_,qQ.out⟩
      rw [HEq.out];exact UO (HXR.out _ cO.out)
     |some b=>
      have NU:(sD n (some b)).length=n:=xY n b
      have e2:((n:Int)==0)=false:=beq_eq_false_iff_ne.mpr (by omega)
      have e2n:(n==0)=false:=beq_eq_false_iff_ne.mpr (by omega)
      have b0L:Aside0 (∀W,Below w.heap.size w W->Kd.C gY W Ab (LQ n b).length (LQ n b)):=⟨HCb.out⟩
      obtain ⟨k,hk⟩:=Ev.rounds (ZE ud oK.out (HCm.out b rfl) most)
      have IW:Aside0 (∀W,Below w1.heap.size w1 W->Calls Try.prog 86 #[.slice Ax (LQ n x).length cx,.slice Ab (sD n (some b)).length cb,.bool most] W fun e w'=>e= .returned (.bool (iJ n x b most))/\Below W.heap.size W w'):=⟨fun W hb=>br.calls k Ax cx (LQ n x) Ab cb (LQ n b) most _ W (HXC.out _ hb) HXL.out (b0L.out _ (ah di.out hb)) HLb.out hk⟩
      rw [NU] at IW HR⊢
      clear hk Li hin hi HCb b0L NU
      cases hm:iJ n x b most with
      |true=>
       rw [hm] at IW
       have HEq:Aside0 (kS n all most ch (some b)=some x):=⟨by rw [Xa.out,if_pos Fx.out];show (if iJ n x b most=true then some x else some b)=_;rw [if_pos hm]⟩
       clear hm Fx
       go_wp2_with (first|(go_at_call 86;(with_reducible refine (IW.out _ cO.out).mono ?_);rintro e w2 ⟨rfl,hb2⟩;have fQ:Aside0 (Below w1.heap.size w1 w2):=⟨ah cO.out hb2⟩;clear hb2))
       go_ret
       refine ⟨_,rfl,?_,ah di.out fQ.out⟩
       rw [HEq.out];exact UO (HXR.out _ fQ.out)
      |false=>
       rw [hm] at IW
       have HEq:Aside0 (kS n all most ch (some b)=some b):=⟨by rw [Xa.out,if_pos Fx.out];show (if iJ n x b most=true then some x else some b)=_;rw [if_neg (by rw [hm];decide)]⟩
       clear hm Fx
       go_wp2_with (first|(go_at_call 86;(with_reducible refine (IW.out _ cO.out).mono ?_);rintro e w2 ⟨rfl,hb2⟩;have fQ:Aside0 (Below w1.heap.size w1 w2):=⟨ah cO.out hb2⟩;clear hb2))
       go_ret
       refine ⟨_,rfl,?_,ah di.out fQ.out⟩
       rw [HEq.out];exact HR.out _ (ah di.out fQ.out)
set_option maxHeartbeats 4000000 in
set_option maxRecDepth 100000 in
theorem Fy (n:Nat) (ud:n<=7) (all:List dz) (Ij:all.length<=100) (most:Bool) (A1:Option Addr) (c1:Nat) (base:Nat) (d fr:Nat) (hfr:fr+d=all.length) (A3:Option Addr) (c3:Nat) (ch:List dz) (vb:Value) (best:Option (Nat->Rat)) (w:World)
 (hc1:all.length<=c1) (hc3:ch.length<=c3) (xE:ch.length<n) (hpa:d<n - ch.length) (hR:BR w base n vb best) (hb:base<=w.heap.size):
 Calls Try.prog 70 #[.int .i64 (n:Int),.slice A1 all.length c1,.int .i64 (fr:Int),.slice A3 ch.length c3,vb,.bool most] w fun e w'=>∃v,e= .returned v/\BR w' base n v (gD n all most d ch best)/\Below w.heap.size w w':=by
 rw [a0n n all most xE hpa]
 have hs1:IntKind.i64.wrap ((fr:Int)+(n:Int))=((fr+n:Nat):Int):=by rw [dJ,cW (by omega) (by omega)];omega
 have hs2:IntKind.i64.wrap (((fr+n:Nat):Int)-(ch.length:Int))=((fr+n - ch.length:Nat):Int):=by rw [dJ,cW (by omega) (by omega)];omega
 have hK:∃q1 q2:Nat,q1=fr+n/\q2=fr+n - ch.length:=⟨_,_,rfl,rfl⟩
 obtain ⟨q1,q2,hq1,hq2⟩:=hK
 rw [<-hq1] at hs1
 rw [<-hq2,<-hq1] at hs2
 have hgt:decide ((q2:Int)>(all.length:Int))=true:=decide_eq_true (by omega)
 have b7R:decide (q2>all.length)=true:=decide_eq_true (by omega)
 have b7S:decide ((all.length:Int)<(q2:Int))=true:=decide_eq_true (by omega)
 have b3C:decide (all.length<q2)=true:=decide_eq_true (by omega)
 have e1:((ch.length:Int)==(n:Int))=false:=beq_eq_false_iff_ne.mpr (by omega)
 have NK:(ch.length==n)=false:=beq_eq_false_iff_ne.mpr (by omega)
 have HR:=Aside0.mk hR
 obtain ⟨Ab,cb,rfl,hlb,UR⟩:=hR.1
 clear hR UR hlb hq1 hq2 hfr
 go_enter Try.func70,Try.ntmps70
 go_wp2
 go_ret
 exact ⟨_,rfl,HR.out,Below.refl _ _⟩
set_option maxHeartbeats 4000000 in
set_option maxRecDepth 100000 in
theorem Tf (n:Nat) (hn0:0<n) (ud:n<=7) (all:List dz) (hall:all.all (kz (n:Int))=true) (Ij:all.length<=100) (most:Bool) (A1:Option Addr) (c1:Nat) (base:Nat):∀d fr:Nat,fr+d=all.length->∀(A3:Option Addr) (c3:Nat) (ch:List dz) (vb:Value) (best:Option (Nat->Rat)) (w:World)
 (rU:Kd.C mm w A1 all.length all) (hc1:all.length<=c1) (Fw:Kd.C mm w A3 ch.length ch) (hc3:ch.length<=c3) (hch:ch.all (kz (n:Int))=true) (xE:ch.length<=n) (hcm:Ux n best) (hR:BR w base n vb best) (hb:base<=w.heap.size),
 Calls Try.prog 70 #[.int .i64 (n:Int),.slice A1 all.length c1,.int .i64 (fr:Int),.slice A3 ch.length c3,vb,.bool most] w fun e w'=>∃v,e= .returned v/\BR w' base n v (gD n all most d ch best)/\Below w.heap.size w w':=by
 intro d
 induction d with
 |zero=>
  intro fr hfr A3 c3 ch vb best w rU hc1 Fw hc3 hch xE hcm hR hb
  by_cases Ar:ch.length=n
  ·rw [NT n all most Ar]
   exact Fv n hn0 ud all hall Ij most A1 c1 base fr A3 c3 ch vb best w rU hc1 Fw hc3 hch Ar hcm hR hb
  ·exact Fy n ud all Ij most A1 c1 base 0 fr hfr A3 c3 ch vb best w hc1 hc3 (by omega) (by omega) hR hb
 |succ d IH=>
  intro fr hfr A3 c3 ch vb best w rU hc1 Fw hc3 hch xE hcm hR hb
  by_cases Ar:ch.length=n
  ·rw [NT n all most Ar]
   exact Fv n hn0 ud all hall Ij most A1 c1 base fr A3 c3 ch vb best w rU hc1 Fw hc3 hch Ar hcm hR hb
  by_cases hpa:d+1<n - ch.length
  ·exact Fy n ud all Ij most A1 c1 base (d+1) fr hfr A3 c3 ch vb best w hc1 hc3 (by omega) hpa hR hb
  have hu:=Try.underlying96
  have hlt:fr<all.length:=by omega
  obtain ⟨ad,A0,c0,e,hx0,hx1,hx2,CK,hCe⟩:=PU rU (fr:Int) (by omega) (by omega)
  cases e
  have hge:all.getD (all.length -(d+1)) tE=all[fr]:=by
   rw [show all.length -(d+1)=fr by omega];simp [List.getD_eq_getElem?_getD,hlt]
  have hd:tF all (fr:Int)=all[fr]:=by
   show all.getD (fr:Int).toNat tE=_
   rw [Int.toNat_natCast];simp [List.getD_eq_getElem?_getD,hlt]
  rw [hd] at hx0 hx1 hx2 CK hCe
  rw [a3a n all most (by omega) hpa,hge]
  have hmem:=List.all_eq_true.1 hall _ (List.getElem_mem hlt)
  generalize all[fr]=dd at*
  rw [Int.toNat_natCast] at hx0 hx1 hx2
  obtain ⟨rows,hrl,hrc,hrk⟩:=a0j Fw
  have HLn:Aside0 (ch.length<=7):=⟨by omega⟩
  have QG:=Aside0.mk hrc
  have HRL:=Aside0.mk hrl
  have HRK:=Aside0.mk hrk
  have Xb:(ch++[dd]).all (kz (n:Int))=true:=by rw [List.all_append,hch];simp [hmem]
  have b0N:=Er (most:=most) hall ud d (ch++[dd]) best (by omega) Xb hcm
  have UA:Aside0 (∀(A:Option Addr) (c:Nat) (W:World),Below w.heap.size w W->Kd.C mm W A (ch++[dd]).length (ch++[dd])->(ch++[dd]).length<=c->Calls Try.prog 70 #[.int .i64 (n:Int),.slice (some ad) all.length c1,.int .i64 ((fr+1:Nat):Int),.slice A (ch++[dd]).length c,vb,.bool most] W fun e w'=>∃v,e= .returned v/\BR w' base n v (gD n all most d (ch++[dd]) best)/\Below W.heap.size W w'):=⟨fun A c W hb2 hC hc=>IH (fr+1) (by omega) A c (ch++[dd]) vb best W (Kd.bp rU hb2) hc1 hC hc Xb (by rw [List.length_append];simp;omega) hcm (RN hR hb2) (Nat.le_trans hb hb2.size)⟩
  have NL:Aside0 (∀(v:Value) (W:World),Below w.heap.size w W->BR W base n v (gD n all most d (ch++[dd]) best)->Calls Try.prog 70 #[.int .i64 (n:Int),.slice (some ad) all.length c1,.int .i64 ((fr+1:Nat):Int),.slice A3 ch.length c3,v,.bool most] W fun e w'=>∃v,e= .returned v/\BR w' base n v (gD n all most d ch (gD n all most d (ch++[dd]) best))/\Below W.heap.size W w'):=⟨fun v W hb2 Rh=>IH (fr+1) (by omega) A3 c3 ch v _ W (Kd.bp rU hb2) hc1 (Kd.bp Fw hb2) hc3 hch xE b0N Rh (Nat.le_trans hb hb2.size)⟩
  have HBb:=Aside0.mk hb
  have HB:=Aside0.mk (Below.refl w.heap.size w)
  have HCe:=Aside0.mk hCe
  have HLe:=Aside0.mk CK
  obtain ⟨Ab,cb,rfl,hlb,UR⟩:=hR.1
  have hs1:IntKind.i64.wrap ((fr:Int)+(n:Int))=((fr+n:Nat):Int):=by rw [dJ,cW (by omega) (by omega)];omega
  have hs2:IntKind.i64.wrap (((fr+n:Nat):Int)-(ch.length:Int))=((fr+n - ch.length:Nat):Int):=by rw [dJ,cW (by omega) (by omega)];omega
  have hs3:IntKind.i64.wrap ((fr:Int)+1)=((fr+1:Nat):Int):=by rw [dJ,cW (by omega) (by omega)];omega
  have hK:∃q1 q2 q3:Nat,q1=fr+n/\q2=fr+n - ch.length/\q3=fr+1:=⟨_,_,_,rfl,rfl,rfl⟩
  obtain ⟨q1,q2,q3,hq1,hq2,hq3⟩:=hK
  rw [<-hq1] at hs1
  rw [<-hq2,<-hq1] at hs2
  rw [<-hq3] at hs3 UA NL
  have hgt:decide ((q2:Int)>(all.length:Int))=false:=decide_eq_false (by omega)
  have b7R:decide (q2>all.length)=false:=decide_eq_false (by omega)
  have b7S:decide ((all.length:Int)<(q2:Int))=false:=decide_eq_false (by omega)
  have b3C:decide (all.length<q2)=false:=decide_eq_false (by omega)
  have e1:((ch.length:Int)==(n:Int))=false:=beq_eq_false_iff_ne.mpr (by omega)
  have NK:(ch.length==n)=false:=beq_eq_false_iff_ne.mpr Ar
  have g0:(0:Int)<=(fr:Int):=by omega
  have g1:(fr:Int)<(all.length:Int):=by omega
  obtain ⟨jr,up,bd⟩:=dd
  dsimp only at hx0 hx1 hx2 HCe HLe
  clear hrc hrl hrk Xb b0N hCe CK hlb UR IH hmem hd hge hlt hq1 hq2 hq3 hfr rU Fw hR hcm hb hch xE Ar hpa
  go_enter Try.func70,Try.ntmps70
  go_wp2
  have a3c:Aside0 (Kd.C (Kd.raw 3) w.drew A3 ch.length rows):=⟨Kd.bp QG.out (aI (Below.refl _ _))⟩
  have eN:Aside0 (Below w.heap.size w w.drew):=⟨aI (Below.refl _ _)⟩
  have HS:Aside0 (∀w',Below w.drew.heap.size w.drew w'->w'.cell? (ad.add (fr*3))=some (.slice A0 jr.length c0)/\w'.cell? ⟨(ad.add (fr*3)).block,(ad.add (fr*3)).off+1,none⟩=some (.bool up)/\w'.cell? ⟨(ad.add (fr*3)).block,(ad.add (fr*3)).off+2,none⟩=some (.int .i64 bd)):=⟨fun w' hb=>by
   have hw:Below w.heap.size w w':=ah (aI (Below.refl _ _)) hb
   exact ⟨(hw.cell (World.block_lt_of_cell? w _ hx0)).trans hx0,(hw.cell (World.block_lt_of_cell? w _ hx1)).trans hx1,(hw.cell (World.block_lt_of_cell? w _ hx2)).trans hx2⟩⟩
  clear hx0 hx1 hx2
  refine fL (n:=10) (S:=fun w'=>w'.cell? (ad.add (fr*3))=some (.slice A0 jr.length c0)/\w'.cell? ⟨(ad.add (fr*3)).block,(ad.add (fr*3)).off+1,none⟩=some (.bool up)/\w'.cell? ⟨(ad.add (fr*3)).block,(ad.add (fr*3)).off+2,none⟩=some (.int .i64 bd)) (ds:=[]) #[false,false,false,false,false,false,false,false,false,false] (by kernel_rfl) rfl rfl (HS.out _ (Below.refl _ _)) (fun hHeld=>?_)
  generalize w.drew=W0 at*
  refine bl (i:=1) (N:=some 65) ?_
  refine bl (i:=3) (N:=some 67) ?_
  refine bl (i:=4) (N:=some 68) ?_
  refine bl (i:=5) (N:=some 69) ?_
  refine dS (i:=6) (N:=some 70) (v:=?_) (a':=?_) #[false,true,false,true,true,true,true,false,false,false] rfl rfl (by kernel_rfl) (fun _ _ _ h=>h) (Or.inl ⟨by rfl,?_⟩) hHeld ?_ ?_
  rotate_left
  ·rintro w' ⟨s0,s1,s2⟩
   go_simp
   with_reducible rfl
  rotate_left
  ·exact fj
  refine b2m (σ:=Value×Value×Value) 2 #[true,true,true,true,true,true,true,true,false,false] (fun s=>[(64,s.1),(66,s.2.1),(71,s.2.2)]) (fun s W=>Kd.R (Kd.raw 3) 96 W W0.heap.size (fun _=>True) s.2.1 rows/\(∃b,s.2.2= .slice (some ⟨b,0,none⟩) 1 1/\Kd.C (Kd.raw 3) W (some ⟨b,0,none⟩) 1 [[.slice A0 jr.length c0,.bool up,.int .i64 bd]])/\Below W0.heap.size W0 W) ?_ (fun hjn=>?_)
  rotate_left
  ·refine a8m (i:=0) (j:=7) (Ni:=some 64) (Nj:=some 71) #[true,true,false,true,true,true,true,false,false,false] #[false,true,false,true,true,true,true,true,false,false] rfl rfl rfl rfl (by kernel_rfl) (by decide) (by decide) (fun K hK=>?_) (fun K hK=>?_)
   ·skip
    refine vB (w1:=?_) (v:=?_) (by rfl) rfl ?_ ?_
    rotate_left 2
    ·go_simp
     constructor
     ·rfl
     ·rfl
    have hb1:Below W0.heap.size W0 (W0.alloc (.cells #[] 96)):=aT (Below.refl _ _) _
    have hr1:=NS W0
    have b7T:W0.heap.size<(W0.alloc (.cells #[] 96)).heap.size:=by rw [qi];omega
    generalize W0.alloc (.cells #[] 96)=W1 at*
    refine hK.out _ _ (HS.out _ hb1) (fun hHeld=>?_)
    clear hK K
    refine fq (a':=?_) ?_ ?_
    rotate_left
    ·show Act.put _ (some 64) _=_
     simp only [Act.put,List.setIfInBounds_toArray,List.set_cons_zero,List.set_cons_succ,dJ,eD]
     rfl
    refine a8m (i:=2) (j:=7) (Ni:=some 66) (Nj:=some 71) #[true,true,true,true,true,true,true,false,false,false] #[true,true,false,true,true,true,true,true,false,false] rfl rfl rfl rfl (by kernel_rfl) (by decide) (by decide) (fun K hK=>?_) (fun K hK=>?_)
    ·skip
     refine Kd.nB (Kd.raw 3) (w0:=W0) W0.heap.size (by rfl) (.tmp 64) (.tmp 65) 93 96 (.agg #[.slice none 0 0,.bool false,.int .i64 0]) 40 rfl Try.underlying93 Bn rfl (by decide) (by omega) (.slice (some ⟨W0.heap.size,0,none⟩) 0 0) [] rows A3 ch.length c3 (fun _=>True) (fun _=>False) rfl rfl hr1 (Kd.bp a3c.out hb1) (fun _ _ hk=>hk) (fun _ hk=>hk.elim) (fun _ _=>trivial) hb1 hb1.size (by have h2:=HLn.out;simp;omega) ?_
     intro v2 W2 hr2 hb2 hg2 hat2
     rw [List.nil_append] at hr2
     refine hK.out _ _ (HS.out _ hb2) (fun hHeld=>?_)
     clear hK K
     refine fq (a':=?_) ?_ ?_
     rotate_left
     ·show Act.put _ (some 66) _=_
      simp only [Act.put,List.setIfInBounds_toArray,List.set_cons_zero,List.set_cons_succ,dJ,eD]
      rfl
     refine gj (i:=7) (N:=some 71) #[true,true,true,true,true,true,true,true,false,false] rfl rfl (by kernel_rfl) (by decide) (fun K hK=>?_)
     refine vB (w1:=?_) (v:=?_) (by rfl) rfl ?_ ?_
     rotate_left 2
     ·go_simp
      constructor
      ·rfl
      ·rfl
     refine hK.out _ _ (HS.out _ (aT hb2 _)) (fun hHeld=>?_)
     clear hK K
     refine fq (a':=?_) ?_ ?_
     rotate_left
     ·show Act.put _ (some 71) _=_
      simp only [Act.put,List.setIfInBounds_toArray,List.set_cons_zero,List.set_cons_succ,dJ,eD]
      rfl
     exact hjn (_,_,_) _ ⟨Kd.ck hr2 _,⟨W2.heap.size,rfl,Ew (dn W2 _) rfl rfl rfl⟩,aT hb2 _⟩
    ·skip
     refine vB (w1:=?_) (v:=?_) (by rfl) rfl ?_ ?_
     rotate_left 2
     ·go_simp
      constructor
      ·rfl
      ·rfl
     have hb2:Below W0.heap.size W0 (W1.alloc (.cells #[.slice A0 jr.length c0,.bool up,.int .i64 bd] 96)):=aT hb1 _
     have hr2:=Kd.ck hr1 (.cells #[.slice A0 jr.length c0,.bool up,.int .i64 bd] 96)
     have hx2:=Ew (dn W1 (.cells #[.slice A0 jr.length c0,.bool up,.int .i64 bd] 96)) rfl rfl rfl
     have hz2:=dn W1 (.cells #[.slice A0 jr.length c0,.bool up,.int .i64 bd] 96)
     generalize W1.alloc (.cells #[.slice A0 jr.length c0,.bool up,.int .i64 bd] 96)=W2 at*
     refine hK.out _ _ (HS.out _ hb2) (fun hHeld=>?_)
     clear hK K
     refine fq (a':=?_) ?_ ?_
     rotate_left
     ·show Act.put _ (some 71) _=_
      simp only [Act.put,List.setIfInBounds_toArray,List.set_cons_zero,List.set_cons_succ,dJ,eD]
      rfl
     refine gj (i:=2) (N:=some 66) #[true,true,true,true,true,true,true,true,false,false] rfl rfl (by kernel_rfl) (by decide) (fun K hK=>?_)
     refine Kd.nB (Kd.raw 3) (w0:=W0) W0.heap.size (by rfl) (.tmp 64) (.tmp 65) 93 96 (.agg #[.slice none 0 0,.bool false,.int .i64 0]) 40 rfl Try.underlying93 Bn rfl (by decide) (by omega) (.slice (some ⟨W0.heap.size,0,none⟩) 0 0) [] rows A3 ch.length c3 (fun _=>True) (fun _=>False) rfl rfl hr2 (Kd.bp a3c.out hb2) (fun _ _ hk=>hk) (fun _ hk=>hk.elim) (fun _ _=>trivial) hb2 hb2.size (by have h2:=HLn.out;simp;omega) ?_
     intro v3 W3 hr3 hb3 hg3 Bg
     rw [List.nil_append] at hr3
     refine hK.out _ _ (HS.out _ hb3) (fun hHeld=>?_)
     clear hK K
     refine fq (a':=?_) ?_ ?_
     rotate_left
     ·show Act.put _ (some 66) _=_
      simp only [Act.put,List.setIfInBounds_toArray,List.set_cons_zero,List.set_cons_succ,dJ,eD]
      rfl
     exact hjn (_,_,_) _ ⟨hr3,⟨W1.heap.size,rfl,Ew ((hg3.block W1.heap.size (bf hz2) (by show some W1.heap.size≠some W0.heap.size;intro h;injection h with h;omega)).trans hz2) rfl rfl rfl⟩,hb3⟩
   ·skip
    refine vB (w1:=?_) (v:=?_) (by rfl) rfl ?_ ?_
    rotate_left 2
    ·go_simp
     constructor
     ·rfl
     ·rfl
    have hb1:Below W0.heap.size W0 (W0.alloc (.cells #[.slice A0 jr.length c0,.bool up,.int .i64 bd] 96)):=aT (Below.refl _ _) _
    have hx1:=dn W0 (.cells #[.slice A0 jr.length c0,.bool up,.int .i64 bd] 96)
    have b7T:W0.heap.size<(W0.alloc (.cells #[.slice A0 jr.length c0,.bool up,.int .i64 bd] 96)).heap.size:=by rw [qi];omega
    generalize W0.alloc (.cells #[.slice A0 jr.length c0,.bool up,.int .i64 bd] 96)=W1 at*
    refine hK.out _ _ (HS.out _ hb1) (fun hHeld=>?_)
    clear hK K
    refine fq (a':=?_) ?_ ?_
    rotate_left
    ·show Act.put _ (some 71) _=_
     simp only [Act.put,List.setIfInBounds_toArray,List.set_cons_zero,List.set_cons_succ,dJ,eD]
     rfl
    refine gj (i:=0) (N:=some 64) #[true,true,false,true,true,true,true,true,false,false] rfl rfl (by kernel_rfl) (by decide) (fun K hK=>?_)
    refine vB (w1:=?_) (v:=?_) (by rfl) rfl ?_ ?_
    rotate_left 2
    ·go_simp
     constructor
     ·rfl
     ·rfl
    have hb2:Below W0.heap.size W0 (W1.alloc (.cells #[] 96)):=aT hb1 _
    have hr2:=Kd.ie (NS W1) hb1.size
    have hx2:=ai hx1 (.cells #[] 96)
    generalize W1.alloc (.cells #[] 96)=W2 at*
    refine hK.out _ _ (HS.out _ hb2) (fun hHeld=>?_)
    clear hK K
    refine fq (a':=?_) ?_ ?_
    rotate_left
    ·show Act.put _ (some 64) _=_
     simp only [Act.put,List.setIfInBounds_toArray,List.set_cons_zero,List.set_cons_succ,dJ,eD]
     rfl
    refine gj (i:=2) (N:=some 66) #[true,true,true,true,true,true,true,true,false,false] rfl rfl (by kernel_rfl) (by decide) (fun K hK=>?_)
    refine Kd.nB (Kd.raw 3) (w0:=W0) W0.heap.size (by rfl) (.tmp 64) (.tmp 65) 93 96 (.agg #[.slice none 0 0,.bool false,.int .i64 0]) 40 rfl Try.underlying93 Bn rfl (by decide) (by omega) (.slice (some ⟨W1.heap.size,0,none⟩) 0 0) [] rows A3 ch.length c3 (fun _=>True) (fun _=>False) rfl rfl hr2 (Kd.bp a3c.out hb2) (fun _ _ hk=>hk) (fun _ hk=>hk.elim) (fun _ _=>trivial) hb2 hb2.size (by have h2:=HLn.out;simp;omega) ?_
    intro v3 W3 hr3 hb3 hg3 Bg
    rw [List.nil_append] at hr3
    refine hK.out _ _ (HS.out _ hb3) (fun hHeld=>?_)
    clear hK K
    refine fq (a':=?_) ?_ ?_
    rotate_left
    ·show Act.put _ (some 66) _=_
     simp only [Act.put,List.setIfInBounds_toArray,List.set_cons_zero,List.set_cons_succ,dJ,eD]
     rfl
    exact hjn (_,_,_) _ ⟨hr3,⟨W0.heap.size,rfl,Ew ((hg3.block W0.heap.size (bf hx2) (by show some W0.heap.size≠some W1.heap.size;intro h;injection h with h;omega)).trans hx2) rfl rfl rfl⟩,hb3⟩
  ·rintro ⟨v64,v66,v71⟩ W7 ⟨Jp,⟨b,hv7,hc7⟩,xO⟩
   dsimp only at Jp hv7
   subst hv7
   refine fq (a':=?_) ?_ ?_
   rotate_left
   ·simp only [Ib,Act.put,List.setIfInBounds_toArray,List.set_cons_zero,List.set_cons_succ,dJ,eD]
    rfl
   refine gj (i:=8) (N:=some 72) #[true,true,true,true,true,true,true,true,true,false] rfl rfl (by kernel_rfl) (by decide) (fun K hK=>?_)
   refine Kd.nB (Kd.raw 3) (w0:=W0) W0.heap.size (by rfl) (.tmp 66) (.tmp 71) 93 96 (.agg #[.slice none 0 0,.bool false,.int .i64 0]) 40 rfl Try.underlying93 Bn rfl (by decide) (by omega) v66 rows [[.slice A0 jr.length c0,.bool up,.int .i64 bd]] (some ⟨b,0,none⟩) 1 1 (fun _=>True) (fun _=>False) rfl rfl Jp hc7 (fun _ _ hk=>hk) (fun _ hk=>hk.elim) (fun _ _=>trivial) xO xO.size (by have h1:=HRL.out;have h2:=HLn.out;simp;omega) ?_
   intro v8 W8 hr8 ni IV b7U
   obtain ⟨A8,c8,rfl,hl8,hc8⟩:=Kd.nx hr8
   have hlen:(rows++[[Value.slice A0 jr.length c0,Value.bool up,Value.int .i64 bd]]).length=(ch++[(⟨jr,up,bd⟩:dz)]).length:=by rw [List.length_append,List.length_append,HRL.out];rfl
   have hbw:Below w.heap.size w W8:=ah eN.out ni
   have hk8:∀(j:Nat) (x:dz) (c:List Value),(ch++[(⟨jr,up,bd⟩:dz)])[j]? =some x->(rows++[[.slice A0 jr.length c0,.bool up,.int .i64 bd]])[j]? =some c->mm.K W8 x c:=fun j x c hx hc=>by
    by_cases hj:j<ch.length
    ·rw [List.getElem?_append_left hj] at hx
     rw [List.getElem?_append_left (by rw [HRL.out];exact hj)] at hc
     exact mm.jI hbw (HRK.out j x c hx hc)
    ·rw [List.getElem?_append_right (by omega)] at hx
     rw [List.getElem?_append_right (by rw [HRL.out];omega),HRL.out] at hc
     rcases hj0:j - ch.length with _|q
     ·rw [hj0] at hx hc
      simp only [List.getElem?_cons_zero,Option.some.injEq] at hx hc
      subst hx;subst hc
      exact a8E W8 _ HLe.out (Kd.bp HCe.out hbw)
     ·rw [hj0] at hx;simp at hx
   rw [hlen] at hc8 hl8⊢
   have HC8:=Aside0.mk (a0k hc8 hlen hk8)
   have HL8:=Aside0.mk hl8
   have zP:=Aside0.mk hbw
   have b0Q:=Aside0.mk ni
   generalize (ch++[(⟨jr,up,bd⟩:dz)]).length=m8 at*
   clear hc8 hl8 hk8 hbw ni IV b7U hr8 Jp hc7 xO hlen
   refine hK.out _ _ (HS.out _ b0Q.out) (fun hHeld=>?_)
   clear hK K hHeld
   refine fq (a':=?_) ?_ ?_
   rotate_left
   ·show Act.put _ (some 72) _=_
    simp only [Act.put,List.setIfInBounds_toArray,List.set_cons_zero,List.set_cons_succ,dJ,eD]
    rfl
   refine gj (i:=9) (N:=some 17) #[true,true,true,true,true,true,true,true,true,true] rfl rfl (by kernel_rfl) (by decide) (fun K hK=>?_)
   refine vB (w1:=?_) (v:=?_) (by rfl) rfl ?_ ?_
   rotate_left 2
   ·go_simp
    constructor
    ·rfl
    ·rfl
   refine hK.out _ _ (HS.out _ b0Q.out) (fun hHeld=>?_)
   clear hK K hHeld
   refine fq (a':=?_) ?_ ?_
   rotate_left
   ·show Act.put _ (some 17) _=_
    simp only [Act.put,List.setIfInBounds_toArray,List.set_cons_zero,List.set_cons_succ,dJ,eD]
    rfl
   refine gU (by kernel_rfl) ?_
   have Rp:(1:Nat)<2:=by decide
   go_wp2_with (first
    |(go_at_call 70;have tk:=Rp;(with_reducible refine (UA.out _ _ _ zP.out HC8.out HL8.out).mono ?_);clear tk Rp;rintro e W9 ⟨v9,rfl,Uk,Jf⟩;have CL:=Aside0.mk (ah zP.out Jf);have HR9:=Aside0.mk Uk;clear Uk Jf)
    |(go_at_call 70;(with_reducible refine (NL.out _ _ CL.out HR9.out).mono ?_);rintro e W10 ⟨v10,rfl,b0R,b0S⟩;have CG:=Aside0.mk (ah CL.out b0S);have b7V:=Aside0.mk b0R;clear b0R b0S))
   go_ret
   exact ⟨_,rfl,b7V.out,CG.out⟩
def Dn (a:Int) (l1:List dz) (a2:Int) (l3:List dz) (l4:List dm):Bool:=decide (a2=0)&&l3.isEmpty&&l4.isEmpty&&decide (0<a)&&decide (a<=7)&&decide (l1.length<=100)&&l1.all (kz a)
def Jy (a:Int) (l1:List dz) (a2:Int) (l3:List dz) (l4:List dm) (most:Bool):Option (List dm):=
 if Dn a l1 a2 l3 l4=true then (gD a.toNat l1 most l1.length [] none).map (LQ a.toNat) else none
theorem Xc (a:Int) (A1:Option Addr) (c1:Nat) (l1:List dz) (a2:Int) (A3:Option Addr) (c3:Nat) (l3:List dz) (A4:Option Addr) (c4:Nat) (l4:List dm) (most:Bool) (r:List dm) (w:World)
 (hr1:Kd.C mm w A1 l1.length l1) (hc1:l1.length<=c1) (hr3:Kd.C mm w A3 l3.length l3) (hc3:l3.length<=c3) (hr4:Kd.C gY w A4 l4.length l4) (hc4:l4.length<=c4) (h:Jy a l1 a2 l3 l4 most=some r):
 Calls Try.prog 70 #[.int .i64 a,.slice A1 l1.length c1,.int .i64 a2,.slice A3 l3.length c3,.slice A4 l4.length c4,.bool most] w fun e w'=>∃lH:Value,e= .returned (lH)/\Kd.R gY 34 w' w.heap.size (fun _=>True) lH r/\Below w.heap.size w w':=by
 unfold Jy at h
 by_cases hg:Dn a l1 a2 l3 l4=true
 ·rw [if_pos hg] at h
  unfold Dn at hg
  simp only [Bool.and_eq_true,decide_eq_true_eq,List.isEmpty_iff] at hg
  obtain ⟨⟨⟨⟨⟨⟨rfl,rfl⟩,rfl⟩,h0⟩,h7⟩,hl⟩,hall⟩:=hg
  obtain ⟨n,rfl⟩:∃n:Nat,a=(n:Int):=⟨a.toNat,by omega⟩
  rw [Int.toNat_natCast] at h
  obtain ⟨x,hx,rfl⟩:=Option.map_eq_some_iff.1 h
  have hbr:BR w w.heap.size n (.slice A4 ([]:List dm).length c4) none:=⟨⟨A4,c4,rfl,hc4,hr4⟩,fun h=>absurd rfl h⟩
  refine (Tf n (by omega) (by omega) l1 hall hl most A1 c1 w.heap.size l1.length 0 (by omega) A3 c3 [] _ none w hr1 hc1 hr3 hc3 rfl (Nat.zero_le _) (fun x hx=>by simp at hx) hbr (Nat.le_refl _)).mono ?_
  rintro e w' ⟨v,rfl,hR,hB⟩
  rw [hx] at hR
  exact ⟨v,rfl,hR.2 (by simp),hB⟩
 ·rw [if_neg hg] at h;exact absurd h (by simp)
end Go.Proofs.Ytkckdphjhlbdcaa.PT
namespace Go.Proofs.Ytkckdphjhlbdcaa.P
open Go.RowKit Go.Proofs.YtkckdphjhlbdcaaW.PrintWords Go.Proofs.YtkckdphjhlbdcaaW.PrintLast Go.Proofs.YtkckdphjhlbdcaaW.PrintMore
attribute [local go_sem] max2_int min2_int max_two min_two max_three min_three max_four min_four
set_option linter.all false
def fo.f (k:Nat) (a0:Int) (l1:List (dz)) (a2:Int) (l3:List (dz)) (l4:List (dm)) (a5:Bool):Option ((List (dm))):=
 PT.Jy a0 l1 a2 l3 l4 a5
theorem fo.mono:∀a0 a1 a2 a3 a4 a5 k,aR (fo.f k a0 a1 a2 a3 a4 a5) (fo.f (k+1) a0 a1 a2 a3 a4 a5):=by
 intro a0 a1 a2 a3 a4 a5 k
 exact aR.refl _
theorem fo.calls (k:Nat) (a0:Int) (A1:Option Addr) (c1:Nat) (l1:List (dz)) (a2:Int) (A3:Option Addr) (c3:Nat) (l3:List (dz)) (A4:Option Addr) (c4:Nat) (l4:List (dm)) (a5:Bool) (r:List (dm)) (w:World) (hr1:Kd.C mm w A1 l1.length l1) (hc1:l1.length<=c1) (hr3:Kd.C mm w A3 l3.length l3) (hc3:l3.length<=c3) (hr4:Kd.C gY w A4 l4.length l4) (hc4:l4.length<=c4) (h:fo.f k a0 l1 a2 l3 l4 a5=some r):
 Calls Try.prog 70 #[.int .i64 a0,.slice A1 l1.length c1,.int .i64 a2,.slice A3 l3.length c3,.slice A4 l4.length c4,.bool a5] w fun e w'=>∃lH:Value,e= .returned (lH)/\Kd.R gY 34 w' w.heap.size (fun _=>True) lH r/\Below w.heap.size w w':=by
 exact PT.Xc a0 A1 c1 l1 a2 A3 c3 l3 A4 c4 l4 a5 r w hr1 hc1 hr3 hc3 hr4 hc4 h
def bU.l0:Nat->Int->List Int->Int->Int->Option (Bool)
 |0,_,_,_,_=>none
 |k+1,x1,x7,x8,x9=>if x9<x8 then (if 0<=x9 then (if x9<(x7.length:Int) then (if x1=(rd x7 x9) then (some true) else (bU.l0 k x1 x7 x8 (wrap64 (x9+1)))) else (none)) else (none)) else (some false)
def bU.f (k:Nat) (l0:List Int) (a1:Int):Option (Bool):=bU.l0 k a1 l0 (l0.length:Int) 0
theorem bU.cC:∀k,(∀y0 y1 y2 y3,aR (bU.l0 k y0 y1 y2 y3) (bU.l0 (k+1) y0 y1 y2 y3))
 |0=>fun _ _ _ _ r h=>by simp [bU.l0] at h
 |k+1=>by
  have dN:=bU.cC k
  ·intro y0 y1 y2 y3
   unfold bU.l0
   repeat' first
   |(with_reducible exact dN _ _ _ _)
   |(with_reducible exact aR.refl _)
   |(with_reducible exact aR.none _)
   |(with_reducible refine aR.ite ?_ ?_)
   |(with_reducible refine aR.bind ?_ (fun _=>?_))
theorem bU.mono:∀a0 a1 k,aR (bU.f k a0 a1) (bU.f (k+1) a0 a1):=by
 intro a0 a1 k
 have dN:=bU.cC k
 unfold bU.f
 repeat' first
  |(with_reducible exact dN _ _ _ _)
  |(with_reducible exact aR.refl _)
  |(with_reducible exact aR.none _)
  |(with_reducible refine aR.ite ?_ ?_)
  |(with_reducible refine aR.bind ?_ (fun _=>?_))
set_option maxHeartbeats 8000000 in
set_option maxRecDepth 100000 in
theorem bU.calls (k:Nat) (A0:Option Addr) (c0:Nat) (l0:List Int) (a1:Int) (r:Bool) (w:World) (fl:Kd.C (Kd.int .i64) w A0 l0.length l0) (hc0:l0.length<=c0) (h:bU.f k l0 a1=some r):
 Calls Try.prog 49 #[.slice A0 l0.length c0,.int .i64 a1] w fun e w'=>e= .returned (.bool r)/\aW w w':=by
 have eu:=Aside0.mk fl
 have kr:=Aside0.mk hc0
 clear fl hc0
 have H:(bU.l0 k a1 l0 (l0.length:Int) 0)=some r:=h
 clear h
 have H':=Aside0.mk H
 clear H
 go_enter Try.func49,Try.ntmps49
 go_wp2
 go_loopg [9] k (fun kq v9 w'=>∃(bE:Int),v9= .int .i64 bE/\Aside0 (bU.l0 kq a1 l0 (l0.length:Int) bE=some r)/\Aside0 (kq<=k)/\aW w w')
 case atStart=>exact ⟨(0),(by first|rfl|(simp;done)|(simp [*];done)),H',⟨Nat.le_refl _⟩,by repeat (first|exact aW.refl _|apply aW.step)⟩
 case round=>
  clear H'
  try clear p2
  obtain ⟨bE,rfl,HA,dX,⟨m1,rfl⟩⟩:=hrel
  cases gk with
  |zero=>exact absurd HA.out (by simp [bU.l0])
  |succ k1=>
   have H:=HA.out
   clear HA
   simp only [bU.l0] at H
   by_cases c3:bE<(l0.length:Int)
   ·rw [if_pos c3] at H
    have iw:decide (bE<(l0.length:Int))=true:=decide_eq_true c3
    clear c3
    by_cases c4:0<=bE
    ·rw [if_pos c4] at H
     have mj:decide (0<=bE)=true:=decide_eq_true c4
     clear c4
     by_cases c5:bE<(l0.length:Int)
     ·rw [if_pos c5] at H
      have wF:decide (bE<(l0.length:Int))=true:=decide_eq_true c5
      clear c5
      by_cases c6:a1=(rd l0 bE)
      ·rw [if_pos c6] at H
       have oc:(a1==(rd l0 bE))=true:=beq_iff_eq.mpr c6
       have a2y:(a1 !=(rd l0 bE))=false:=bne_eq_false_iff_eq.mpr c6
       clear c6
       obtain rfl:=Option.some.inj H
       have GG:0<=(bE:Int):=of_decide_eq_true (by first|(with_reducible assumption)|assumption)
       have GH:bE<(l0.length:Int):=of_decide_eq_true (by first|(with_reducible assumption)|assumption)
       obtain ⟨b3D,a3e,a7o⟩:=Kd.gL eu.out bE GG GH
       cases a3e
       replace GG:=eq_true GG
       replace GH:=eq_true GH
       go_wp2
       go_ret
       exact ⟨by first|rfl|(simp;done)|(simp [*];done),by repeat (first|exact aW.refl _|apply aW.step)⟩
      ·rw [if_neg c6] at H
       have oc:(a1==(rd l0 bE))=false:=beq_eq_false_iff_ne.mpr c6
       have a2y:(a1 !=(rd l0 bE))=true:=bne_iff_ne.mpr c6
       have H':=Aside0.mk H
       clear H
       have GG:0<=(bE:Int):=of_decide_eq_true (by first|(with_reducible assumption)|assumption)
       have GH:bE<(l0.length:Int):=of_decide_eq_true (by first|(with_reducible assumption)|assumption)
       obtain ⟨b3D,a3e,a7o⟩:=Kd.gL eu.out bE GG GH
       cases a3e
       replace GG:=eq_true GG
       replace GH:=eq_true GH
       go_wp2
       go_roundg k1
       case measure=>have:=dX.out;omega
       case rel=>exact ⟨(wrap64 (bE+1)),(by first|rfl|(simp;done)|(simp [*];done)),H',⟨by have:=dX.out;omega⟩,by repeat (first|exact aW.refl _|apply aW.step)⟩
     ·rw [if_neg c5] at H
      exact absurd H (by simp)
    ·rw [if_neg c4] at H
     exact absurd H (by simp)
   ·rw [if_neg c3] at H
    have iw:decide (bE<(l0.length:Int))=false:=decide_eq_false c3
    clear c3
    obtain rfl:=Option.some.inj H
    go_wp2
    go_ret
    exact ⟨by first|rfl|(simp;done)|(simp [*];done),by repeat (first|exact aW.refl _|apply aW.step)⟩
end Go.Proofs.Ytkckdphjhlbdcaa.P
namespace Go.Proofs.Ytkckdphjhlbdcaa.PT
open Go.RowKit Go.Proofs.Ytkckdphjhlbdcaa.P Go.Proofs.YtkckdphjhlbdcaaW.PrintWords Go.Proofs.YtkckdphjhlbdcaaW.PrintLast Go.Proofs.Ytkckdphjhlbdcaa.EvKit Go.Proofs.Ytkckdphjhlbdcaa.Num Go.Proofs.Ytkckdphjhlbdcaa.Lp
set_option linter.all false
theorem uF (l:List Int) (x:Int) (hl:l.length<=1048576):Ev (fun k=>bU.f k l x) (decide (x∈l)):=by
 unfold bU.f
 have:=Ev.loop (g:=fun k i=>bU.l0 k x l (l.length:Int) (i:Int)) (n:=l.length) (R:=fun i=>decide (x∈l.drop i)) ?_ ?_ 0 (Nat.zero_le _)
 ·simpa using this
 ·refine Ev.succ ?_
  simp only [bU.l0]
  exact Ev.neg (by omega) (by simpa using Ev.now _)
 ·intro i hi ih
  refine Ev.succ ?_
  simp only [bU.l0,qh hi,dQ (show i<=9223372036854775806 by omega)]
  refine Ev.pos (by omega) (Ev.pos (by omega) (Ev.pos (by omega) ?_))
  have e:decide (x∈l.drop i)=(decide (x=l[i])||decide (x∈l.drop (i+1))):=by
   rw [ox hi];simp only [List.mem_cons,Bool.decide_or]
  show Ev _ (decide (x∈l.drop i))
  rw [e]
  by_cases h:x=l[i]
  ·refine Ev.pos h (Ev.to (Ev.now _) ?_)
   rw [decide_eq_true h];rfl
  ·refine Ev.neg h (Ev.to ih ?_)
   rw [decide_eq_false h];rfl
def gO (av:List Int) (aa:List (List Int)) (i j:Nat):Bool:=decide (av.getD i 0∈aa.getD j [])
def zk (av:List Int) (aa:List (List Int)) (i j:Nat):Bool:=gO av aa j i
def a5p (av:List Int) (aa:List (List Int)) (i:Nat):Bool:= !(places (zk av aa i) av.length).isEmpty
section
variable {av:List Int} {aa:List (List Int)}
theorem qR {l:List (List Int)} {i:Nat} (h:i<l.length):cZ l (i:Int)=l.getD i []:=by
 show l.getD (i:Int).toNat _=_
 rw [Int.toNat_natCast]
theorem RO {l:List Int} {i:Nat} (h:i<l.length):l[i]=l.getD i 0:=by simp [List.getD_eq_getElem?_getD,h]
end
def kT (av:List Int) (aa:List (List Int)):Bool:=iA (-1) av&&decide (aa.length<=7)&&aa.all (iA (-1))
theorem b0U {n:Nat} {x y:Nat->Rat} (h:LQ n x=LQ n y):∀j,j<n->x j=y j:=fun j hj=>by
 have h1:=Ep x hj
 rw [h,Ep y hj] at h1
 have e1:(y j).num=(x j).num:=congrArg dm.f0 h1
 have e2:((y j).den:Int)=((x j).den:Int):=congrArg dm.f1 h1
 exact Rat.ext e1.symm (by omega)
abbrev Bo (av:List Int) (aa:List (List Int)):Nat->Nat->Rat:=fun i j=>((((zi av aa).getD i []).getD j 0:Int):Rat)
abbrev Bp (av:List Int) (aa:List (List Int)):Nat->Nat->Rat:=fun i j=>((((vt av aa).getD i []).getD j 0:Int):Rat)
abbrev Bq (av:List Int) (aa:List (List Int)) (T:bA):Prop:=wH aa.length av.length (Bo av aa) T/\∀r,r<av.length->¬T.cell r (aa.length+av.length)<0
abbrev GI (av:List Int) (aa:List (List Int)) (T:bA):Prop:=zg av.length aa.length (Bp av aa) T/\∀c,c<av.length+aa.length->¬fk (av.length+1) (T.cost aa.length c)
def xC (av:List Int) (aa:List (List Int)) (T:bA):Nat->Rat:=T.X av.length (aa.length+av.length)
def xP (av:List Int) (aa:List (List Int)) (T:bA):Nat->Rat:=T.X aa.length (av.length+aa.length)
section
variable {av:List Int} {aa:List (List Int)}
theorem getD_map' {α:Type} {f:α->Int} {l:List α} {i:Nat} {a:α} (h:i<l.length):(l.map f).getD i 0=f (l.getD i a):=by
 simp [List.getD_eq_getElem?_getD,h]
theorem NV {α:Type} {f:α->List Int} {l:List α} {i:Nat} {a:α} (h:i<l.length):(l.map f).getD i []=f (l.getD i a):=by
 simp [List.getD_eq_getElem?_getD,h]
theorem a7p {i j:Nat} (hi:i<av.length) (hj:j<aa.length):((zi av aa).getD i []).getD j 0= - ind (aa.getD j []) (av.getD i 0):=by
 unfold zi
 rw [NV (a:=(0:Int)) hi,getD_map' (a:=([]:List Int)) hj]
theorem a3f {i j:Nat} (hi:i<aa.length) (hj:j<av.length):((vt av aa).getD i []).getD j 0=ind (aa.getD i []) (av.getD j 0):=by
 unfold vt
 rw [NV (a:=([]:List Int)) hi,getD_map' (a:=(0:Int)) hj]
theorem UT {i j:Nat}:ind (aa.getD j []) (av.getD i 0)=if gO av aa i j=true then 1 else 0:=by
 unfold ind gO
 by_cases h:av.getD i 0∈aa.getD j []
 ·rw [if_pos h,decide_eq_true h,if_pos rfl]
 ·rw [if_neg h,decide_eq_false h,if_neg (by decide)]
theorem Ex {i j:Nat} (hi:i<av.length) (hj:j<aa.length):Bo av aa i j=if gO av aa i j=true then -1 else 0:=by
 unfold Bo
 rw [a7p hi hj,UT]
 by_cases h:gO av aa i j=true
 ·rw [if_pos h,if_pos h];rfl
 ·rw [if_neg h,if_neg h];rfl
theorem Ey {i j:Nat} (hi:i<aa.length) (hj:j<av.length):Bp av aa i j=if zk av aa i j=true then 1 else 0:=by
 unfold Bp
 rw [a3f hi hj,UT]
 by_cases h:gO av aa j i=true
 ·rw [if_pos h,if_pos (show zk av aa i j=true from h)];rfl
 ·rw [if_neg h,if_neg (show ¬zk av aa i j=true from h)];rfl
theorem LZ:∀i j,i<av.length->j<aa.length->Bo av aa i j=0∨Bo av aa i j= -1:=fun i j hi hj=>by
 rw [Ex hi hj];split
 ·exact .inr rfl
 ·exact .inl rfl
theorem Ma:∀i j,i<aa.length->j<av.length->Bp av aa i j=0∨Bp av aa i j=1:=fun i j hi hj=>by
 rw [Ey hi hj];split
 ·exact .inr rfl
 ·exact .inl rfl
theorem b0V:Fits (gO av aa) aa.length av.length false (fun _=>true) (Bo av aa) (fun _=>((-1:Int):Rat)):=
 ⟨fun i j hi hj=>by
  rw [Ex hi hj]
  have e:Ac false= -1:=rfl
  rw [e];split<;>grind,fun i hi=>rfl,fun i hi h=>absurd h (by decide)⟩
theorem b7W:Fits (zk av aa) av.length aa.length true (a5p av aa) (Bp av aa) (fun _=>((1:Int):Rat)):=
 ⟨fun i j hi hj=>by
  rw [Ey hi hj]
  have e:Ac true=1:=rfl
  rw [e];split<;>grind,fun i hi=>rfl,fun i hi h=>⟨rfl,fun j hj=>by
   unfold a5p at h
   rw [Bool.not_eq_false'] at h
   have h0:=List.isEmpty_iff.1 h
   cases hp:zk av aa i j with
   |false=>rfl
   |true=>
    have:=(CZ (p:=zk av aa i) hj).2 hp
    rw [h0] at this
    exact absurd this (by simp)⟩⟩
theorem Dp (h:mH av aa=true) {i:Nat} (hi:i<av.length):∃j,j<aa.length/\gO av aa i j=true:=by
 unfold mH at h
 have h1:=List.all_eq_true.1 h _ (List.getElem_mem hi)
 obtain ⟨e,he,hm⟩:=List.any_eq_true.1 h1
 obtain ⟨j,hj,rfl⟩:=List.getElem_of_mem he
 refine ⟨j,hj,?_⟩
 unfold gO
 rw [<-RO hi]
 have:aa.getD j []=aa[j]:=by simp [List.getD_eq_getElem?_getD,hj]
 rw [this];exact hm
theorem a7q (h:mH av aa=true):∀i,i<av.length->∃j,j<aa.length/\Bo av aa i j= -1:=fun i hi=>by
 obtain ⟨j,hj,hp⟩:=Dp h hi
 exact ⟨j,hj,by rw [Ex hi hj,if_pos hp]⟩
theorem Mb (h:mH av aa=true):∀j,j<av.length->∃i,i<aa.length/\Bp av aa i j=1:=fun j hj=>by
 obtain ⟨i,hi,hp⟩:=Dp h hj
 exact ⟨i,hi,by rw [Ey hi hj,if_pos (show zk av aa i j=true from hp)]⟩
def oC (av:List Int) (aa:List (List Int)):Option (Nat->Rat):=gD aa.length (sN (gO av aa) aa.length av.length false (fun _=>true)) false (sN (gO av aa) aa.length av.length false (fun _=>true)).length [] none
variable (hnb:av.length<=6) (hne:aa.length<=7)
include hnb hne
theorem a5q {T:bA} (h:Bq av aa T):sD aa.length (oC av aa)=LQ aa.length (xC av aa T):=
 ZK b0V hne h.1.toValid (QL h.1 h.2)
theorem UU {n:Nat} {o:Option (Nat->Rat)} {x:Nat->Rat} (hn:0<n) (h:sD n o=LQ n x):∃y,o=some y/\LQ n y=LQ n x:=by
 cases o with
 |none=>
  have:([]:List dm).length=(LQ n x).length:=congrArg List.length h
  rw [xY] at this
  simp at this;omega
 |some y=>exact ⟨y,rfl,h⟩
omit hnb hne in
theorem a0p {n:Nat} {l:List dz} {most:Bool} {x:Nat->Rat} (h0:0<n) (h7:n<=7) (hl:l.length<=100) (hall:l.all (kz (n:Int))=true) (h:gD n l most l.length [] none=some x):Ev (fun k=>fo.f k (n:Int) l 0 [] [] most) (LQ n x):=by
 have e:∀k,fo.f k (n:Int) l 0 [] [] most=some (LQ n x):=fun k=>by
  show Jy (n:Int) l 0 [] [] most=_
  unfold Jy
  have hok:Dn (n:Int) l 0 [] []=true:=by
   unfold Dn
   simp only [Bool.and_eq_true,decide_eq_true_eq,List.isEmpty_iff]
   exact ⟨⟨⟨⟨⟨⟨trivial,trivial⟩,trivial⟩,by omega⟩,by omega⟩,hl⟩,hall⟩
  rw [if_pos hok,Int.toNat_natCast,h];rfl
 have:(fun k=>fo.f k (n:Int) l 0 [] [] most)=(fun _=>some (LQ n x)):=funext e
 rw [this];exact Ev.now _
end
theorem pP {av:List Int} {aa:List (List Int)} (h:kT av aa=true):av.length<=6/\aa.length<=7/\∀x,x∈aa->x.length<=6:=by
 unfold kT at h
 simp only [Bool.and_eq_true,decide_eq_true_eq] at h
 exact ⟨sR h.1.1,h.1.2,fun x hx=>sR (List.all_eq_true.1 h.2 x hx)⟩
end Go.Proofs.Ytkckdphjhlbdcaa.PT
namespace Go.Proofs.Ytkckdphjhlbdcaa.PT
open Go.RowKit Go.Proofs.Ytkckdphjhlbdcaa.P Go.Proofs.Ytkckdphjhlbdcaa.EvKit Go.Proofs.Ytkckdphjhlbdcaa.Num Go.Proofs.Ytkckdphjhlbdcaa.Lp
set_option linter.all false
theorem a3g {n:Nat} {f g:Nat->Rat} (h:∀j,j<n->f j<=g j):S n f<=S n g:=by
 have h1:=pz (n:=n) (f:=fun j=>g j - f j) (fun j hj=>by have:=h j hj;grind)
 rw [VO] at h1;grind
section
variable {n m:Nat} {A:Nat->Nat->Rat} {T:bA}
theorem UW (h:wH n m A T) {j:Nat} (hj:j<n+m):0<=T.cell m j:=by
 by_cases hn:T.cell m j<0
 ·exact absurd ⟨0,by omega,fun i hi=>by omega,hn⟩ (h.PI j hj)
 ·grind
theorem a3h (h:wH n m A T):S m (fun i=>T.cell m (n+i))=S n (T.X m (n+m)):=by
 have hz:∀i,i<m->(zf n m A).F (n+m) 1 (fun j=>if j<n then (0:Rat) else -1) i=0:=fun i hi=>by
  rw [pF 1 _ hi,jy (fun j hj=>by rw [if_pos hj];grind),if_neg (by omega),CN];grind
 have h1:=h.cost 1 _ ((h.tZ 1 _).1 hz) 0 (by omega)
 rw [AZ,jy (fun j hj=>if_pos hj)] at h1
 unfold bA.F at h1
 rw [zC,jy (f:=fun j=>T.cell (m+0) j*(if j<n then (0:Rat) else -1)) (fun j hj=>by rw [if_pos hj];grind)] at h1
 have e1:S m (fun i=>T.cell (m+0) (n+i)*(if n+i<n then (0:Rat) else -1))= -1*S m (fun i=>T.cell m (n+i)):=by
  rw [<-oq]
  exact tK (fun i hi=>by rw [if_neg (by omega),Nat.add_zero];grind)
 rw [e1] at h1
 have h2:=h.cost 1 _ (fun i hi=>h.toValid.MW hi) 0 (by omega)
 rw [AZ,h.toValid.FN (by omega)] at h2
 have o:=xk
 rw [o] at h1 h2
 grind
theorem a3i (h:wH n m A T) {j0:Nat} (hj0:j0<n):S m (fun i=> -(A i j0)*T.cell m (n+i))<=1:=by
 have hz:∀i,i<m->(zf n m A).F (n+m) 0 (fun c=>if c<n then (if c=j0 then (1:Rat) else 0) else -(A (c - n) j0)) i=0:=fun i hi=>by
  rw [pF 0 _ hi,if_neg (by omega)]
  have e:n+i - n=i:=by omega
  have e1:S n (fun j=>A i j*(if j<n then (if j=j0 then (1:Rat) else 0) else -(A (j - n) j0)))=A i j0:=by
   have:S n (fun j=>A i j*(if j<n then (if j=j0 then (1:Rat) else 0) else -(A (j - n) j0)))=S n (fun j=>if j=j0 then A i j else 0):=tK (fun j hj=>by
    rw [if_pos hj];split<;>grind)
   rw [this,gl hj0]
  rw [e1,e];grind
 have h1:=h.cost 0 _ ((h.tZ 0 _).1 hz) 0 (by omega)
 rw [AZ] at h1
 have e2:S n (fun c=>if c<n then (if c=j0 then (1:Rat) else 0) else -(A (c - n) j0))=1:=by
  have:S n (fun c=>if c<n then (if c=j0 then (1:Rat) else 0) else -(A (c - n) j0))=S n (fun j=>if j=j0 then (1:Rat) else 0):=tK (fun j hj=>if_pos hj)
  rw [this,gl hj0 (fun _=>(1:Rat))]
 rw [e2] at h1
 unfold bA.F at h1
 rw [zC] at h1
 have e3:S n (fun j=>T.cell (m+0) j*(if j<n then (if j=j0 then (1:Rat) else 0) else -(A (j - n) j0)))=T.cell m j0:=by
  have:S n (fun j=>T.cell (m+0) j*(if j<n then (if j=j0 then (1:Rat) else 0) else -(A (j - n) j0)))=S n (fun j=>if j=j0 then T.cell m j else 0):=tK (fun j hj=>by
   rw [if_pos hj,Nat.add_zero];split<;>grind)
  rw [this,gl hj0]
 have e4:S m (fun i=>T.cell (m+0) (n+i)*(if n+i<n then (if n+i=j0 then (1:Rat) else 0) else -(A (n+i - n) j0)))=S m (fun i=> -(A i j0)*T.cell m (n+i)):=tK (fun i hi=>by
  have e:n+i - n=i:=by omega
  rw [if_neg (by omega),e,Nat.add_zero];grind)
 rw [e3,e4] at h1
 have:=UW h (show j0<n+m by omega)
 have o:=xk
 rw [o] at h1
 grind
end
structure a5r (P:Nat->Nat->Bool) (n b:Nat) (x:Nat->Rat):Prop where
 nn:∀j,j<n->0<=x j
 row:∀i,i<b->1<=S n (fun j=>if P i j=true then x j else 0)
structure Ez (P:Nat->Nat->Bool) (n b:Nat) (y:Nat->Rat):Prop where
 nn:∀i,i<b->0<=y i
 row:∀j,j<n->S b (fun i=>if P i j=true then y i else 0)<=1
theorem Mc {P:Nat->Nat->Bool} {n b:Nat} {x y:Nat->Rat} (hx:a5r P n b x) (hy:Ez P n b y):S b y<=S n x:=by
 have h1:S b y<=S b (fun i=>S n (fun j=>if P i j=true then x j*y i else 0)):=a3g (fun i hi=>by
  have e:S n (fun j=>if P i j=true then x j*y i else 0)=y i*S n (fun j=>if P i j=true then x j else 0):=by
   rw [<-oq];exact tK (fun j hj=>by split<;>grind)
  rw [e]
  have:=Rat.mul_le_mul_of_nonneg_left (hx.row i hi) (hy.nn i hi)
  grind)
 rw [Cj] at h1
 have h2:S n (fun j=>S b (fun i=>if P i j=true then x j*y i else 0))<=S n x:=a3g (fun j hj=>by
  have e:S b (fun i=>if P i j=true then x j*y i else 0)=x j*S b (fun i=>if P i j=true then y i else 0):=by
   rw [<-oq];exact tK (fun i hi=>by split<;>grind)
  rw [e]
  have:=Rat.mul_le_mul_of_nonneg_left (hy.row j hj) (hx.nn j hj)
  grind)
 exact Rat.le_trans h1 h2
section
variable {av:List Int} {aa:List (List Int)} {T1 T2:bA}
theorem Md (h:Bq av aa T1):a5r (gO av aa) aa.length av.length (xC av aa T1):=by
 have hf:=(QL h.1 h.2).1
 refine ⟨hf.1,fun i hi=>?_⟩
 have h1:=hf.2 i hi
 have h2:=xD (b0V (av:=av) (aa:=aa)) (xC av aa T1) hi
 have e:Ac false= -1:=rfl
 rw [e] at h2
 have o:=CN
 rw [o] at h1
 unfold xC at h2⊢
 grind
theorem Me (h:GI av aa T2):Ez (gO av aa) aa.length av.length (xP av aa T2):=by
 have hf:=(QN h.1 h.2).1
 refine ⟨hf.1,fun j hj=>?_⟩
 have h1:=hf.2 j hj
 have h2:=xD (b7W (av:=av) (aa:=aa)) (xP av aa T2) hj
 have e:Ac true=1:=rfl
 rw [e] at h2
 have o:=xk
 rw [o] at h1
 have e2:∀i,(if zk av aa j i=true then xP av aa T2 i else 0)=(if gO av aa i j=true then xP av aa T2 i else 0):=fun _=>rfl
 simp only [e2] at h2
 unfold xP at h2⊢
 grind
theorem a0q (h1:Bq av aa T1) (h2:GI av aa T2):S aa.length (xC av aa T1)=S av.length (xP av aa T2):=by
 have hw:=Mc (Md h1) (Me h2)
 have hb:=(QN h2.1 h2.2).2 (fun i=>T1.cell av.length (aa.length+i)) ⟨fun i hi=>UW h1.1 (by omega),fun j hj=>by
  have:=a3i h1.1 hj
  have e:S av.length (fun i=>Bp av aa j i*T1.cell av.length (aa.length+i))=S av.length (fun i=> -(Bo av aa i j)*T1.cell av.length (aa.length+i)):=tK (fun i hi=>by
   rw [Ey hj hi,Ex hi hj]
   have e2:(zk av aa j i)=gO av aa i j:=rfl
   rw [e2];split<;>grind)
  rw [e,xk];exact this⟩
 have h0:S av.length (fun i=>T1.cell av.length (aa.length+i))<=S av.length (xP av aa T2):=by
  by_cases hlt:S av.length (xP av aa T2)<S av.length (fun i=>T1.cell av.length (aa.length+i))
  ·exfalso
   refine hb ⟨0,by omega,fun i hi=>by omega,?_⟩
   show gm av.length ((-1:Int):Rat) (fun i=>T1.cell av.length (aa.length+i)) 0 - gm av.length ((-1:Int):Rat) (T2.X aa.length (av.length+aa.length)) 0<0
   have ob:∀x,gm av.length ((-1:Int):Rat) x 0=((-1:Int):Rat)*S av.length x:=fun x=>if_pos rfl
   rw [ob,ob]
   unfold xP at hlt
   have o:=CN
   rw [o];grind
  ·grind
 rw [a3h h1.1] at h0
 unfold xC at hw⊢
 grind
end
def pt (av e:List Int):List Int:=e.filter (fun v=>decide (v∈av))
theorem Au {av e:List Int} {v:Int}:v∈pt av e↔v∈e/\v∈av:=by unfold pt;simp
def RP (a b:List Int):Bool:=a.all (fun v=>decide (v∈b))
theorem a3j {a b:List Int}:RP a b=true↔∀v,v∈a->v∈b:=by unfold RP;simp
def sF (av:List Int) (aa:List (List Int)) (i j:Nat):Bool:=decide (j≠i)&&(RP (pt av (aa.getD i [])) (pt av (aa.getD j []))&&(decide ((pt av (aa.getD i [])).length<(pt av (aa.getD j [])).length)||decide (j<i)))
def need (av:List Int) (aa:List (List Int)) (i:Nat):Bool:=decide (0<(pt av (aa.getD i [])).length)&&(List.range aa.length).all (fun j=> !sF av aa i j)
def gf (av:List Int) (aa:List (List Int)):List (List Int):=((List.range aa.length).filter (need av aa)).map (fun i=>pt av (aa.getD i []))
theorem a3k:∀(l:List Int) (a b:Int),a<=b->iA b l=true->iA a l=true
 | [],_,_,_,_=>rfl
 |v::l,a,b,h,h1=>by
  simp only [iA,Bool.and_eq_true,decide_eq_true_eq] at h1⊢
  exact ⟨⟨by omega,h1.1.2⟩,h1.2⟩
theorem a0r:∀(l:List Int) (a:Int),iA a l=true->l.Nodup/\∀v,v∈l->a<v
 | [],_,_=>⟨List.nodup_nil,fun v hv=>by cases hv⟩
 |v::r,a,h=>by
  simp only [iA,Bool.and_eq_true,decide_eq_true_eq] at h
  obtain ⟨h1,h2⟩:=a0r r v h.2
  refine ⟨List.nodup_cons.2 ⟨fun hm=>by have:=h2 v hm;omega,h1⟩,fun u hu=>?_⟩
  rcases List.mem_cons.1 hu with rfl|hu
  ·omega
  ·have:=h2 u hu;omega
theorem Br (p:Int->Bool):∀(l:List Int) (a:Int),iA a l=true->iA a (l.filter p)=true
 | [],_,_=>rfl
 |v::l,a,h=>by
  have h1:=h
  simp only [iA,Bool.and_eq_true,decide_eq_true_eq] at h1
  cases hp:p v with
  |true=>
   simp only [List.filter_cons,hp,if_true,iA,Bool.and_eq_true,decide_eq_true_eq]
   exact ⟨h1.1,Br p l v h1.2⟩
  |false=>
   simp only [List.filter_cons,hp]
   exact a3k _ a v (by omega) (Br p l v h1.2)
section
variable {av:List Int} {aa:List (List Int)}
theorem a3l (hg:kT av aa=true) (j:Nat):iA (-1) (aa.getD j [])=true:=by
 unfold kT at hg
 simp only [Bool.and_eq_true,decide_eq_true_eq] at hg
 by_cases hj:j<aa.length
 ·have:aa.getD j []=aa[j]:=by simp [List.getD_eq_getElem?_getD,hj]
  rw [this];exact List.all_eq_true.1 hg.2 _ (List.getElem_mem hj)
 ·have:aa.getD j []=[]:=by simp [List.getD_eq_getElem?_getD,hj]
  rw [this];rfl
theorem Jz (hg:kT av aa=true) (j:Nat):iA (-1) (pt av (aa.getD j []))=true:=Br _ _ _ (a3l hg j)
theorem a3m (hg:kT av aa=true) (j:Nat):(pt av (aa.getD j [])).Nodup:=(a0r _ _ (Jz hg j)).1
theorem dom (hg:kT av aa=true):∀m j,j<aa.length->0<(pt av (aa.getD j [])).length->(6 -(pt av (aa.getD j [])).length)*8+j<m->∃i,i<aa.length/\need av aa i=true/\∀v,v∈pt av (aa.getD j [])->v∈pt av (aa.getD i [])
 |0,_,_,_,h=>absurd h (Nat.not_lt_zero _)
 |m+1,j,hj,h0,h=>by
  obtain ⟨_,hne,_⟩:=pP hg
  cases hn:need av aa j with
  |true=>exact ⟨j,hj,hn,fun _ hv=>hv⟩
  |false=>
   unfold need at hn
   rw [decide_eq_true h0,Bool.true_and,<-Bool.not_eq_true,List.all_eq_true] at hn
   obtain ⟨j',hn⟩:=Classical.not_forall.1 hn
   obtain ⟨hj',ho⟩:=Classical.not_imp.1 hn
   have hj':=List.mem_range.1 hj'
   have ho:sF av aa j j'=true:=by simpa using ho
   unfold sF at ho
   simp only [Bool.and_eq_true,Bool.or_eq_true,decide_eq_true_eq,a3j] at ho
   obtain ⟨_,hs,hl⟩:=ho
   have l1:=sR (Jz hg j)
   have l2:=sR (Jz hg j')
   have l3:=pE _ _ (a3m hg j) hs
   obtain ⟨i,hi,hni,hsi⟩:=dom hg m j' hj' (by omega) (by omega)
   exact ⟨i,hi,hni,fun v hv=>hsi v (hs v hv)⟩
theorem a3n {q:Nat} (hq:q<(gf av aa).length):∃i,i<aa.length/\need av aa i=true/\(gf av aa).getD q []=pt av (aa.getD i []):=by
 have h1:(gf av aa).getD q []∈gf av aa:=by
  have:(gf av aa).getD q []=(gf av aa)[q]:=by simp [List.getD_eq_getElem?_getD,hq]
  rw [this];exact List.getElem_mem hq
 unfold gf at h1
 obtain ⟨i,hi,e⟩:=List.mem_map.1 h1
 obtain ⟨h2,h3⟩:=List.mem_filter.1 hi
 exact ⟨i,List.mem_range.1 h2,h3,e.symm⟩
theorem a3o {i:Nat} (hi:i<aa.length) (hn:need av aa i=true):∃q,q<(gf av aa).length/\(gf av aa).getD q []=pt av (aa.getD i []):=by
 have h1:pt av (aa.getD i [])∈gf av aa:=List.mem_map.2 ⟨i,List.mem_filter.2 ⟨List.mem_range.2 hi,hn⟩,rfl⟩
 obtain ⟨q,hq,e⟩:=List.getElem_of_mem h1
 exact ⟨q,hq,by rw [<-e];simp [List.getD_eq_getElem?_getD,hq]⟩
theorem Mf {i:Nat} (hi:i<av.length):av.getD i 0∈av:=by
 have:av.getD i 0=av[i]:=by simp [List.getD_eq_getElem?_getD,hi]
 rw [this];exact List.getElem_mem hi
theorem UX {i j q:Nat} (hi:i<av.length) (h:(gf av aa).getD q []=pt av (aa.getD j [])):gO av (gf av aa) i q=gO av aa i j:=by
 unfold gO
 rw [h]
 exact decide_eq_decide.2 ⟨fun h=>(Au.1 h).1,fun h=>Au.2 ⟨h,Mf hi⟩⟩
theorem a0s {y:Nat->Rat} (hy:Ez (gO av aa) aa.length av.length y):Ez (gO av (gf av aa)) (gf av aa).length av.length y:=by
 refine ⟨hy.nn,fun q hq=>?_⟩
 obtain ⟨j,hj,_,e⟩:=a3n hq
 have:=hy.row j hj
 rw [tK (g:=fun i=>if gO av aa i j=true then y i else 0) (fun i hi=>by rw [UX hi e])]
 exact this
theorem a0t (hg:kT av aa=true) {y:Nat->Rat} (hy:Ez (gO av (gf av aa)) (gf av aa).length av.length y):Ez (gO av aa) aa.length av.length y:=by
 refine ⟨hy.nn,fun j hj=>?_⟩
 by_cases h0:0<(pt av (aa.getD j [])).length
 ·obtain ⟨i,hi,hn,hs⟩:=dom hg _ j hj h0 (Nat.lt_succ_self _)
  obtain ⟨q,hq,e⟩:=a3o hi hn
  refine Rat.le_trans (a3g (fun c hc=>?_)) (hy.row q hq)
  rw [UX hc e]
  by_cases h1:gO av aa c j=true
  ·have h2:gO av aa c i=true:=by
    unfold gO at h1⊢
    exact decide_eq_true (Au.1 (hs _ (Au.2 ⟨of_decide_eq_true h1,Mf hc⟩))).1
   rw [if_pos h1,if_pos h2];exact Rat.le_refl
  ·rw [if_neg h1]
   split
   ·exact hy.nn c hc
   ·exact Rat.le_refl
 ·rw [jy (fun c hc=>?_)]
  ·decide
  ·refine if_neg (fun h1=>h0 ?_)
   unfold gO at h1
   exact List.length_pos_of_mem (Au.2 ⟨of_decide_eq_true h1,Mf hc⟩)
theorem a3p (hg:kT av aa=true) {T1 T2 T1' T2':bA} (h1:Bq av aa T1) (h2:GI av aa T2) (Qp:Bq av (gf av aa) T1') (TZ:GI av (gf av aa) T2'):
 S (gf av aa).length (xC av (gf av aa) T1')=S aa.length (xC av aa T1):=by
 have a:=Mc (Md Qp) (a0s (Me h2))
 have b:=Mc (Md h1) (a0t hg (Me TZ))
 rw [<-a0q h1 h2] at a
 rw [<-a0q Qp TZ] at b
 exact Rat.le_antisymm b a
theorem xw (hg:kT av aa=true):kT av (gf av aa)=true:=by
 have hg2:=hg
 unfold kT at hg2⊢
 simp only [Bool.and_eq_true,decide_eq_true_eq] at hg2⊢
 refine ⟨⟨hg2.1.1,?_⟩,List.all_eq_true.2 (fun x hx=>?_)⟩
 ·unfold gf
  rw [List.length_map]
  have:=List.length_filter_le (need av aa) (List.range aa.length)
  rw [List.length_range] at this;omega
 ·unfold gf at hx
  obtain ⟨i,_,rfl⟩:=List.mem_map.1 hx
  exact Jz hg i
theorem yP (hg:kT av aa=true) (hc:mH av aa=true):mH av (gf av aa)=true:=by
 unfold mH at hc⊢
 rw [List.all_eq_true] at hc⊢
 intro v hv
 have h1:=hc v hv
 rw [List.any_eq_true] at h1⊢
 obtain ⟨e,he,BW⟩:=h1
 obtain ⟨j,hj,rfl⟩:=List.getElem_of_mem he
 have hge:aa.getD j []=aa[j]:=by simp [List.getD_eq_getElem?_getD,hj]
 have hv2:v∈pt av (aa.getD j []):=by rw [hge];exact Au.2 ⟨of_decide_eq_true BW,hv⟩
 obtain ⟨i,hi,hn,hs⟩:=dom hg _ j hj (List.length_pos_of_mem hv2) (Nat.lt_succ_self _)
 exact ⟨pt av (aa.getD i []),List.mem_map.2 ⟨i,List.mem_filter.2 ⟨List.mem_range.2 hi,hn⟩,rfl⟩,decide_eq_true (hs v hv2)⟩
end
end Go.Proofs.Ytkckdphjhlbdcaa.PT
namespace Go.Proofs.Ytkckdphjhlbdcaa.PT
open Go.RowKit Go.Proofs.Ytkckdphjhlbdcaa.P Go.Proofs.YtkckdphjhlbdcaaW.PrintWords Go.Proofs.YtkckdphjhlbdcaaW.PrintLast Go.Proofs.Ytkckdphjhlbdcaa.EvKit Go.Proofs.Ytkckdphjhlbdcaa.Num Go.Proofs.Ytkckdphjhlbdcaa.Lp
set_option linter.all false
def oX (o:Option (Nat->Rat)):Nat->Rat:=o.getD (fun _=>0)
def wid (av:List Int) (aa:List (List Int)):Rat:=S aa.length (oX (oC av aa))
theorem RQ {av:List Int} {aa:List (List Int)} (hnb:av.length<=6) (hne:aa.length<=7) (hb:0<av.length) (hc:mH av aa=true) {T:bA} (h:Bq av aa T):S aa.length (xC av aa T)=wid av aa:=by
 have hn0:0<aa.length:=by obtain ⟨j,hj,_⟩:=Dp hc hb;omega
 obtain ⟨x,ex,lx⟩:=UU hnb hne hn0 (a5q hnb hne h)
 unfold wid
 rw [ex]
 exact tK (fun j hj=>(b0U lx j hj).symm)
theorem NW (A0:Option Addr) (c0:Nat) (av:List Int) (A1:Option Addr) (c1:Nat) (aa:List (List Int)) (W:World) (h0:Kd.C (Kd.int .i64) W A0 av.length av) (l0:av.length<=c0) (h1:Kd.C mN W A1 aa.length aa) (l1:aa.length<=c1)
 (hb:0<av.length) (hg:kT av aa=true) (hc:mH av aa=true):
 Calls Try.prog 36 #[.slice A0 av.length c0,.slice A1 aa.length c1] W fun e w'=>(∃T1 T2,Bq av aa T1/\GI av aa T2)/\∃v3_ v4_:Value,e= .returned (.agg #[.bool true,.int .i64 (wid av aa).num,.int .i64 ((wid av aa).den:Int),v3_,v4_])/\Below W.heap.size W w':=by
 obtain ⟨hnb,hne,hrl⟩:=pP hg
 have hg2:=hg
 unfold kT at hg2
 simp only [Bool.and_eq_true,decide_eq_true_eq] at hg2
 refine (Rk A0 c0 av A1 c1 aa W h0 l0 h1 l1 hnb hne (fun x hx=>by have:=hrl x hx;omega) hg2.1.1 hg2.2 (Bq av aa) (GI av aa) ?_ ?_ ?_ ?_).mono ?_
 ·intro _ cs W2 hR
  refine (Ox 240 1680 (2^(aa.length+av.length)) av.length (aa.length+av.length) (aa.length+1) (a2E av aa) (wH aa.length av.length (Bo av aa)) cs W2 hR (by decide) (a1X LZ hnb) (fun T h r hr hneg=>a1Y LZ (a7q hc) h hr hneg)).mono ?_
  rintro e w' ⟨cs',T,rfl,hR',hI,hp,hB⟩
  exact ⟨cs',T,rfl,hR',⟨hI,hp⟩,hB⟩
 ·intro _ cs W2 hR
  refine (WK 720 720 (2^(av.length+aa.length)) aa.length (av.length+aa.length) (av.length+1) (WM av aa) (zg av.length aa.length (Bp av aa)) cs W2 hR (a2a Ma (Mb hc) hnb) (fun T h r hr=>h.FP r hr) (fun T h c hc' hneg=>a6E Ma (Mb hc) h hc' hneg)).mono ?_
  rintro e w' ⟨cs',T,rfl,hR',hI,hp,hB⟩
  exact ⟨cs',T,rfl,hR',⟨hI,hp⟩,hB⟩
 ·intro T hT
  have hf:=QK LZ hnb hT.1
  exact ⟨fun r hr=>by have:=hT.1.lt r hr;omega,Um hf,a4F hf (by omega)⟩
 ·intro T hT
  have hf:=QM Ma (Mb hc) hnb hT.1
  exact ⟨fun r hr=>by have:=hT.1.lt r hr;omega,Um hf,a4F hf hne⟩
 ·rintro e w' (⟨_,hG⟩|⟨hn,_⟩)
  ·obtain ⟨g1,cs1,g2,iy,T1,T2,rfl,hT1,hT2,hg1,hp1,hg2',hp2,hne12,CK,hl2,hB⟩:=hG
   refine ⟨⟨T1,T2,hT1,hT2⟩,.slice (some ⟨g1,0,none⟩) aa.length aa.length,.slice (some ⟨g2,0,none⟩) av.length av.length,?_,hB⟩
   rw [<-RQ hnb hne hb hc hT1,b7a aa.length]
   rfl
  ·rw [hc] at hn;exact absurd hn (by decide)
section
variable {av:List Int} {aa:List (List Int)}
theorem UY (l:List Int) (hl:l.length<=1000) (W:World):∃(W':World) (A:Option Addr) (c:Nat),Below W.heap.size W W'/\Kd.C (Kd.int .i64) W' A l.length l/\l.length<=c:=by
 refine ⟨W.alloc (.cells (l.map (Value.int .i64)).toArray 3),some ⟨W.heap.size,0,none⟩,l.length,aT (Below.refl _ _) _,⟨rfl,by omega,fun _=>⟨_,rfl,fun j p hp=>⟨[.int .i64 p],rfl,rfl,fun i u hu=>?_⟩⟩⟩,Nat.le_refl _⟩
 have hi:i=0:=by
  have:=(List.getElem?_eq_some_iff.1 hu).1;simp at this;exact this
 subst hi
 have ZP:u= .int .i64 p:=by simpa using hu.symm
 have hsz:(Kd.int .i64).sz=1:=rfl
 rw [ZP,hsz,Nat.mul_one,Nat.add_zero,add_plain,ag (dn W _),List.getElem?_toArray,List.getElem?_map,hp];rfl
theorem RR:∀(rows:List (List Int)) (W:World),(∀r,r∈rows->r.length<=1000)->∃(W':World) (hs:List (Option Addr×Nat)),Below W.heap.size W W'/\hs.length=rows.length/\∀(j:Nat) (x:List Int),rows[j]? =some x->∃A c,hs[j]? =some (A,c)/\Kd.C (Kd.int .i64) W' A x.length x/\x.length<=c
 | [],W,_=>⟨W,[],Below.refl _ _,rfl,fun j x h=>by simp at h⟩
 |r::rs,W,h=>by
  obtain ⟨W1,A,c,hB,hC,hc⟩:=UY r (h r List.mem_cons_self) W
  obtain ⟨W2,hs,RS,hn,hx⟩:=RR rs W1 (fun x hx=>h x (List.mem_cons_of_mem _ hx))
  refine ⟨W2,(A,c)::hs,ah hB RS,by simp [hn],fun j x hj=>?_⟩
  cases j with
  |zero=>exact ⟨A,c,rfl,by have e:r=x:=by simpa using hj
                           rw [<-e];exact Kd.bp hC RS,by have e:r=x:=by simpa using hj
                                                         rw [<-e];exact hc⟩
  |succ j=>exact hx j x (by simpa using hj)
theorem a3q (rows:List (List Int)) (W:World) (hl:rows.length<=1000) (h:∀r,r∈rows->r.length<=1000):∃(W':World) (A:Option Addr) (c:Nat),Below W.heap.size W W'/\Kd.C mN W' A rows.length rows/\rows.length<=c:=by
 obtain ⟨W1,hs,hB,hn,hx⟩:=RR rows W h
 have key:∀j:Fin rows.length,∃q:Value,∃A c,q= .slice A (rows[j.1]).length c/\Kd.C (Kd.int .i64) W1 A (rows[j.1]).length rows[j.1]/\(rows[j.1]).length<=c:=fun j=>by
  obtain ⟨A,c,_,h1,h2⟩:=hx j.1 rows[j.1] (List.getElem?_eq_getElem j.2)
  exact ⟨_,A,c,rfl,h1,h2⟩
 obtain ⟨f,hf⟩:=Classical.axiomOfChoice key
 refine ⟨W1.alloc (.cells ((List.finRange rows.length).map f).toArray 23),some ⟨W1.heap.size,0,none⟩,rows.length,aT hB _,⟨rfl,by omega,fun _=>⟨_,rfl,fun j p hp=>?_⟩⟩,Nat.le_refl _⟩
 obtain ⟨hj,ep⟩:=List.getElem?_eq_some_iff.1 hp
 obtain ⟨A,c,e1,h1,h2⟩:=hf ⟨j,hj⟩
 subst ep
 refine ⟨[f ⟨j,hj⟩],rfl,⟨A,c,by rw [e1],h2,Kd.bp h1 (aT (Below.refl _ _) _)⟩,fun i u hu=>?_⟩
 have hi:i=0:=by
  have:=(List.getElem?_eq_some_iff.1 hu).1;simp at this;exact this
 subst hi
 have ZP:u=f ⟨j,hj⟩:=by simpa using hu.symm
 have hsz:(mN).sz=1:=rfl
 rw [ZP,hsz,Nat.mul_one,Nat.add_zero,add_plain,ag (dn W1 _),List.getElem?_toArray,List.getElem?_map]
 simp [hj]
theorem ends (hb:0<av.length) (hg:kT av aa=true) (hc:mH av aa=true) (W:World):∃T1 T2,Bq av aa T1/\GI av aa T2:=by
 obtain ⟨hnb,hne,hrl⟩:=pP hg
 obtain ⟨W1,A0,c0,hB,hC,hc0⟩:=UY av (by omega) W
 obtain ⟨W2,A1,c1,RS,hC2,hc2⟩:=a3q aa W1 (by omega) (fun r hr=>by have:=hrl r hr;omega)
 obtain ⟨_,_,_,⟨⟨T1,T2,hT1,hT2⟩,_⟩,_⟩:=NW A0 c0 av A1 c1 aa W2 (Kd.bp hC RS) hc0 hC2 hc2 hb hg hc []
 exact ⟨T1,T2,hT1,hT2⟩
theorem a0u (hb:0<av.length) (hc:mH av (gf av aa)=true):0<(gf av aa).length:=by obtain ⟨j,hj,_⟩:=Dp hc hb;omega
theorem a0v (hb:0<av.length) (hg:kT av aa=true) (hc:mH av aa=true) (W:World):wid av (gf av aa)=wid av aa:=by
 obtain ⟨hnb,hne,_⟩:=pP hg
 obtain ⟨_,hnp,_⟩:=pP (xw hg)
 obtain ⟨T1,T2,h1,h2⟩:=ends hb hg hc W
 obtain ⟨T1',T2',Qp,TZ⟩:=ends hb (xw hg) (yP hg hc) W
 rw [<-RQ hnb hne hb hc h1,<-RQ hnb hnp hb (yP hg hc) Qp,a3p hg h1 h2 Qp TZ]
theorem RT (hb:0<av.length) (hg:kT av aa=true) (hc:mH av aa=true) (W:World):∃x,oC av aa=some x/\Cm aa.length x/\wid av aa=S aa.length x:=by
 obtain ⟨hnb,hne,_⟩:=pP hg
 obtain ⟨T1,T2,h1,h2⟩:=ends hb hg hc W
 have hn0:0<aa.length:=by obtain ⟨j,hj,_⟩:=Dp hc hb;omega
 obtain ⟨x,ex,lx⟩:=UU hnb hne hn0 (a5q hnb hne h1)
 have okC:=LJ (P:=gO av aa) (m:=av.length) (up:=false) (inc:=fun _=>true) hne
 exact ⟨x,ex,Er okC hne _ [] none (Nat.le_refl _) rfl (fun _ h=>by cases h) x ex,by unfold wid;rw [ex];rfl⟩
theorem b1a (hb:0<av.length) (hg:kT av aa=true) (hc:mH av aa=true) (W:World):Sz 11760 1680 (wid av aa):=by
 obtain ⟨_,hne,_⟩:=pP hg
 obtain ⟨x,_,cx,e⟩:=RT hb hg hc W
 rw [e];exact (Jh hne cx).2
end
end Go.Proofs.Ytkckdphjhlbdcaa.PT
namespace Go.Proofs.Ytkckdphjhlbdcaa.PT
open Go.RowKit Go.Proofs.Ytkckdphjhlbdcaa.P Go.Proofs.YtkckdphjhlbdcaaW.PrintWords Go.Proofs.YtkckdphjhlbdcaaW.PrintLast Go.Proofs.Ytkckdphjhlbdcaa.EvKit
set_option linter.all false
abbrev tQ:=List dm
section
variable (w:World) (au:List (List Int)) (par home:List Int) (bg:tQ) (A0 A1 A2 A3:Option Addr) (c0 c1 c2 c3:Nat)
structure BX:Prop where
 mI:Kd.C mN w A0 au.length au
 yQ:au.length<=c0
 wL:Kd.C (Kd.int .i64) w A1 par.length par
 GJ:par.length<=c1
 vv:Kd.C (Kd.int .i64) w A2 home.length home
 Bt:home.length<=c2
 tR:Kd.C gY w A3 bg.length bg
 yR:bg.length<=c3
end
section
variable {w:World} {au:List (List Int)} {par home:List Int} {bg:tQ} {A0 A1 A2 A3:Option Addr} {c0 c1 c2 c3:Nat}
theorem BX.below {W:World} (h:BX w au par home bg A0 A1 A2 A3 c0 c1 c2 c3) (hb:Below w.heap.size w W):BX W au par home bg A0 A1 A2 A3 c0 c1 c2 c3:=
 ⟨Kd.bp h.mI hb,h.yQ,Kd.bp h.wL hb,h.GJ,Kd.bp h.vv hb,h.Bt,Kd.bp h.tR hb,h.yR⟩
theorem NX {l:List Int} {i:Nat} (h:i<l.length):l[i]=l.getD i 0:=by simp [List.getD_eq_getElem?_getD,h]
structure RU (W:World) (g:Nat) (v0 v1 v2 v3:Value):Prop where
 c0:W.cell? ⟨g,0,none⟩=some v0
 c1:W.cell? ⟨g,1,none⟩=some v1
 c2:W.cell? ⟨g,2,none⟩=some v2
 c3:W.cell? ⟨g,3,none⟩=some v3
theorem RU.of {W:World} {g:Nat} {v0 v1 v2 v3 v4 v5:Value} {t:TypeId} (h:W.heap[g]? =some (.cells #[v0,v1,v2,v3,v4,v5] t (0,0))):RU W g v0 v1 v2 v3:=
 ⟨(ag h 0).trans rfl,(ag h 1).trans rfl,(ag h 2).trans rfl,(ag h 3).trans rfl⟩
theorem pQ {W:World} {A:Option Addr} {l:List Int} {i:Nat} (h:Kd.C (Kd.int .i64) W A l.length l) (hi:i<l.length):∃ad:Addr,A=some ad/\W.cell? (ad.add i)=some (.int .i64 (l.getD i 0)):=by
 obtain ⟨ad,e,hx⟩:=Kd.gL h (i:Int) (by omega) (by omega)
 have hrd:rd l (i:Int)=l.getD i 0:=rfl
 rw [hrd] at hx
 exact ⟨ad,e,by rw [Int.toNat_natCast] at hx;exact hx⟩
theorem mY {W:World} {A:Option Addr} {l:List (List Int)} {i:Nat} (h:Kd.C mN W A l.length l) (hi:i<l.length):∃(ad:Addr) (A1:Option Addr) (c1:Nat),A=some ad/\W.cell? (ad.add i)=some (.slice A1 (l.getD i []).length c1)/\(l.getD i []).length<=c1/\Kd.C (Kd.int .i64) W A1 (l.getD i []).length (l.getD i []):=by
 obtain ⟨ad,A1,c1,e,hx,hl,hC⟩:=Ad h i hi
 have e2:l.getD i []=l[i]:=by simp [List.getD_eq_getElem?_getD,hi]
 rw [e2]
 exact ⟨ad,A1,c1,e,hx,hl,hC⟩
end
section
variable (au:List (List Int)) (par:List Int) (v:Int)
def Dq (i:Nat):Bool:=decide (v∈au.getD i [])&&(decide (par.getD i 0<0)|| !decide (v∈au.getD (par.getD i 0).toNat []))
def jG (i:Nat):Nat:=((List.range i).filter (Dq au par v)).length
def pR:Bool:=decide (jG au par v au.length=1)
theorem NY (i:Nat):jG au par v (i+1)=if Dq au par v i=true then jG au par v i+1 else jG au par v i:=by
 unfold jG
 rw [List.range_succ,List.filter_append,List.length_append]
 cases h:Dq au par v i<;>simp [List.filter_cons,h]
theorem UZ (i:Nat):jG au par v i<=i:=by
 unfold jG
 have:=List.length_filter_le (Dq au par v) (List.range i)
 rwa [List.length_range] at this
def Xd:Prop:=par.length=au.length/\∀i,i<au.length->par.getD i 0<0∨(par.getD i 0).toNat<au.length
end
end Go.Proofs.Ytkckdphjhlbdcaa.PT
