/-
  Part 4 of the proof of this: The law FnExactCoverOf answers true at every argument.
-/
import Derived.Test.YtnhknojfpjheoaaKCoverOf2
import Derived.Test.YtnhknojfpjheoaaKCoverOf3
import Derived.Deep.RegionHeld3
import Derived.Test.YtnhknojfpjheoaaProg
namespace Go.Proofs.Ytnhknojfpjheoaa.P
open Go.RowKit Go.Proofs.YtnhknojfpjheoaaW.PrintWords Go.Proofs.YtnhknojfpjheoaaW.PrintLast Go.Proofs.YtnhknojfpjheoaaW.PrintMore
attribute [local go_sem] max2_int min2_int max_two min_two max_three min_three max_four min_four
set_option linter.all false
def cS.l0:Nat->Int->List Int->Int->Int->Option (Bool)
 |0,_,_,_,_=>none
 |k+1,x3,x6,x7,x8=>if x8<x7 then (if 0<=x8 then (if x8<(x6.length:Int) then (if (rd x6 x8)<=x3 then (some false) else (if (rd x6 x8)>=6 then (some false) else (cS.l0 k (rd x6 x8) x6 x7 (wrap64 (x8+1))))) else (none)) else (none)) else (some true)
def cS.f (k:Nat) (l0:List Int):Option (Bool):=cS.l0 k (-1) l0 (l0.length:Int) 0
theorem cS.cI:∀k,(∀y0 y1 y2 y3,aT (cS.l0 k y0 y1 y2 y3) (cS.l0 (k+1) y0 y1 y2 y3))
 |0=>fun _ _ _ _ r h=>by simp [cS.l0] at h
 |k+1=>by
  have dL:=cS.cI k
  ·intro y0 y1 y2 y3
   unfold cS.l0
   repeat' first
   |(with_reducible exact dL _ _ _ _)
   |(with_reducible exact aT.refl _)
   |(with_reducible exact aT.none _)
   |(with_reducible refine aT.ite ?_ ?_)
   |(with_reducible refine aT.bind ?_ (fun _=>?_))
theorem cS.mono:∀a0 k,aT (cS.f k a0) (cS.f (k+1) a0):=by
 intro a0 k
 have dL:=cS.cI k
 unfold cS.f
 repeat' first
  |(with_reducible exact dL _ _ _ _)
  |(with_reducible exact aT.refl _)
  |(with_reducible exact aT.none _)
  |(with_reducible refine aT.ite ?_ ?_)
  |(with_reducible refine aT.bind ?_ (fun _=>?_))
set_option maxHeartbeats 8000000 in
set_option maxRecDepth 100000 in
theorem cS.calls (k:Nat) (A0:Option Addr) (c0:Nat) (l0:List Int) (r:Bool) (w:World) (fy:Kd.C (Kd.int .i64) w A0 l0.length l0) (hc0:l0.length<=c0) (h:cS.f k l0=some r):
 Calls Try.prog 27 #[.slice A0 l0.length c0] w fun e w'=>e= .returned (.bool r)/\bg w w':=by
 have eE:=Aside0.mk fy
 have lR:=Aside0.mk hc0
 clear fy hc0
 have H:(cS.l0 k (-1) l0 (l0.length:Int) 0)=some r:=h
 clear h
 have H':=Aside0.mk H
 clear H
 go_enter Try.func27,Try.ntmps27
 go_wp2
 go_loopg [3,8] k (fun kq v3 v8 w'=>∃(gL:Int) (eT:Int),v3= .int .i64 gL/\v8= .int .i64 eT/\Aside0 (cS.l0 kq gL l0 (l0.length:Int) eT=some r)/\Aside0 (kq<=k)/\bg w w')
 case atStart=>exact ⟨((-1)),(0),(by first|rfl|(simp;done)|(simp [*];done)),(by first|rfl|(simp;done)|(simp [*];done)),H',⟨Nat.le_refl _⟩,by repeat (first|exact bg.refl _|apply bg.step)⟩
 case round=>
  clear H'
  obtain ⟨gL,eT,rfl,rfl,HA,fR,⟨m1,rfl⟩⟩:=hrel
  cases gk with
  |zero=>exact absurd HA.out (by simp [cS.l0])
  |succ k1=>
   have H:=HA.out
   clear HA
   simp only [cS.l0] at H
   by_cases c2:eT<(l0.length:Int)
   ·rw [if_pos c2] at H
    have Dp:decide (eT<(l0.length:Int))=true:=decide_eq_true c2
    clear c2
    by_cases c3:0<=eT
    ·rw [if_pos c3] at H
     have gv:decide (0<=eT)=true:=decide_eq_true c3
     clear c3
     by_cases c4:eT<(l0.length:Int)
     ·rw [if_pos c4] at H
      have kC:decide (eT<(l0.length:Int))=true:=decide_eq_true c4
      clear c4
      by_cases c5:(rd l0 eT)<=gL
      ·rw [if_pos c5] at H
       have uY:decide ((rd l0 eT)<=gL)=true:=decide_eq_true c5
       clear c5
       obtain rfl:=Option.some.inj H
       have vC:0<=(eT:Int):=of_decide_eq_true (by first|(with_reducible assumption)|assumption)
       have vD:eT<(l0.length:Int):=of_decide_eq_true (by first|(with_reducible assumption)|assumption)
       obtain ⟨a1M,MM,PW⟩:=Kd.gq eE.out eT vC vD
       cases MM
       replace vC:=eq_true vC
       replace vD:=eq_true vD
       go_wp2
       go_ret
       exact ⟨by first|rfl|(simp;done)|(simp [*];done),by repeat (first|exact bg.refl _|apply bg.step)⟩
      ·rw [if_neg c5] at H
       have uY:decide ((rd l0 eT)<=gL)=false:=decide_eq_false c5
       clear c5
       by_cases c6:(rd l0 eT)>=6
       ·rw [if_pos c6] at H
        have ov:decide (6<=(rd l0 eT))=true:=decide_eq_true c6
        clear c6
        obtain rfl:=Option.some.inj H
        have vC:0<=(eT:Int):=of_decide_eq_true (by first|(with_reducible assumption)|assumption)
        have vD:eT<(l0.length:Int):=of_decide_eq_true (by first|(with_reducible assumption)|assumption)
        obtain ⟨a1M,MM,PW⟩:=Kd.gq eE.out eT vC vD
        cases MM
        replace vC:=eq_true vC
        replace vD:=eq_true vD
        go_wp2
        go_ret
        exact ⟨by first|rfl|(simp;done)|(simp [*];done),by repeat (first|exact bg.refl _|apply bg.step)⟩
       ·rw [if_neg c6] at H
        have ov:decide (6<=(rd l0 eT))=false:=decide_eq_false c6
        clear c6
        have H':=Aside0.mk H
        clear H
        have vC:0<=(eT:Int):=of_decide_eq_true (by first|(with_reducible assumption)|assumption)
        have vD:eT<(l0.length:Int):=of_decide_eq_true (by first|(with_reducible assumption)|assumption)
        obtain ⟨a1M,MM,PW⟩:=Kd.gq eE.out eT vC vD
        cases MM
        replace vC:=eq_true vC
        replace vD:=eq_true vD
        go_wp2
        go_roundg k1
        case measure=>have:=fR.out;omega
        case rel=>exact ⟨(rd l0 eT),(wrap64 (eT+1)),(by first|rfl|(simp;done)|(simp [*];done)),(by first|rfl|(simp;done)|(simp [*];done)),H',⟨by have:=fR.out;omega⟩,by repeat (first|exact bg.refl _|apply bg.step)⟩
     ·rw [if_neg c4] at H
      exact absurd H (by simp)
    ·rw [if_neg c3] at H
     exact absurd H (by simp)
   ·rw [if_neg c2] at H
    have Dp:decide (eT<(l0.length:Int))=false:=decide_eq_false c2
    clear c2
    obtain rfl:=Option.some.inj H
    go_wp2
    go_ret
    exact ⟨by first|rfl|(simp;done)|(simp [*];done),by repeat (first|exact bg.refl _|apply bg.step)⟩
def bH.l0:Nat->List Int->Int->List Int->Int->Int->Option (Bool)
 |0,_,_,_,_,_=>none
 |k+1,x0,x1,x7,x8,x9=>if x9<x8 then (if 0<=x9 then (if x9<(x7.length:Int) then ((iy.f (rd x7 x9) 0 (wrap64 (x1 - 1))).bind fun t104=>(if t104=true then (if x9>0 then (if 0<=(wrap64 (x9 - 1)) then (if (wrap64 (x9 - 1))<(x0.length:Int) then (if (rd x7 x9)<=(rd x0 (wrap64 (x9 - 1))) then (some false) else (bH.l0 k x0 x1 x7 x8 (wrap64 (x9+1)))) else (none)) else (none)) else (bH.l0 k x0 x1 x7 x8 (wrap64 (x9+1)))) else (some false))) else (none)) else (none)) else (some true)
def bH.f (k:Nat) (l0:List Int) (a1:Int):Option (Bool):=bH.l0 k l0 a1 l0 (l0.length:Int) 0
theorem bH.cI:∀k,(∀y0 y1 y2 y3 y4,aT (bH.l0 k y0 y1 y2 y3 y4) (bH.l0 (k+1) y0 y1 y2 y3 y4))
 |0=>fun _ _ _ _ _ r h=>by simp [bH.l0] at h
 |k+1=>by
  have dL:=bH.cI k
  ·intro y0 y1 y2 y3 y4
   unfold bH.l0
   repeat' first
   |(with_reducible exact dL _ _ _ _ _)
   |(with_reducible exact aT.refl _)
   |(with_reducible exact aT.none _)
   |(with_reducible refine aT.ite ?_ ?_)
   |(with_reducible refine aT.bind ?_ (fun _=>?_))
theorem bH.mono:∀a0 a1 k,aT (bH.f k a0 a1) (bH.f (k+1) a0 a1):=by
 intro a0 a1 k
 have dL:=bH.cI k
 unfold bH.f
 repeat' first
  |(with_reducible exact dL _ _ _ _ _)
  |(with_reducible exact aT.refl _)
  |(with_reducible exact aT.none _)
  |(with_reducible refine aT.ite ?_ ?_)
  |(with_reducible refine aT.bind ?_ (fun _=>?_))
set_option maxHeartbeats 8000000 in
set_option maxRecDepth 100000 in
theorem bH.calls (k:Nat) (A0:Option Addr) (c0:Nat) (l0:List Int) (a1:Int) (r:Bool) (w:World) (fy:Kd.C (Kd.int .i64) w A0 l0.length l0) (hc0:l0.length<=c0) (h:bH.f k l0 a1=some r):
 Calls Try.prog 22 #[.slice A0 l0.length c0,.int .i64 a1] w fun e w'=>e= .returned (.bool r)/\bg w w':=by
 have eE:=Aside0.mk fy
 have lR:=Aside0.mk hc0
 clear fy hc0
 have H:(bH.l0 k l0 a1 l0 (l0.length:Int) 0)=some r:=h
 clear h
 have H':=Aside0.mk H
 clear H
 go_enter Try.func22,Try.ntmps22
 go_wp2
 go_loopg [9] k (fun kq v9 w'=>∃(cj:Int),v9= .int .i64 cj/\Aside0 (bH.l0 kq l0 a1 l0 (l0.length:Int) cj=some r)/\Aside0 (kq<=k)/\bg w w')
 case atStart=>exact ⟨(0),(by first|rfl|(simp;done)|(simp [*];done)),H',⟨Nat.le_refl _⟩,by repeat (first|exact bg.refl _|apply bg.step)⟩
 case round=>
  clear H'
  try clear c2
  try clear p2
  obtain ⟨cj,rfl,HA,fR,⟨m1,rfl⟩⟩:=hrel
  cases gk with
  |zero=>exact absurd HA.out (by simp [bH.l0])
  |succ k1=>
   have H:=HA.out
   clear HA
   simp only [bH.l0] at H
   by_cases c3:cj<(l0.length:Int)
   ·rw [if_pos c3] at H
    have gv:decide (cj<(l0.length:Int))=true:=decide_eq_true c3
    clear c3
    by_cases c4:0<=cj
    ·rw [if_pos c4] at H
     have kC:decide (0<=cj)=true:=decide_eq_true c4
     clear c4
     by_cases c5:cj<(l0.length:Int)
     ·rw [if_pos c5] at H
      have uY:decide (cj<(l0.length:Int))=true:=decide_eq_true c5
      clear c5
      replace H:=Option.bind_eq_some_iff.mp H
      obtain ⟨t104,wh,H⟩:=H
      replace H:(if t104=true then (if cj>0 then (if 0<=(wrap64 (cj - 1)) then (if (wrap64 (cj - 1))<(l0.length:Int) then (if (rd l0 cj)<=(rd l0 (wrap64 (cj - 1))) then (some false) else (bH.l0 k1 l0 a1 l0 (l0.length:Int) (wrap64 (cj+1)))) else (none)) else (none)) else (bH.l0 k1 l0 a1 l0 (l0.length:Int) (wrap64 (cj+1)))) else (some false))=some r:=H
      have A6:=Aside0.mk wh
      clear wh
      by_cases c7:t104=true
      ·subst c7
       have H1:(if cj>0 then (if 0<=(wrap64 (cj - 1)) then (if (wrap64 (cj - 1))<(l0.length:Int) then (if (rd l0 cj)<=(rd l0 (wrap64 (cj - 1))) then (some false) else (bH.l0 k1 l0 a1 l0 (l0.length:Int) (wrap64 (cj+1)))) else (none)) else (none)) else (bH.l0 k1 l0 a1 l0 (l0.length:Int) (wrap64 (cj+1))))=some r:=by rw [if_pos rfl] at H;exact H
       clear H
       have H:=H1
       clear H1
       by_cases c8:cj>0
       ·rw [if_pos c8] at H
        have su:decide (0<cj)=true:=decide_eq_true c8
        clear c8
        obtain ⟨tK,MN⟩:∃j_:Int,(wrap64 (cj - 1))=j_:=⟨_,rfl⟩
        replace H:(if 0<=(tK) then (if (tK)<(l0.length:Int) then (if (rd l0 cj)<=(rd l0 (tK)) then (some false) else (bH.l0 k1 l0 a1 l0 (l0.length:Int) (wrap64 (cj+1)))) else (none)) else (none))=some r:=by first|(rw [MN] at H;exact H)|(simp only [MN] at H⊢;exact H)
        (try rw [MN] at A6)
        have hji9w:(IntKind.i64.wrap (cj - 1))=tK:=(cZ _).trans MN
        by_cases c10:0<=(tK)
        ·rw [if_pos c10] at H
         have b0M:decide (0<=(tK))=true:=decide_eq_true c10
         clear c10
         by_cases c11:(tK)<(l0.length:Int)
         ·rw [if_pos c11] at H
          have b0N:decide ((tK)<(l0.length:Int))=true:=decide_eq_true c11
          clear c11
          by_cases c12:(rd l0 cj)<=(rd l0 (tK))
          ·rw [if_pos c12] at H
           have Sm:decide ((rd l0 cj)<=(rd l0 (tK)))=true:=decide_eq_true c12
           clear c12
           obtain rfl:=Option.some.inj H
           have qQ:0<=(cj:Int):=of_decide_eq_true (by first|(with_reducible assumption)|assumption)
           have qR:cj<(l0.length:Int):=of_decide_eq_true (by first|(with_reducible assumption)|assumption)
           obtain ⟨Fh,DL,Ik⟩:=Kd.gq eE.out cj qQ qR
           cases DL
           replace qQ:=eq_true qQ
           replace qR:=eq_true qR
           go_wp2_with (first|((with_reducible refine aY (f:=47) rfl ?_);refine bP (some 17) rfl rfl Try.func47 (by kernel_rfl) rfl #[.int .i64 (rd l0 cj),.int .i64 0,.int .i64 (wrap64 (a1 - 1))] rfl (by (try simp only [List.map_toArray,List.map_cons,List.map_nil]);first|done|rfl|(simp only [List.length_drop,List.length_take];rfl)) ?_;(with_reducible refine (iy.calls (rd l0 cj) 0 (wrap64 (a1 - 1)) true _ A6.out).mono ?_);rintro e w' ⟨rfl,⟨nd,rfl⟩⟩;refine ⟨_,rfl,?_⟩;have DM:0<=((tK):Int):=of_decide_eq_true (by first|(with_reducible assumption)|assumption);have DN:(tK)<(l0.length:Int):=of_decide_eq_true (by first|(with_reducible assumption)|assumption);obtain ⟨Sn,Zb,a4i⟩:=Kd.gq eE.out (tK) DM DN;obtain rfl:Fh=Sn:=(by injection Zb);replace DM:=eq_true DM;replace DN:=eq_true DN))
           go_ret
           exact ⟨by first|rfl|(simp;done)|(simp only [<-MN]<;>(first|rfl|simp))|(simp [*];done),by repeat (first|exact bg.refl _|apply bg.step)⟩
          ·rw [if_neg c12] at H
           have Sm:decide ((rd l0 cj)<=(rd l0 (tK)))=false:=decide_eq_false c12
           clear c12
           have H':=Aside0.mk H
           clear H
           have qQ:0<=(cj:Int):=of_decide_eq_true (by first|(with_reducible assumption)|assumption)
           have qR:cj<(l0.length:Int):=of_decide_eq_true (by first|(with_reducible assumption)|assumption)
           obtain ⟨Fh,DL,Ik⟩:=Kd.gq eE.out cj qQ qR
           cases DL
           replace qQ:=eq_true qQ
           replace qR:=eq_true qR
           go_wp2_with (first|((with_reducible refine aY (f:=47) rfl ?_);refine bP (some 17) rfl rfl Try.func47 (by kernel_rfl) rfl #[.int .i64 (rd l0 cj),.int .i64 0,.int .i64 (wrap64 (a1 - 1))] rfl (by (try simp only [List.map_toArray,List.map_cons,List.map_nil]);first|done|rfl|(simp only [List.length_drop,List.length_take];rfl)) ?_;(with_reducible refine (iy.calls (rd l0 cj) 0 (wrap64 (a1 - 1)) true _ A6.out).mono ?_);rintro e w' ⟨rfl,⟨nd,rfl⟩⟩;refine ⟨_,rfl,?_⟩;have DM:0<=((tK):Int):=of_decide_eq_true (by first|(with_reducible assumption)|assumption);have DN:(tK)<(l0.length:Int):=of_decide_eq_true (by first|(with_reducible assumption)|assumption);obtain ⟨Sn,Zb,a4i⟩:=Kd.gq eE.out (tK) DM DN;obtain rfl:Fh=Sn:=(by injection Zb);replace DM:=eq_true DM;replace DN:=eq_true DN))
           go_roundg k1
           case measure=>have:=fR.out;omega
           case rel=>exact ⟨(wrap64 (cj+1)),(by first|rfl|(simp;done)|(simp [*];done)),H',⟨by have:=fR.out;omega⟩,by repeat (first|exact bg.refl _|apply bg.step)⟩
         ·rw [if_neg c11] at H
          exact absurd H (by simp)
        ·rw [if_neg c10] at H
         exact absurd H (by simp)
       ·rw [if_neg c8] at H
        have su:decide (0<cj)=false:=decide_eq_false c8
        clear c8
        have H':=Aside0.mk H
        clear H
        have qQ:0<=(cj:Int):=of_decide_eq_true (by first|(with_reducible assumption)|assumption)
        have qR:cj<(l0.length:Int):=of_decide_eq_true (by first|(with_reducible assumption)|assumption)
        obtain ⟨Fh,DL,Ik⟩:=Kd.gq eE.out cj qQ qR
        cases DL
        replace qQ:=eq_true qQ
        replace qR:=eq_true qR
        go_wp2_with (first|((with_reducible refine aY (f:=47) rfl ?_);refine bP (some 17) rfl rfl Try.func47 (by kernel_rfl) rfl #[.int .i64 (rd l0 cj),.int .i64 0,.int .i64 (wrap64 (a1 - 1))] rfl (by (try simp only [List.map_toArray,List.map_cons,List.map_nil]);first|done|rfl|(simp only [List.length_drop,List.length_take];rfl)) ?_;(with_reducible refine (iy.calls (rd l0 cj) 0 (wrap64 (a1 - 1)) true _ A6.out).mono ?_);rintro e w' ⟨rfl,⟨nd,rfl⟩⟩;refine ⟨_,rfl,?_⟩))
        go_roundg k1
        case measure=>have:=fR.out;omega
        case rel=>exact ⟨(wrap64 (cj+1)),(by first|rfl|(simp;done)|(simp [*];done)),H',⟨by have:=fR.out;omega⟩,by repeat (first|exact bg.refl _|apply bg.step)⟩
      ·replace c7:=Bool.eq_false_iff.mpr c7
       subst c7
       have H1:(some false)=some r:=by rw [if_neg (show ¬(false=true) by decide)] at H;exact H
       clear H
       have H:=H1
       clear H1
       obtain rfl:=Option.some.inj H
       have qQ:0<=(cj:Int):=of_decide_eq_true (by first|(with_reducible assumption)|assumption)
       have qR:cj<(l0.length:Int):=of_decide_eq_true (by first|(with_reducible assumption)|assumption)
       obtain ⟨Fh,DL,Ik⟩:=Kd.gq eE.out cj qQ qR
       cases DL
       replace qQ:=eq_true qQ
       replace qR:=eq_true qR
       go_wp2_with (first|((with_reducible refine aY (f:=47) rfl ?_);refine bP (some 17) rfl rfl Try.func47 (by kernel_rfl) rfl #[.int .i64 (rd l0 cj),.int .i64 0,.int .i64 (wrap64 (a1 - 1))] rfl (by (try simp only [List.map_toArray,List.map_cons,List.map_nil]);first|done|rfl|(simp only [List.length_drop,List.length_take];rfl)) ?_;(with_reducible refine (iy.calls (rd l0 cj) 0 (wrap64 (a1 - 1)) false _ A6.out).mono ?_);rintro e w' ⟨rfl,⟨nd,rfl⟩⟩;refine ⟨_,rfl,?_⟩))
       go_ret
       exact ⟨by first|rfl|(simp;done)|(simp [*];done),by repeat (first|exact bg.refl _|apply bg.step)⟩
     ·rw [if_neg c5] at H
      exact absurd H (by simp)
    ·rw [if_neg c4] at H
     exact absurd H (by simp)
   ·rw [if_neg c3] at H
    have gv:decide (cj<(l0.length:Int))=false:=decide_eq_false c3
    clear c3
    obtain rfl:=Option.some.inj H
    go_wp2
    go_ret
    exact ⟨by first|rfl|(simp;done)|(simp [*];done),by repeat (first|exact bg.refl _|apply bg.step)⟩
end Go.Proofs.Ytnhknojfpjheoaa.P
namespace Go.Proofs.Ytnhknojfpjheoaa.PT
open Go.RowKit Go.Proofs.Ytnhknojfpjheoaa.P Go.Proofs.YtnhknojfpjheoaaW.PrintWords Go.Proofs.YtnhknojfpjheoaaW.PrintLast Go.Proofs.Ytnhknojfpjheoaa.EvKit
set_option linter.all false
def kg (last:Int):List Int->Bool
 | []=>true
 |v::r=>decide (last<v)&&decide (v<6)&&kg v r
theorem Zc (l:List Int) (hl:l.length<=9223372036854775806):∀d i,i+d=l.length->∀last,Ev (fun k=>cS.l0 k last l (l.length:Int) (i:Int)) (kg last (l.drop i)):=by
 intro d
 induction d with
 |zero=>
  intro i hi last
  refine Ev.succ ?_
  simp only [cS.l0,if_neg (show ¬((i:Int)<(l.length:Int)) by omega)]
  rw [List.drop_of_length_le (by omega)];exact Ev.now _
 |succ d ih=>
  intro i hi last
  have hlt:i<l.length:=by omega
  refine Ev.succ ?_
  simp only [cS.l0,if_pos (show ((i:Int)<(l.length:Int)) by omega),if_pos (show (0:Int)<=(i:Int) by omega),qy hlt,eR (show i<=9223372036854775806 by omega)]
  rw [og hlt]
  simp only [kg]
  by_cases h1:l[i]<=last
  ·simp only [if_pos h1,show ¬(last<l[i]) by omega,decide_false,Bool.false_and];exact Ev.now _
  ·by_cases h2:l[i]>=6
   ·simp only [if_neg h1,if_pos h2,show ¬(l[i]<6) by omega,decide_false,Bool.false_and,Bool.and_false];exact Ev.now _
   ·simp only [if_neg h1,if_neg h2,show (last<l[i]) by omega,show (l[i]<6) by omega,decide_true,Bool.true_and]
    exact ih (i+1) (by omega) _
theorem zl (l:List Int) (hl:l.length<=9223372036854775806):Ev (fun k=>cS.f k l) (kg (-1) l):=by
 unfold cS.f
 have:=Zc l hl l.length 0 (by omega) (-1)
 simpa using this
def before (l:List Int) (i:Nat):Int:=if i=0 then -1 else l.getD (i - 1) 0
theorem Sp (l:List Int) (hl:l.length<=9223372036854775806):∀i,i<=l.length-> -1<=before l i->Ev (fun k=>bH.l0 k l 6 l (l.length:Int) (i:Int)) (kg (before l i) (l.drop i)):=by
 have key:∀d i,i+d=l.length-> -1<=before l i->Ev (fun k=>bH.l0 k l 6 l (l.length:Int) (i:Int)) (kg (before l i) (l.drop i)):=by
  intro d
  induction d with
  |zero=>
   intro i hi _
   refine Ev.succ ?_
   simp only [bH.l0,if_neg (show ¬((i:Int)<(l.length:Int)) by omega)]
   rw [List.drop_of_length_le (by omega)];exact Ev.now _
  |succ d ih=>
   intro i hi hb
   have hlt:i<l.length:=by omega
   refine Ev.succ ?_
   simp only [bH.l0,if_pos (show ((i:Int)<(l.length:Int)) by omega),if_pos (show (0:Int)<=(i:Int) by omega),qy hlt,eR (show i<=9223372036854775806 by omega),UT,Option.bind_some,
    show wrap64 (6 - 1)=5 from by unfold wrap64;omega,decide_eq_true_eq]
   rw [og hlt]
   simp only [kg]
   have hnext:before l (i+1)=l[i]:=by unfold before;simp [List.getD_eq_getElem?_getD,hlt]
   have ih':=ih (i+1) (by omega)
   rw [hnext] at ih'
   by_cases h0:i=0
   ·subst h0
    simp only [show ¬(((0:Nat):Int)>0) by omega,if_false]
    have hb0:before l 0= -1:=rfl
    rw [hb0]
    by_cases h1:0<=l[0]/\l[0]<=5
    ·simp only [show (-1:Int)<l[0] by omega,show l[0]<6 by omega,decide_true,Bool.true_and]
     exact Ev.congr (fun _=>if_pos h1) (ih' (by omega))
    ·have:(decide ((-1:Int)<l[0])&&decide (l[0]<6)&&kg l[0] (l.drop (0+1)))=false:=by
      simp only [Bool.and_eq_false_iff,decide_eq_false_iff_not];left;omega
     rw [this];exact Ev.congr (fun _=>if_neg h1) (Ev.now _)
   ·have hw:wrap64 ((i:Int)- 1)=((i - 1:Nat):Int):=by unfold wrap64;omega
    have hb0:before l i=l[i - 1]:=by unfold before;rw [if_neg h0];simp [List.getD_eq_getElem?_getD,show i - 1<l.length by omega]
    rw [hb0] at hb⊢
    simp only [show ((i:Int)>0) by omega,if_true,hw,show (0:Int)<=((i - 1:Nat):Int) by omega,show (((i - 1:Nat):Int)<(l.length:Int)) by omega,qy (show i - 1<l.length by omega)]
    by_cases h1:0<=l[i]/\l[i]<=5
    ·by_cases h2:l[i]<=l[i - 1]
     ·simp only [if_pos h1,if_pos h2,show ¬(l[i - 1]<l[i]) by omega,decide_false,Bool.false_and];exact Ev.now _
     ·simp only [if_pos h1,if_neg h2,show (l[i - 1]<l[i]) by omega,show l[i]<6 by omega,decide_true,Bool.true_and]
      exact ih' (by omega)
    ·simp only [if_neg h1]
     have:(decide (l[i - 1]<l[i])&&decide (l[i]<6)&&kg l[i] (l.drop (i+1)))=false:=by
      simp only [Bool.and_eq_false_iff,decide_eq_false_iff_not];left;omega
     rw [this];exact Ev.now _
 intro i hi hb
 exact key (l.length - i) i (by omega) hb
theorem Fi (l:List Int) (hl:l.length<=9223372036854775806):Ev (fun k=>bH.f k l 6) (kg (-1) l):=by
 unfold bH.f
 have:=Sp l hl 0 (by omega) (by simp [before])
 simpa [before] using this
end Go.Proofs.Ytnhknojfpjheoaa.PT
namespace Go.Proofs.Ytnhknojfpjheoaa.PT
open Go.RowKit Go.Proofs.Ytnhknojfpjheoaa.P Go.Proofs.YtnhknojfpjheoaaW.PrintWords Go.Proofs.Ytnhknojfpjheoaa.EvKit
set_option linter.all false
theorem MO:∀(l:List (List Int)) (a:Int),0<=xj a l->(∀x,x∈l->(x.length:Int)<=a)/\iK l<=a
 | [],a,h=>⟨fun x hx=>by simp at hx,by simpa [iK,xj] using h⟩
 |y::r,a,h=>by
  simp only [xj] at h
  by_cases c:a -(y.length:Int)<0
  ·rw [if_pos c] at h;omega
  ·rw [if_neg c] at h
   obtain ⟨h1,h2⟩:=MO r _ h
   refine ⟨fun x hx=>?_,by simp only [iK];omega⟩
   rcases List.mem_cons.1 hx with rfl|hx
   ·omega
   ·have:=h1 x hx;omega
theorem Zd {l:List (List Int)} {a:Int} (h:0<=iI l a):(l.length:Int)<=a/\(∀x,x∈l->(x.length:Int)<=a)/\iK l<=a/\iI l a<=a:=by
 have h4:=Pd l a h
 unfold iI at h
 by_cases c:a -(l.length:Int)<0
 ·rw [if_pos c] at h;omega
 ·rw [if_neg c] at h
  obtain ⟨h1,h2⟩:=MO l _ h
  exact ⟨by omega,fun x hx=>by have:=h1 x hx;omega,by omega,h4.2.1⟩
theorem PX:∀(l:List Int) (a:Int),kg a l=true->l=[]∨(l.length:Int)<=5 - a
 | [],_,_=> .inl rfl
 |v::r,a,h=>by
  simp only [kg,Bool.and_eq_true,decide_eq_true_eq] at h
  right
  rcases PX r v h.2 with rfl|h2
  ·simp;omega
  ·simp only [List.length_cons];omega
theorem MP {l:List Int} (h:kg (-1) l=true):l.length<=6:=by
 rcases PX l _ h with rfl|h
 ·simp
 ·omega
end Go.Proofs.Ytnhknojfpjheoaa.PT
namespace Go.Proofs.Ytnhknojfpjheoaa.PT
open Go.RowKit Go.Proofs.Ytnhknojfpjheoaa.P Go.Proofs.YtnhknojfpjheoaaW.PrintWords Go.Proofs.YtnhknojfpjheoaaW.PrintLast Go.Proofs.Ytnhknojfpjheoaa.EvKit
set_option linter.all false
def Au (W:World) (r0:V5) (e:Ending) (w':World):Prop:=∃Fj Fk Fl Fm,e= .returned ((.agg #[.bool r0.1,.int .i64 r0.2.1,.int .i64 r0.2.2.1,.slice Fj r0.2.2.2.1.length Fk,.slice Fl r0.2.2.2.2.length Fm]))/\yq w' r0 Fj Fk Fl Fm/\eK W w'
def lF (W:World) (r0:V5) (e:Ending) (w':World):Prop:=∃Fj Fk Fl Fm b0,e= .returned ((.agg #[.bool r0.1,.int .i64 r0.2.1,.int .i64 r0.2.2.1,.slice Fj r0.2.2.2.1.length Fk,.slice Fl r0.2.2.2.2.length Fm]))/\oV w' r0 Fj r0.2.2.2.1.length Fk Fl r0.2.2.2.2.length Fm b0/\(∀b,b∈b0->W.heap.size<=b)/\eK W w'
set_option maxHeartbeats 4000000 in
set_option maxRecDepth 100000 in
theorem Fo (x0:List Int) (oG:Option Addr) (oH:Nat) (x1:List (List Int)) (oJ:Option Addr) (oK:Nat) (r0:V5) (z1:Int) (w:World) (k1 k2 m1:Int)
 (ha0:oA w x0 oG oH) (ha1:kf w x1 oJ oK) (hz1:z1=iI x1 1048576)
 (hfit:x0.length<=1048576/\0<=z1) (vE:k1=1+(x0.length:Int)) (hk2:k2=k1+iK x1) (MQ:m1=1+pz r0)
 (Lt:uB x0/\xY x1/\zk r0/\True) (DO:1<=k1/\k1<=k2/\k2<=1099511627776/\1<=m1/\m1<=1099511627776)
 (Lu:∀(W0 W:World) (oL:Option Addr) (oM:Nat) (oN:Option Addr) (oO:Nat),eK W0 W->oA W0 x0 oL oM->kf W0 x1 oN oO->Calls Try.prog 6 #[(.slice oL x0.length oM),(.slice oN x1.length oO)] W (Au W r0))
 (Lv:∀(W0 W:World) (oL:Option Addr) (oM:Nat) (oN:Option Addr) (oO:Nat),eK W0 W->oA W0 x0 oL oM->kf W0 x1 oN oO->Calls Try.prog 9 #[(.slice oL x0.length oM),(.slice oN x1.length oO)] W (lF W r0)):
 Calls Try.prog 3 #[(.slice oG x0.length oH),(.slice oJ x1.length oK)] w fun e w'=>e= .returned (.bool true)/\Below w.heap.size w w':=by
 have kO:=Aside0.mk (Below.refl w.heap.size w)
 have lG:=Aside0.mk ha0
 have dO:=Aside0.mk ha1
 have zQ:=Aside0.mk hz1
 have HG:=Aside0.mk Lt
 have HSP:=Aside0.mk Lu
 have HIM:=Aside0.mk Lv
 have HBD:=Aside0.mk DO
 have HN1:=Aside0.mk vE
 have HN2:=Aside0.mk hk2
 have HM1:=Aside0.mk MQ
 have Sq:=Aside0.mk (show -1<=(1048576:Int)/\(1048576:Int)<=1048576 by omega)
 have e0:decide ((x0.length:Int)>1048576)=false:=decide_eq_false (by have:=hfit;omega)
 have fz1:decide (z1<0)=false:=decide_eq_false (by have:=hfit;omega)
 have fk:decide (k2<0)=false:=decide_eq_false (by have:=DO;omega)
 have fm:decide (m1<0)=false:=decide_eq_false (by have:=DO;omega)
 have fn0:decide (m1<0)=false:=decide_eq_false (by have:=DO;omega)
 have fq:(m1 !=m1)=false:=by simp
 have PY:=Aside0.mk trivial
 clear ha0 ha1 hz1 hfit vE hk2 MQ Lt Lu Lv DO
 go_enter Try.func3,Try.ntmps3
 go_wp2_with (first|(go_at_call 5;have tok:=PY;(with_reducible refine (UH zQ.out (dO.out.past kO.out) Sq.out (by repeat (first|(with_reducible exact Tr.refl _ _)|(with_reducible apply Tr.drew)|(with_reducible apply Tr.drewN)|(with_reducible refine Tr.set ?_ (Nat.le_refl _) _)|(with_reducible apply Tr.alloc)))).mono ?_);clear tok PY;rintro e w1 ⟨rfl,t_⟩;have T_:Aside0 (Tr (fun _=>False) w w1):=⟨eK.gN (by repeat (first|(with_reducible exact Tr.refl _ _)|(with_reducible apply Tr.drew)|(with_reducible apply Tr.drewN)|(with_reducible refine Tr.set ?_ (Nat.le_refl _) _)|(with_reducible apply Tr.alloc))) t_⟩;have eL:Aside0 (Below w.heap.size w w1):=⟨Tr.fL kO.out T_.out (fun _ h=>h.elim)⟩;have s_:w.heap.size<=w1.heap.size:=T_.out.size;have ST1:=Aside0.mk trivial;clear t_ T_ kO)|(go_at_call 7;have tok:=ST1;(with_reducible refine (toI_c (lG.out.past eL.out) (HG.out.1) (by repeat (first|(with_reducible exact Tr.refl _ _)|(with_reducible apply Tr.drew)|(with_reducible apply Tr.drewN)|(with_reducible refine Tr.set ?_ (Nat.le_refl _) _)|(with_reducible apply Tr.alloc)))).mono ?_);clear tok ST1;rintro e w2 ⟨v1_A0,v1_c0,Ze,rfl,o_,g_,t_⟩;have T_:Aside0 (Tr (fun _=>False) w1 w2):=⟨eK.gN (by repeat (first|(with_reducible exact Tr.refl _ _)|(with_reducible apply Tr.drew)|(with_reducible apply Tr.drewN)|(with_reducible refine Tr.set ?_ (Nat.le_refl _) _)|(with_reducible apply Tr.alloc))) t_⟩;have lT:Aside0 (Below w.heap.size w w2):=⟨Tr.fL eL.out T_.out (fun _ h=>h.elim)⟩;have eV:=Aside0.mk o_;have Lx:Aside0 (∀b,b∈Ze->w1.heap.size<=b):=⟨fun b h=>Nat.le_trans ((by repeat (first|(with_reducible exact Tr.refl _ _)|(with_reducible apply Tr.drew)|(with_reducible apply Tr.drewN)|(with_reducible refine Tr.set ?_ (Nat.le_refl _) _)|(with_reducible apply Tr.alloc))):eK w1 _).size (g_ b h)⟩;have Sr:Aside0 (∀b,b∈Ze->b<w2.heap.size):=⟨gh.lt o_⟩;have HL_v1:Aside0 (∀b,b∈Ze->w.heap.size<=b):=⟨fun b h=>by have h9:=eL.out.size;have h8:=Lx.out b h;omega⟩;have s_:w1.heap.size<=w2.heap.size:=T_.out.size;have ST2:=Aside0.mk trivial;clear t_ T_ eL o_ g_)|(go_at_call 8;have tok:=ST2;(with_reducible refine (toII_c (dO.out.past lT.out) (HG.out.2.1) (by repeat (first|(with_reducible exact Tr.refl _ _)|(with_reducible apply Tr.drew)|(with_reducible apply Tr.drewN)|(with_reducible refine Tr.set ?_ (Nat.le_refl _) _)|(with_reducible apply Tr.alloc)))).mono ?_);clear tok ST2;rintro e w3 ⟨v2_A0,v2_c0,Zf,rfl,o_,g_,t_⟩;have T_:Aside0 (Tr (fun _=>False) w2 w3):=⟨eK.gN (by repeat (first|(with_reducible exact Tr.refl _ _)|(with_reducible apply Tr.drew)|(with_reducible apply Tr.drewN)|(with_reducible refine Tr.set ?_ (Nat.le_refl _) _)|(with_reducible apply Tr.alloc))) t_⟩;have HB3:Aside0 (Below w.heap.size w w3):=⟨Tr.fL lT.out T_.out (fun _ h=>h.elim)⟩;replace eV:=Aside0.mk (gh.tr eV.out T_.out (fun _ _ h=>h));have fh:=Aside0.mk o_;have Lz:Aside0 (∀b,b∈Zf->w2.heap.size<=b):=⟨fun b h=>Nat.le_trans ((by repeat (first|(with_reducible exact Tr.refl _ _)|(with_reducible apply Tr.drew)|(with_reducible apply Tr.drewN)|(with_reducible refine Tr.set ?_ (Nat.le_refl _) _)|(with_reducible apply Tr.alloc))):eK w2 _).size (g_ b h)⟩;have Ss:Aside0 (∀b,b∈Zf->b<w3.heap.size):=⟨fc.lt o_⟩;have HL_v2:Aside0 (∀b,b∈Zf->w.heap.size<=b):=⟨fun b h=>by have h9:=lT.out.size;have h8:=Lz.out b h;omega⟩;have s_:w2.heap.size<=w3.heap.size:=T_.out.size;have ST3:=Aside0.mk trivial;clear t_ T_ lT o_ g_)|(go_at_call 6;have tok:=ST3;(with_reducible refine (HSP.out w3 _ _ _ _ _ (by repeat (first|(with_reducible exact Tr.refl _ _)|(with_reducible apply Tr.drew)|(with_reducible apply Tr.drewN)|(with_reducible refine Tr.set ?_ (Nat.le_refl _) _)|(with_reducible apply Tr.alloc))) (oI.rd eV.out) (wo.rd fh.out)).mono ?_);clear tok ST3;rintro e w4 ⟨fS,fT,gi,gj,rfl,r_0,t_⟩;have T_:Aside0 (Tr (fun _=>False) w3 w4):=⟨eK.gN (by repeat (first|(with_reducible exact Tr.refl _ _)|(with_reducible apply Tr.drew)|(with_reducible apply Tr.drewN)|(with_reducible refine Tr.set ?_ (Nat.le_refl _) _)|(with_reducible apply Tr.alloc))) t_⟩;have HB4:Aside0 (Below w.heap.size w w4):=⟨Tr.fL HB3.out T_.out (fun _ h=>h.elim)⟩;replace eV:=Aside0.mk (gh.tr eV.out T_.out (fun _ _ h=>h));replace fh:=Aside0.mk (fc.tr fh.out T_.out (fun _ _ h=>h));have Il:=Aside0.mk r_0;have wC:=Aside0.mk (Below.refl w4.heap.size w4);have s_:w3.heap.size<=w4.heap.size:=T_.out.size;have ST4:=Aside0.mk trivial;clear t_ T_ HB3 r_0)|(go_at_call 7;have tok:=ST4;(with_reducible refine (toI_c (lG.out.past HB4.out) (HG.out.1) (by repeat (first|(with_reducible exact Tr.refl _ _)|(with_reducible apply Tr.drew)|(with_reducible apply Tr.drewN)|(with_reducible refine Tr.set ?_ (Nat.le_refl _) _)|(with_reducible apply Tr.alloc)))).mono ?_);clear tok ST4;rintro e w5 ⟨v4_A0,v4_c0,Su,rfl,o_,g_,t_⟩;have T_:Aside0 (Tr (fun _=>False) w4 w5):=⟨eK.gN (by repeat (first|(with_reducible exact Tr.refl _ _)|(with_reducible apply Tr.drew)|(with_reducible apply Tr.drewN)|(with_reducible refine Tr.set ?_ (Nat.le_refl _) _)|(with_reducible apply Tr.alloc))) t_⟩;have MR:Aside0 (Below w.heap.size w w5):=⟨Tr.fL HB4.out T_.out (fun _ h=>h.elim)⟩;have CJ:Aside0 (Below w4.heap.size w4 w5):=⟨Tr.fL wC.out T_.out (fun _ h=>h.elim)⟩;have K_:w5.heap[w4.heap.size]? =some (.cells #[.bool r0.1,.int .i64 r0.2.1,.int .i64 r0.2.2.1,.slice fS r0.2.2.2.1.length fT,.slice gi r0.2.2.2.2.length gj] 29 (0,0)):=t_.blk (by first|exact di _ _|exact aK (aK (aK (aK (aK (di _ (.cells #[.bool false,.int .i64 0,.int .i64 0,.slice none 0 0,.slice none 0 0] 29 (0,0))) 0 (.bool r0.1) (cs':= #[.bool r0.1,.int .i64 0,.int .i64 0,.slice none 0 0,.slice none 0 0]) rfl) 1 (.int .i64 r0.2.1) (cs':= #[.bool r0.1,.int .i64 r0.2.1,.int .i64 0,.slice none 0 0,.slice none 0 0]) rfl) 2 (.int .i64 r0.2.2.1) (cs':= #[.bool r0.1,.int .i64 r0.2.1,.int .i64 r0.2.2.1,.slice none 0 0,.slice none 0 0]) rfl) 3 (.slice fS r0.2.2.2.1.length fT) (cs':= #[.bool r0.1,.int .i64 r0.2.1,.int .i64 r0.2.2.1,.slice fS r0.2.2.2.1.length fT,.slice none 0 0]) rfl) 4 (.slice gi r0.2.2.2.2.length gj) (cs':= #[.bool r0.1,.int .i64 r0.2.1,.int .i64 r0.2.2.1,.slice fS r0.2.2.2.1.length fT,.slice gi r0.2.2.2.2.length gj]) rfl) (fun h=>h);have eU:=Aside0.mk K_;clear K_;replace eV:=Aside0.mk (gh.tr eV.out T_.out (fun _ _ h=>h));replace fh:=Aside0.mk (fc.tr fh.out T_.out (fun _ _ h=>h));have lJ:=Aside0.mk o_;have sS:Aside0 (∀b,b∈Su->w4.heap.size+1<=b):=⟨fun b h=>by have h9:=g_ b h;simp only [xQ] at h9;omega⟩;have wD:Aside0 (∀b,b∈Su->b<w5.heap.size):=⟨gh.lt o_⟩;have a1Q:Aside0 (∀b,b∈Su->w.heap.size<=b):=⟨fun b h=>by have h9:=HB4.out.size;have h8:=sS.out b h;omega⟩;(have s_:w4.heap.size+1<=w5.heap.size:=by have h9:=t_.size;simp only [xQ] at h9;omega);have ST5:=Aside0.mk trivial;clear t_ T_ HB4 wC o_ g_)|(go_at_call 8;have tok:=ST5;(with_reducible refine (toII_c (dO.out.past MR.out) (HG.out.2.1) (by repeat (first|(with_reducible exact Tr.refl _ _)|(with_reducible apply Tr.drew)|(with_reducible apply Tr.drewN)|(with_reducible refine Tr.set ?_ (Nat.le_refl _) _)|(with_reducible apply Tr.alloc)))).mono ?_);clear tok ST5;rintro e w6 ⟨v5_A0,v5_c0,Sv,rfl,o_,g_,t_⟩;have T_:Aside0 (Tr (fun _=>False) w5 w6):=⟨eK.gN (by repeat (first|(with_reducible exact Tr.refl _ _)|(with_reducible apply Tr.drew)|(with_reducible apply Tr.drewN)|(with_reducible refine Tr.set ?_ (Nat.le_refl _) _)|(with_reducible apply Tr.alloc))) t_⟩;have MS:Aside0 (Below w.heap.size w w6):=⟨Tr.fL MR.out T_.out (fun _ h=>h.elim)⟩;have Kf:Aside0 (Below w4.heap.size w4 w6):=⟨Tr.fL CJ.out T_.out (fun _ h=>h.elim)⟩;replace eU:Aside0 (w6.heap[w4.heap.size]? =some (.cells #[.bool r0.1,.int .i64 r0.2.1,.int .i64 r0.2.2.1,.slice fS r0.2.2.2.1.length fT,.slice gi r0.2.2.2.2.length gj] 29 (0,0))):=⟨T_.out.blk eU.out (fun h=>h)⟩;replace eV:=Aside0.mk (gh.tr eV.out T_.out (fun _ _ h=>h));replace fh:=Aside0.mk (fc.tr fh.out T_.out (fun _ _ h=>h));replace lJ:=Aside0.mk (gh.tr lJ.out T_.out (fun _ _ h=>h));have lK:=Aside0.mk o_;have sU:Aside0 (∀b,b∈Sv->w5.heap.size<=b):=⟨fun b h=>Nat.le_trans ((by repeat (first|(with_reducible exact Tr.refl _ _)|(with_reducible apply Tr.drew)|(with_reducible apply Tr.drewN)|(with_reducible refine Tr.set ?_ (Nat.le_refl _) _)|(with_reducible apply Tr.alloc))):eK w5 _).size (g_ b h)⟩;have wE:Aside0 (∀b,b∈Sv->b<w6.heap.size):=⟨fc.lt o_⟩;have a1R:Aside0 (∀b,b∈Sv->w.heap.size<=b):=⟨fun b h=>by have h9:=MR.out.size;have h8:=sU.out b h;omega⟩;have s_:w5.heap.size<=w6.heap.size:=T_.out.size;have ST6:=Aside0.mk trivial;clear t_ T_ MR CJ o_ g_)|(go_at_call 9;have tok:=ST6;(with_reducible refine (HIM.out w6 _ _ _ _ _ (by repeat (first|(with_reducible exact Tr.refl _ _)|(with_reducible apply Tr.drew)|(with_reducible apply Tr.drewN)|(with_reducible refine Tr.set ?_ (Nat.le_refl _) _)|(with_reducible apply Tr.alloc))) (oI.rd lJ.out) (wo.rd lK.out)).mono ?_);clear tok ST6;rintro e w7 ⟨gG,gH,gX,gY,Fp,rfl,MT,UU,t_⟩;have T_:Aside0 (Tr (fun _=>False) w6 w7):=⟨eK.gN (by repeat (first|(with_reducible exact Tr.refl _ _)|(with_reducible apply Tr.drew)|(with_reducible apply Tr.drewN)|(with_reducible refine Tr.set ?_ (Nat.le_refl _) _)|(with_reducible apply Tr.alloc))) t_⟩;have UW:Aside0 (Below w.heap.size w w7):=⟨Tr.fL MS.out T_.out (fun _ h=>h.elim)⟩;have HS7:Aside0 (Below w4.heap.size w4 w7):=⟨Tr.fL Kf.out T_.out (fun _ h=>h.elim)⟩;replace eU:Aside0 (w7.heap[w4.heap.size]? =some (.cells #[.bool r0.1,.int .i64 r0.2.1,.int .i64 r0.2.2.1,.slice fS r0.2.2.2.1.length fT,.slice gi r0.2.2.2.2.length gj] 29 (0,0))):=⟨T_.out.blk eU.out (fun h=>h)⟩;replace eV:=Aside0.mk (gh.tr eV.out T_.out (fun _ _ h=>h));replace fh:=Aside0.mk (fc.tr fh.out T_.out (fun _ _ h=>h));replace lJ:=Aside0.mk (gh.tr lJ.out T_.out (fun _ _ h=>h));replace lK:=Aside0.mk (fc.tr lK.out T_.out (fun _ _ h=>h));have gZ:=Aside0.mk MT;have ot:Aside0 (∀b,b∈Fp->w6.heap.size<=b):=⟨fun b h=>Nat.le_trans ((by repeat (first|(with_reducible exact Tr.refl _ _)|(with_reducible apply Tr.drew)|(with_reducible apply Tr.drewN)|(with_reducible refine Tr.set ?_ (Nat.le_refl _) _)|(with_reducible apply Tr.alloc))):eK w6 _).size (UU b h)⟩;have rj:Aside0 (∀b,b∈Fp->b<w7.heap.size):=⟨yt.lt MT⟩;have PZ:Aside0 (∀b,b∈Fp->w.heap.size<=b):=⟨fun b h=>by have h9:=MS.out.size;have h8:=ot.out b h;omega⟩;have s_:w6.heap.size<=w7.heap.size:=T_.out.size;have a6W:w4.heap.size<w7.heap.size:=aZ eU.out;have Zg:w7.cell? ⟨w4.heap.size,0,none⟩=some (.bool r0.1):=(af eU.out 0).trans rfl;have Zh:w7.cell? ⟨w4.heap.size,1,none⟩=some (.int .i64 r0.2.1):=(af eU.out 1).trans rfl;have Zi:w7.cell? ⟨w4.heap.size,2,none⟩=some (.int .i64 r0.2.2.1):=(af eU.out 2).trans rfl;have Zj:w7.cell? ⟨w4.heap.size,3,none⟩=some (.slice fS r0.2.2.2.1.length fT):=(af eU.out 3).trans rfl;have Zk:w7.cell? ⟨w4.heap.size,4,none⟩=some (.slice gi r0.2.2.2.2.length gj):=(af eU.out 4).trans rfl;have ST7:=Aside0.mk trivial;clear t_ T_ MS Kf MT UU)|(go_at_call 10;have tok:=ST7;(with_reducible refine (Sl (oV.rd gZ.out) (Il.out.past HS7.out) (HG.out.2.2.1) (by repeat (first|(with_reducible exact Tr.refl _ _)|(with_reducible apply Tr.drew)|(with_reducible apply Tr.drewN)|(with_reducible refine Tr.set ?_ (Nat.le_refl _) _)|(with_reducible apply Tr.alloc)))).mono ?_);clear tok ST7 a6W Zg Zh Zi Zj Zk;rintro e w8 ⟨rfl,t_⟩;have T_:Aside0 (Tr (fun _=>False) w7 w8):=⟨eK.gN (by repeat (first|(with_reducible exact Tr.refl _ _)|(with_reducible apply Tr.drew)|(with_reducible apply Tr.drewN)|(with_reducible refine Tr.set ?_ (Nat.le_refl _) _)|(with_reducible apply Tr.alloc))) t_⟩;have uo:Aside0 (Below w.heap.size w w8):=⟨Tr.fL UW.out T_.out (fun _ h=>h.elim)⟩;have HS8:Aside0 (Below w4.heap.size w4 w8):=⟨Tr.fL HS7.out T_.out (fun _ h=>h.elim)⟩;replace eU:Aside0 (w8.heap[w4.heap.size]? =some (.cells #[.bool r0.1,.int .i64 r0.2.1,.int .i64 r0.2.2.1,.slice fS r0.2.2.2.1.length fT,.slice gi r0.2.2.2.2.length gj] 29 (0,0))):=⟨T_.out.blk eU.out (fun h=>h)⟩;have K_:w8.heap[w7.heap.size]? =some (.cells #[.bool r0.1,.int .i64 r0.2.1,.int .i64 r0.2.2.1,.slice gG r0.2.2.2.1.length gH,.slice gX r0.2.2.2.2.length gY] 29 (0,0)):=t_.blk (by first|exact di _ _|exact aK (aK (aK (aK (aK (di _ (.cells #[.bool false,.int .i64 0,.int .i64 0,.slice none 0 0,.slice none 0 0] 29 (0,0))) 0 (.bool r0.1) (cs':= #[.bool r0.1,.int .i64 0,.int .i64 0,.slice none 0 0,.slice none 0 0]) rfl) 1 (.int .i64 r0.2.1) (cs':= #[.bool r0.1,.int .i64 r0.2.1,.int .i64 0,.slice none 0 0,.slice none 0 0]) rfl) 2 (.int .i64 r0.2.2.1) (cs':= #[.bool r0.1,.int .i64 r0.2.1,.int .i64 r0.2.2.1,.slice none 0 0,.slice none 0 0]) rfl) 3 (.slice gG r0.2.2.2.1.length gH) (cs':= #[.bool r0.1,.int .i64 r0.2.1,.int .i64 r0.2.2.1,.slice gG r0.2.2.2.1.length gH,.slice none 0 0]) rfl) 4 (.slice gX r0.2.2.2.2.length gY) (cs':= #[.bool r0.1,.int .i64 r0.2.1,.int .i64 r0.2.2.1,.slice gG r0.2.2.2.1.length gH,.slice gX r0.2.2.2.2.length gY]) rfl) (fun h=>h);have fD:=Aside0.mk K_;clear K_;replace eV:=Aside0.mk (gh.tr eV.out T_.out (fun _ _ h=>h));replace fh:=Aside0.mk (fc.tr fh.out T_.out (fun _ _ h=>h));replace lJ:=Aside0.mk (gh.tr lJ.out T_.out (fun _ _ h=>h));replace lK:=Aside0.mk (fc.tr lK.out T_.out (fun _ _ h=>h));replace gZ:=Aside0.mk (yt.tr gZ.out T_.out (fun _ _ h=>h));(have s_:w7.heap.size+1<=w8.heap.size:=by have h9:=t_.size;simp only [xQ] at h9;omega);have ST8:=Aside0.mk trivial;clear t_ T_ UW HS7)|(go_at_call 7;have tok:=ST8;(with_reducible refine (toI_c (lG.out.past uo.out) (HG.out.1) (by repeat (first|(with_reducible exact Tr.refl _ _)|(with_reducible apply Tr.drew)|(with_reducible apply Tr.drewN)|(with_reducible refine Tr.set ?_ (Nat.le_refl _) _)|(with_reducible apply Tr.alloc)))).mono ?_);clear tok ST8;rintro e w9 ⟨v7_A0,v7_c0,Zl,rfl,o_,g_,t_⟩;have T_:Aside0 (Tr (fun _=>False) w8 w9):=⟨eK.gN (by repeat (first|(with_reducible exact Tr.refl _ _)|(with_reducible apply Tr.drew)|(with_reducible apply Tr.drewN)|(with_reducible refine Tr.set ?_ (Nat.le_refl _) _)|(with_reducible apply Tr.alloc))) t_⟩;have Fq:Aside0 (Below w.heap.size w w9):=⟨Tr.fL uo.out T_.out (fun _ h=>h.elim)⟩;have HS9:Aside0 (Below w4.heap.size w4 w9):=⟨Tr.fL HS8.out T_.out (fun _ h=>h.elim)⟩;replace eU:Aside0 (w9.heap[w4.heap.size]? =some (.cells #[.bool r0.1,.int .i64 r0.2.1,.int .i64 r0.2.2.1,.slice fS r0.2.2.2.1.length fT,.slice gi r0.2.2.2.2.length gj] 29 (0,0))):=⟨T_.out.blk eU.out (fun h=>h)⟩;replace fD:Aside0 (w9.heap[w7.heap.size]? =some (.cells #[.bool r0.1,.int .i64 r0.2.1,.int .i64 r0.2.2.1,.slice gG r0.2.2.2.1.length gH,.slice gX r0.2.2.2.2.length gY] 29 (0,0))):=⟨T_.out.blk fD.out (fun h=>h)⟩;replace eV:=Aside0.mk (gh.tr eV.out T_.out (fun _ _ h=>h));replace fh:=Aside0.mk (fc.tr fh.out T_.out (fun _ _ h=>h));replace lJ:=Aside0.mk (gh.tr lJ.out T_.out (fun _ _ h=>h));replace lK:=Aside0.mk (fc.tr lK.out T_.out (fun _ _ h=>h));replace gZ:=Aside0.mk (yt.tr gZ.out T_.out (fun _ _ h=>h));have iV:=Aside0.mk o_;have LA:Aside0 (∀b,b∈Zl->w8.heap.size<=b):=⟨fun b h=>Nat.le_trans ((by repeat (first|(with_reducible exact Tr.refl _ _)|(with_reducible apply Tr.drew)|(with_reducible apply Tr.drewN)|(with_reducible refine Tr.set ?_ (Nat.le_refl _) _)|(with_reducible apply Tr.alloc))):eK w8 _).size (g_ b h)⟩;have Sw:Aside0 (∀b,b∈Zl->b<w9.heap.size):=⟨gh.lt o_⟩;have HL_v7:Aside0 (∀b,b∈Zl->w.heap.size<=b):=⟨fun b h=>by have h9:=uo.out.size;have h8:=LA.out b h;omega⟩;have s_:w8.heap.size<=w9.heap.size:=T_.out.size;have ST9:=Aside0.mk trivial;clear t_ T_ uo HS8 o_ g_)|(go_at_call 11;have tok:=ST9;(with_reducible refine (b0D (oI.rd lJ.out) (oI.rd iV.out) (HG.out.1) (by repeat (first|(with_reducible exact Tr.refl _ _)|(with_reducible apply Tr.drew)|(with_reducible apply Tr.drewN)|(with_reducible refine Tr.set ?_ (Nat.le_refl _) _)|(with_reducible apply Tr.alloc)))).mono ?_);clear tok ST9;rintro e jY ⟨rfl,t_⟩;have T_:Aside0 (Tr (fun _=>False) w9 jY):=⟨eK.gN (by repeat (first|(with_reducible exact Tr.refl _ _)|(with_reducible apply Tr.drew)|(with_reducible apply Tr.drewN)|(with_reducible refine Tr.set ?_ (Nat.le_refl _) _)|(with_reducible apply Tr.alloc))) t_⟩;have vF:Aside0 (Below w.heap.size w jY):=⟨Tr.fL Fq.out T_.out (fun _ h=>h.elim)⟩;have a6X:Aside0 (Below w4.heap.size w4 jY):=⟨Tr.fL HS9.out T_.out (fun _ h=>h.elim)⟩;replace eU:Aside0 (jY.heap[w4.heap.size]? =some (.cells #[.bool r0.1,.int .i64 r0.2.1,.int .i64 r0.2.2.1,.slice fS r0.2.2.2.1.length fT,.slice gi r0.2.2.2.2.length gj] 29 (0,0))):=⟨T_.out.blk eU.out (fun h=>h)⟩;replace fD:Aside0 (jY.heap[w7.heap.size]? =some (.cells #[.bool r0.1,.int .i64 r0.2.1,.int .i64 r0.2.2.1,.slice gG r0.2.2.2.1.length gH,.slice gX r0.2.2.2.2.length gY] 29 (0,0))):=⟨T_.out.blk fD.out (fun h=>h)⟩;replace eV:=Aside0.mk (gh.tr eV.out T_.out (fun _ _ h=>h));replace fh:=Aside0.mk (fc.tr fh.out T_.out (fun _ _ h=>h));replace lJ:=Aside0.mk (gh.tr lJ.out T_.out (fun _ _ h=>h));replace lK:=Aside0.mk (fc.tr lK.out T_.out (fun _ _ h=>h));replace gZ:=Aside0.mk (yt.tr gZ.out T_.out (fun _ _ h=>h));replace iV:=Aside0.mk (gh.tr iV.out T_.out (fun _ _ h=>h));have s_:w9.heap.size<=jY.heap.size:=T_.out.size;have a6Y:=Aside0.mk trivial;clear t_ T_ Fq HS9)|(go_at_call 8;have tok:=a6Y;(with_reducible refine (toII_c (dO.out.past vF.out) (HG.out.2.1) (by repeat (first|(with_reducible exact Tr.refl _ _)|(with_reducible apply Tr.drew)|(with_reducible apply Tr.drewN)|(with_reducible refine Tr.set ?_ (Nat.le_refl _) _)|(with_reducible apply Tr.alloc)))).mono ?_);clear tok a6Y;rintro e ja ⟨v8_A0,v8_c0,Zm,rfl,o_,g_,t_⟩;have T_:Aside0 (Tr (fun _=>False) jY ja):=⟨eK.gN (by repeat (first|(with_reducible exact Tr.refl _ _)|(with_reducible apply Tr.drew)|(with_reducible apply Tr.drewN)|(with_reducible refine Tr.set ?_ (Nat.le_refl _) _)|(with_reducible apply Tr.alloc))) t_⟩;have Zn:Aside0 (Below w.heap.size w ja):=⟨Tr.fL vF.out T_.out (fun _ h=>h.elim)⟩;have a6Z:Aside0 (Below w4.heap.size w4 ja):=⟨Tr.fL a6X.out T_.out (fun _ h=>h.elim)⟩;replace eU:Aside0 (ja.heap[w4.heap.size]? =some (.cells #[.bool r0.1,.int .i64 r0.2.1,.int .i64 r0.2.2.1,.slice fS r0.2.2.2.1.length fT,.slice gi r0.2.2.2.2.length gj] 29 (0,0))):=⟨T_.out.blk eU.out (fun h=>h)⟩;replace fD:Aside0 (ja.heap[w7.heap.size]? =some (.cells #[.bool r0.1,.int .i64 r0.2.1,.int .i64 r0.2.2.1,.slice gG r0.2.2.2.1.length gH,.slice gX r0.2.2.2.2.length gY] 29 (0,0))):=⟨T_.out.blk fD.out (fun h=>h)⟩;replace eV:=Aside0.mk (gh.tr eV.out T_.out (fun _ _ h=>h));replace fh:=Aside0.mk (fc.tr fh.out T_.out (fun _ _ h=>h));replace lJ:=Aside0.mk (gh.tr lJ.out T_.out (fun _ _ h=>h));replace lK:=Aside0.mk (fc.tr lK.out T_.out (fun _ _ h=>h));replace gZ:=Aside0.mk (yt.tr gZ.out T_.out (fun _ _ h=>h));replace iV:=Aside0.mk (gh.tr iV.out T_.out (fun _ _ h=>h));have kn:=Aside0.mk o_;have LB:Aside0 (∀b,b∈Zm->jY.heap.size<=b):=⟨fun b h=>Nat.le_trans ((by repeat (first|(with_reducible exact Tr.refl _ _)|(with_reducible apply Tr.drew)|(with_reducible apply Tr.drewN)|(with_reducible refine Tr.set ?_ (Nat.le_refl _) _)|(with_reducible apply Tr.alloc))):eK jY _).size (g_ b h)⟩;have Sy:Aside0 (∀b,b∈Zm->b<ja.heap.size):=⟨fc.lt o_⟩;have HL_v8:Aside0 (∀b,b∈Zm->w.heap.size<=b):=⟨fun b h=>by have h9:=vF.out.size;have h8:=LB.out b h;omega⟩;have s_:jY.heap.size<=ja.heap.size:=T_.out.size;have a7a:=Aside0.mk trivial;clear t_ T_ vF a6X o_ g_)|(go_at_call 12;have tok:=a7a;(with_reducible refine (a6D (wo.rd lK.out) (wo.rd kn.out) (HG.out.2.1) (by repeat (first|(with_reducible exact Tr.refl _ _)|(with_reducible apply Tr.drew)|(with_reducible apply Tr.drewN)|(with_reducible refine Tr.set ?_ (Nat.le_refl _) _)|(with_reducible apply Tr.alloc)))).mono ?_);clear tok a7a;rintro e jN ⟨rfl,t_⟩;have T_:Aside0 (Tr (fun _=>False) ja jN):=⟨eK.gN (by repeat (first|(with_reducible exact Tr.refl _ _)|(with_reducible apply Tr.drew)|(with_reducible apply Tr.drewN)|(with_reducible refine Tr.set ?_ (Nat.le_refl _) _)|(with_reducible apply Tr.alloc))) t_⟩;have Zo:Aside0 (Below w.heap.size w jN):=⟨Tr.fL Zn.out T_.out (fun _ h=>h.elim)⟩;have a7b:Aside0 (Below w4.heap.size w4 jN):=⟨Tr.fL a6Z.out T_.out (fun _ h=>h.elim)⟩;replace eU:Aside0 (jN.heap[w4.heap.size]? =some (.cells #[.bool r0.1,.int .i64 r0.2.1,.int .i64 r0.2.2.1,.slice fS r0.2.2.2.1.length fT,.slice gi r0.2.2.2.2.length gj] 29 (0,0))):=⟨T_.out.blk eU.out (fun h=>h)⟩;replace fD:Aside0 (jN.heap[w7.heap.size]? =some (.cells #[.bool r0.1,.int .i64 r0.2.1,.int .i64 r0.2.2.1,.slice gG r0.2.2.2.1.length gH,.slice gX r0.2.2.2.2.length gY] 29 (0,0))):=⟨T_.out.blk fD.out (fun h=>h)⟩;replace eV:=Aside0.mk (gh.tr eV.out T_.out (fun _ _ h=>h));replace fh:=Aside0.mk (fc.tr fh.out T_.out (fun _ _ h=>h));replace lJ:=Aside0.mk (gh.tr lJ.out T_.out (fun _ _ h=>h));replace lK:=Aside0.mk (fc.tr lK.out T_.out (fun _ _ h=>h));replace gZ:=Aside0.mk (yt.tr gZ.out T_.out (fun _ _ h=>h));replace iV:=Aside0.mk (gh.tr iV.out T_.out (fun _ _ h=>h));replace kn:=Aside0.mk (fc.tr kn.out T_.out (fun _ _ h=>h));have s_:ja.heap.size<=jN.heap.size:=T_.out.size;have a7c:=Aside0.mk trivial;clear t_ T_ Zn a6Z)|(go_at_call 13;have tok:=a7c;(with_reducible refine (a3H (w:=w) HN1.out lJ.out a1Q.out Zo.out (HG.out.1) (by have:=HBD.out;omega) (by repeat (first|(with_reducible exact Tr.refl _ _)|(with_reducible apply Tr.drew)|(with_reducible apply Tr.drewN)|(with_reducible refine Tr.set ?_ (Nat.le_refl _) _)|(with_reducible apply Tr.alloc)))).mono ?_);clear tok a7c;rintro e lS ⟨rfl,⟨b2_v4,o_,g_⟩,t_⟩;have T_:Aside0 (Tr (·∈Su) jN lS):=⟨eK.gN (by repeat (first|(with_reducible exact Tr.refl _ _)|(with_reducible apply Tr.drew)|(with_reducible apply Tr.drewN)|(with_reducible refine Tr.set ?_ (Nat.le_refl _) _)|(with_reducible apply Tr.alloc))) t_⟩;have Zp:Aside0 (Below w.heap.size w lS):=⟨Tr.fL Zo.out T_.out (fun b h=>a1Q.out b h)⟩;have a7d:Aside0 (Below w4.heap.size w4 lS):=⟨Tr.fL a7b.out T_.out (fun b h=>by have:=sS.out b h;omega)⟩;replace eU:Aside0 (lS.heap[w4.heap.size]? =some (.cells #[.bool r0.1,.int .i64 r0.2.1,.int .i64 r0.2.2.1,.slice fS r0.2.2.2.1.length fT,.slice gi r0.2.2.2.2.length gj] 29 (0,0))):=⟨T_.out.blk eU.out (fun h=>by have:=wD.out _ h;have:=sS.out _ h;omega)⟩;replace fD:Aside0 (lS.heap[w7.heap.size]? =some (.cells #[.bool r0.1,.int .i64 r0.2.1,.int .i64 r0.2.2.1,.slice gG r0.2.2.2.1.length gH,.slice gX r0.2.2.2.2.length gY] 29 (0,0))):=⟨T_.out.blk fD.out (fun h=>by have:=wD.out _ h;have:=sS.out _ h;omega)⟩;replace eV:=Aside0.mk (gh.tr eV.out T_.out (fun b h h'=>by first|(have:=Lx.out b h;have:=wD.out b h';omega)|(have:=Sr.out b h;have:=sS.out b h';omega)));replace fh:=Aside0.mk (fc.tr fh.out T_.out (fun b h h'=>by first|(have:=Lz.out b h;have:=wD.out b h';omega)|(have:=Ss.out b h;have:=sS.out b h';omega)));replace lK:=Aside0.mk (fc.tr lK.out T_.out (fun b h h'=>by first|(have:=sU.out b h;have:=wD.out b h';omega)|(have:=wE.out b h;have:=sS.out b h';omega)));replace gZ:=Aside0.mk (yt.tr gZ.out T_.out (fun b h h'=>by first|(have:=ot.out b h;have:=wD.out b h';omega)|(have:=rj.out b h;have:=sS.out b h';omega)));replace iV:=Aside0.mk (gh.tr iV.out T_.out (fun b h h'=>by first|(have:=LA.out b h;have:=wD.out b h';omega)|(have:=Sw.out b h;have:=sS.out b h';omega)));replace kn:=Aside0.mk (fc.tr kn.out T_.out (fun b h h'=>by first|(have:=LB.out b h;have:=wD.out b h';omega)|(have:=Sy.out b h;have:=sS.out b h';omega)));have s_:jN.heap.size<=lS.heap.size:=T_.out.size;have a7e:=Aside0.mk trivial;clear t_ T_ Zo a7b lJ o_ g_)|(go_at_call 14;have tok:=a7e;(with_reducible refine (YP (w:=w) HN2.out lK.out a1R.out Zp.out (HG.out.2.1) (by have:=HBD.out;omega) (by repeat (first|(with_reducible exact Tr.refl _ _)|(with_reducible apply Tr.drew)|(with_reducible apply Tr.drewN)|(with_reducible refine Tr.set ?_ (Nat.le_refl _) _)|(with_reducible apply Tr.alloc)))).mono ?_);clear tok a7e;rintro e nh ⟨rfl,⟨b2_v5,o_,g_⟩,t_⟩;have T_:Aside0 (Tr (·∈Sv) lS nh):=⟨eK.gN (by repeat (first|(with_reducible exact Tr.refl _ _)|(with_reducible apply Tr.drew)|(with_reducible apply Tr.drewN)|(with_reducible refine Tr.set ?_ (Nat.le_refl _) _)|(with_reducible apply Tr.alloc))) t_⟩;have a7f:Aside0 (Below w.heap.size w nh):=⟨Tr.fL Zp.out T_.out (fun b h=>a1R.out b h)⟩;have Zq:Aside0 (Below w4.heap.size w4 nh):=⟨Tr.fL a7d.out T_.out (fun b h=>by have:=sU.out b h;omega)⟩;replace eU:Aside0 (nh.heap[w4.heap.size]? =some (.cells #[.bool r0.1,.int .i64 r0.2.1,.int .i64 r0.2.2.1,.slice fS r0.2.2.2.1.length fT,.slice gi r0.2.2.2.2.length gj] 29 (0,0))):=⟨T_.out.blk eU.out (fun h=>by have:=wE.out _ h;have:=sU.out _ h;omega)⟩;replace fD:Aside0 (nh.heap[w7.heap.size]? =some (.cells #[.bool r0.1,.int .i64 r0.2.1,.int .i64 r0.2.2.1,.slice gG r0.2.2.2.1.length gH,.slice gX r0.2.2.2.2.length gY] 29 (0,0))):=⟨T_.out.blk fD.out (fun h=>by have:=wE.out _ h;have:=sU.out _ h;omega)⟩;replace eV:=Aside0.mk (gh.tr eV.out T_.out (fun b h h'=>by first|(have:=Lx.out b h;have:=wE.out b h';omega)|(have:=Sr.out b h;have:=sU.out b h';omega)));replace fh:=Aside0.mk (fc.tr fh.out T_.out (fun b h h'=>by first|(have:=Lz.out b h;have:=wE.out b h';omega)|(have:=Ss.out b h;have:=sU.out b h';omega)));replace gZ:=Aside0.mk (yt.tr gZ.out T_.out (fun b h h'=>by first|(have:=ot.out b h;have:=wE.out b h';omega)|(have:=rj.out b h;have:=sU.out b h';omega)));replace iV:=Aside0.mk (gh.tr iV.out T_.out (fun b h h'=>by first|(have:=LA.out b h;have:=wE.out b h';omega)|(have:=Sw.out b h;have:=sU.out b h';omega)));replace kn:=Aside0.mk (fc.tr kn.out T_.out (fun b h h'=>by first|(have:=LB.out b h;have:=wE.out b h';omega)|(have:=Sy.out b h;have:=sU.out b h';omega)));have s_:lS.heap.size<=nh.heap.size:=T_.out.size;have a4j:w7.heap.size<nh.heap.size:=aZ fD.out;have UX:nh.cell? ⟨w7.heap.size,0,none⟩=some (.bool r0.1):=(af fD.out 0).trans rfl;have UY:nh.cell? ⟨w7.heap.size,1,none⟩=some (.int .i64 r0.2.1):=(af fD.out 1).trans rfl;have UZ:nh.cell? ⟨w7.heap.size,2,none⟩=some (.int .i64 r0.2.2.1):=(af fD.out 2).trans rfl;have Va:nh.cell? ⟨w7.heap.size,3,none⟩=some (.slice gG r0.2.2.2.1.length gH):=(af fD.out 3).trans rfl;have Vb:nh.cell? ⟨w7.heap.size,4,none⟩=some (.slice gX r0.2.2.2.2.length gY):=(af fD.out 4).trans rfl;have a4k:w4.heap.size<nh.heap.size:=aZ eU.out;have Vc:nh.cell? ⟨w4.heap.size,0,none⟩=some (.bool r0.1):=(af eU.out 0).trans rfl;have Vd:nh.cell? ⟨w4.heap.size,1,none⟩=some (.int .i64 r0.2.1):=(af eU.out 1).trans rfl;have Ve:nh.cell? ⟨w4.heap.size,2,none⟩=some (.int .i64 r0.2.2.1):=(af eU.out 2).trans rfl;have Vf:nh.cell? ⟨w4.heap.size,3,none⟩=some (.slice fS r0.2.2.2.1.length fT):=(af eU.out 3).trans rfl;have Vg:nh.cell? ⟨w4.heap.size,4,none⟩=some (.slice gi r0.2.2.2.2.length gj):=(af eU.out 4).trans rfl;have a7g:=Aside0.mk trivial;clear t_ T_ Zp a7d lK o_ g_)|(go_at_call 10;have tok:=a7g;(with_reducible refine (Sl (oV.rd gZ.out) (Il.out.past Zq.out) (HG.out.2.2.1) (by repeat (first|(with_reducible exact Tr.refl _ _)|(with_reducible apply Tr.drew)|(with_reducible apply Tr.drewN)|(with_reducible refine Tr.set ?_ (Nat.le_refl _) _)|(with_reducible apply Tr.alloc)))).mono ?_);clear tok a7g a4j UX UY UZ Va Vb a4k Vc Vd Ve Vf Vg;rintro e rJ ⟨rfl,t_⟩;have T_:Aside0 (Tr (fun _=>False) nh rJ):=⟨eK.gN (by repeat (first|(with_reducible exact Tr.refl _ _)|(with_reducible apply Tr.drew)|(with_reducible apply Tr.drewN)|(with_reducible refine Tr.set ?_ (Nat.le_refl _) _)|(with_reducible apply Tr.alloc))) t_⟩;have Zr:Aside0 (Below w.heap.size w rJ):=⟨Tr.fL a7f.out T_.out (fun _ h=>h.elim)⟩;have a7h:Aside0 (Below w4.heap.size w4 rJ):=⟨Tr.fL Zq.out T_.out (fun _ h=>h.elim)⟩;replace eU:Aside0 (rJ.heap[w4.heap.size]? =some (.cells #[.bool r0.1,.int .i64 r0.2.1,.int .i64 r0.2.2.1,.slice fS r0.2.2.2.1.length fT,.slice gi r0.2.2.2.2.length gj] 29 (0,0))):=⟨T_.out.blk eU.out (fun h=>h)⟩;replace fD:Aside0 (rJ.heap[w7.heap.size]? =some (.cells #[.bool r0.1,.int .i64 r0.2.1,.int .i64 r0.2.2.1,.slice gG r0.2.2.2.1.length gH,.slice gX r0.2.2.2.2.length gY] 29 (0,0))):=⟨T_.out.blk fD.out (fun h=>h)⟩;replace eV:=Aside0.mk (gh.tr eV.out T_.out (fun _ _ h=>h));replace fh:=Aside0.mk (fc.tr fh.out T_.out (fun _ _ h=>h));replace gZ:=Aside0.mk (yt.tr gZ.out T_.out (fun _ _ h=>h));replace iV:=Aside0.mk (gh.tr iV.out T_.out (fun _ _ h=>h));replace kn:=Aside0.mk (fc.tr kn.out T_.out (fun _ _ h=>h));have s_:nh.heap.size<=rJ.heap.size:=T_.out.size;have a4l:w7.heap.size<rJ.heap.size:=aZ fD.out;have Vh:rJ.cell? ⟨w7.heap.size,0,none⟩=some (.bool r0.1):=(af fD.out 0).trans rfl;have Vi:rJ.cell? ⟨w7.heap.size,1,none⟩=some (.int .i64 r0.2.1):=(af fD.out 1).trans rfl;have Vj:rJ.cell? ⟨w7.heap.size,2,none⟩=some (.int .i64 r0.2.2.1):=(af fD.out 2).trans rfl;have Vk:rJ.cell? ⟨w7.heap.size,3,none⟩=some (.slice gG r0.2.2.2.1.length gH):=(af fD.out 3).trans rfl;have Vl:rJ.cell? ⟨w7.heap.size,4,none⟩=some (.slice gX r0.2.2.2.2.length gY):=(af fD.out 4).trans rfl;have a7i:=Aside0.mk trivial;clear t_ T_ a7f Zq)|(go_at_call 15;have tok:=a7i;(with_reducible refine (a4g (w:=w) HM1.out gZ.out PZ.out Zr.out (HG.out.2.2.1) (by have:=HBD.out;omega) (by repeat (first|(with_reducible exact Tr.refl _ _)|(with_reducible apply Tr.drew)|(with_reducible apply Tr.drewN)|(with_reducible refine Tr.set ?_ (Nat.le_refl _) _)|(with_reducible apply Tr.alloc)))).mono ?_);clear tok a7i a4l Vh Vi Vj Vk Vl;rintro e jb ⟨rfl,⟨b2_u6_0,o_,g_⟩,t_⟩;have T_:Aside0 (Tr (·∈Fp) rJ jb):=⟨eK.gN (by repeat (first|(with_reducible exact Tr.refl _ _)|(with_reducible apply Tr.drew)|(with_reducible apply Tr.drewN)|(with_reducible refine Tr.set ?_ (Nat.le_refl _) _)|(with_reducible apply Tr.alloc))) t_⟩;have a7j:Aside0 (Below w.heap.size w jb):=⟨Tr.fL Zr.out T_.out (fun b h=>PZ.out b h)⟩;have a7k:Aside0 (Below w4.heap.size w4 jb):=⟨Tr.fL a7h.out T_.out (fun b h=>by have:=ot.out b h;omega)⟩;replace eU:Aside0 (jb.heap[w4.heap.size]? =some (.cells #[.bool r0.1,.int .i64 r0.2.1,.int .i64 r0.2.2.1,.slice fS r0.2.2.2.1.length fT,.slice gi r0.2.2.2.2.length gj] 29 (0,0))):=⟨T_.out.blk eU.out (fun h=>by have:=rj.out _ h;have:=ot.out _ h;omega)⟩;replace fD:Aside0 (jb.heap[w7.heap.size]? =some (.cells #[.bool r0.1,.int .i64 r0.2.1,.int .i64 r0.2.2.1,.slice gG r0.2.2.2.1.length gH,.slice gX r0.2.2.2.2.length gY] 29 (0,0))):=⟨T_.out.blk fD.out (fun h=>by have:=rj.out _ h;have:=ot.out _ h;omega)⟩;replace eV:=Aside0.mk (gh.tr eV.out T_.out (fun b h h'=>by first|(have:=Lx.out b h;have:=rj.out b h';omega)|(have:=Sr.out b h;have:=ot.out b h';omega)));replace fh:=Aside0.mk (fc.tr fh.out T_.out (fun b h h'=>by first|(have:=Lz.out b h;have:=rj.out b h';omega)|(have:=Ss.out b h;have:=ot.out b h';omega)));replace iV:=Aside0.mk (gh.tr iV.out T_.out (fun b h h'=>by first|(have:=LA.out b h;have:=rj.out b h';omega)|(have:=Sw.out b h;have:=ot.out b h';omega)));replace kn:=Aside0.mk (fc.tr kn.out T_.out (fun b h h'=>by first|(have:=LB.out b h;have:=rj.out b h';omega)|(have:=Sy.out b h;have:=ot.out b h';omega)));have ni:Aside0 (yq jb (mkV 1 r0) gG gH gX gY):=⟨oV.rd o_⟩;have HX_u6_0:=Aside0.mk o_;have HXg_u6_0:=Aside0.mk g_;have s_:rJ.heap.size<=jb.heap.size:=T_.out.size;have a4m:w7.heap.size<jb.heap.size:=aZ fD.out;have Vm:jb.cell? ⟨w7.heap.size,0,none⟩=some (.bool r0.1):=(af fD.out 0).trans rfl;have Vn:jb.cell? ⟨w7.heap.size,1,none⟩=some (.int .i64 r0.2.1):=(af fD.out 1).trans rfl;have Vo:jb.cell? ⟨w7.heap.size,2,none⟩=some (.int .i64 r0.2.2.1):=(af fD.out 2).trans rfl;have Vp:jb.cell? ⟨w7.heap.size,3,none⟩=some (.slice gG r0.2.2.2.1.length gH):=(af fD.out 3).trans rfl;have Vq:jb.cell? ⟨w7.heap.size,4,none⟩=some (.slice gX r0.2.2.2.2.length gY):=(af fD.out 4).trans rfl;have a7l:=Aside0.mk trivial;clear t_ T_ Zr a7h gZ o_ g_)|(go_at_call 16;have tok:=a7l;(with_reducible refine (a4h HM1.out ni.out (HG.out.2.2.1) (by have:=HBD.out;omega) (by repeat (first|(with_reducible exact Tr.refl _ _)|(with_reducible apply Tr.drew)|(with_reducible apply Tr.drewN)|(with_reducible refine Tr.set ?_ (Nat.le_refl _) _)|(with_reducible apply Tr.alloc)))).mono ?_);clear tok a7l a4m Vm Vn Vo Vp Vq;rintro e uq ⟨rfl,t_⟩;have T_:Aside0 (Tr (fun _=>False) jb uq):=⟨eK.gN (by repeat (first|(with_reducible exact Tr.refl _ _)|(with_reducible apply Tr.drew)|(with_reducible apply Tr.drewN)|(with_reducible refine Tr.set ?_ (Nat.le_refl _) _)|(with_reducible apply Tr.alloc))) t_⟩;have SA:Aside0 (Below w.heap.size w uq):=⟨Tr.fL a7j.out T_.out (fun _ h=>h.elim)⟩;have a7m:Aside0 (Below w4.heap.size w4 uq):=⟨Tr.fL a7k.out T_.out (fun _ h=>h.elim)⟩;replace eU:Aside0 (uq.heap[w4.heap.size]? =some (.cells #[.bool r0.1,.int .i64 r0.2.1,.int .i64 r0.2.2.1,.slice fS r0.2.2.2.1.length fT,.slice gi r0.2.2.2.2.length gj] 29 (0,0))):=⟨T_.out.blk eU.out (fun h=>h)⟩;replace fD:Aside0 (uq.heap[w7.heap.size]? =some (.cells #[.bool r0.1,.int .i64 r0.2.1,.int .i64 r0.2.2.1,.slice gG r0.2.2.2.1.length gH,.slice gX r0.2.2.2.2.length gY] 29 (0,0))):=⟨T_.out.blk fD.out (fun h=>h)⟩;replace eV:=Aside0.mk (gh.tr eV.out T_.out (fun _ _ h=>h));replace fh:=Aside0.mk (fc.tr fh.out T_.out (fun _ _ h=>h));replace iV:=Aside0.mk (gh.tr iV.out T_.out (fun _ _ h=>h));replace kn:=Aside0.mk (fc.tr kn.out T_.out (fun _ _ h=>h));replace ni:=Aside0.mk (ni.out.tr T_.out);have s_:jb.heap.size<=uq.heap.size:=T_.out.size;have a7n:=Aside0.mk trivial;clear t_ T_ a7j a7k)|(go_at_call 7;have tok:=a7n;(with_reducible refine (toI_c (lG.out.past SA.out) (HG.out.1) (by repeat (first|(with_reducible exact Tr.refl _ _)|(with_reducible apply Tr.drew)|(with_reducible apply Tr.drewN)|(with_reducible refine Tr.set ?_ (Nat.le_refl _) _)|(with_reducible apply Tr.alloc)))).mono ?_);clear tok a7n;rintro e qf ⟨v9_A0,v9_c0,Zs,rfl,o_,g_,t_⟩;have T_:Aside0 (Tr (fun _=>False) uq qf):=⟨eK.gN (by repeat (first|(with_reducible exact Tr.refl _ _)|(with_reducible apply Tr.drew)|(with_reducible apply Tr.drewN)|(with_reducible refine Tr.set ?_ (Nat.le_refl _) _)|(with_reducible apply Tr.alloc))) t_⟩;have SB:Aside0 (Below w.heap.size w qf):=⟨Tr.fL SA.out T_.out (fun _ h=>h.elim)⟩;have MU:Aside0 (Below w4.heap.size w4 qf):=⟨Tr.fL a7m.out T_.out (fun _ h=>h.elim)⟩;replace eU:Aside0 (qf.heap[w4.heap.size]? =some (.cells #[.bool r0.1,.int .i64 r0.2.1,.int .i64 r0.2.2.1,.slice fS r0.2.2.2.1.length fT,.slice gi r0.2.2.2.2.length gj] 29 (0,0))):=⟨T_.out.blk eU.out (fun h=>h)⟩;replace fD:Aside0 (qf.heap[w7.heap.size]? =some (.cells #[.bool r0.1,.int .i64 r0.2.1,.int .i64 r0.2.2.1,.slice gG r0.2.2.2.1.length gH,.slice gX r0.2.2.2.2.length gY] 29 (0,0))):=⟨T_.out.blk fD.out (fun h=>h)⟩;replace eV:=Aside0.mk (gh.tr eV.out T_.out (fun _ _ h=>h));replace fh:=Aside0.mk (fc.tr fh.out T_.out (fun _ _ h=>h));replace iV:=Aside0.mk (gh.tr iV.out T_.out (fun _ _ h=>h));replace kn:=Aside0.mk (fc.tr kn.out T_.out (fun _ _ h=>h));replace ni:=Aside0.mk (ni.out.tr T_.out);have zm:=Aside0.mk o_;have b0O:Aside0 (∀b,b∈Zs->uq.heap.size<=b):=⟨fun b h=>Nat.le_trans ((by repeat (first|(with_reducible exact Tr.refl _ _)|(with_reducible apply Tr.drew)|(with_reducible apply Tr.drewN)|(with_reducible refine Tr.set ?_ (Nat.le_refl _) _)|(with_reducible apply Tr.alloc))):eK uq _).size (g_ b h)⟩;have HU_v9:Aside0 (∀b,b∈Zs->b<qf.heap.size):=⟨gh.lt o_⟩;have HL_v9:Aside0 (∀b,b∈Zs->w.heap.size<=b):=⟨fun b h=>by have h9:=SA.out.size;have h8:=b0O.out b h;omega⟩;have s_:uq.heap.size<=qf.heap.size:=T_.out.size;have a7o:=Aside0.mk trivial;clear t_ T_ SA a7m o_ g_)|(go_at_call 8;have tok:=a7o;(with_reducible refine (toII_c (dO.out.past SB.out) (HG.out.2.1) (by repeat (first|(with_reducible exact Tr.refl _ _)|(with_reducible apply Tr.drew)|(with_reducible apply Tr.drewN)|(with_reducible refine Tr.set ?_ (Nat.le_refl _) _)|(with_reducible apply Tr.alloc)))).mono ?_);clear tok a7o;rintro e wF ⟨v10_A0,v10_c0,SC,rfl,o_,g_,t_⟩;have T_:Aside0 (Tr (fun _=>False) qf wF):=⟨eK.gN (by repeat (first|(with_reducible exact Tr.refl _ _)|(with_reducible apply Tr.drew)|(with_reducible apply Tr.drewN)|(with_reducible refine Tr.set ?_ (Nat.le_refl _) _)|(with_reducible apply Tr.alloc))) t_⟩;have Zt:Aside0 (Below w.heap.size w wF):=⟨Tr.fL SB.out T_.out (fun _ h=>h.elim)⟩;have a7p:Aside0 (Below w4.heap.size w4 wF):=⟨Tr.fL MU.out T_.out (fun _ h=>h.elim)⟩;replace eU:Aside0 (wF.heap[w4.heap.size]? =some (.cells #[.bool r0.1,.int .i64 r0.2.1,.int .i64 r0.2.2.1,.slice fS r0.2.2.2.1.length fT,.slice gi r0.2.2.2.2.length gj] 29 (0,0))):=⟨T_.out.blk eU.out (fun h=>h)⟩;replace fD:Aside0 (wF.heap[w7.heap.size]? =some (.cells #[.bool r0.1,.int .i64 r0.2.1,.int .i64 r0.2.2.1,.slice gG r0.2.2.2.1.length gH,.slice gX r0.2.2.2.2.length gY] 29 (0,0))):=⟨T_.out.blk fD.out (fun h=>h)⟩;replace eV:=Aside0.mk (gh.tr eV.out T_.out (fun _ _ h=>h));replace fh:=Aside0.mk (fc.tr fh.out T_.out (fun _ _ h=>h));replace iV:=Aside0.mk (gh.tr iV.out T_.out (fun _ _ h=>h));replace kn:=Aside0.mk (fc.tr kn.out T_.out (fun _ _ h=>h));replace zm:=Aside0.mk (gh.tr zm.out T_.out (fun _ _ h=>h));replace ni:=Aside0.mk (ni.out.tr T_.out);have Av:=Aside0.mk o_;have a7q:Aside0 (∀b,b∈SC->qf.heap.size<=b):=⟨fun b h=>Nat.le_trans ((by repeat (first|(with_reducible exact Tr.refl _ _)|(with_reducible apply Tr.drew)|(with_reducible apply Tr.drewN)|(with_reducible refine Tr.set ?_ (Nat.le_refl _) _)|(with_reducible apply Tr.alloc))):eK qf _).size (g_ b h)⟩;have HU_v10:Aside0 (∀b,b∈SC->b<wF.heap.size):=⟨fc.lt o_⟩;have HL_v10:Aside0 (∀b,b∈SC->w.heap.size<=b):=⟨fun b h=>by have h9:=SB.out.size;have h8:=a7q.out b h;omega⟩;have s_:qf.heap.size<=wF.heap.size:=T_.out.size;have a7r:=Aside0.mk trivial;clear t_ T_ SB MU o_ g_)|(go_at_call 9;have tok:=a7r;(with_reducible refine (HIM.out wF _ _ _ _ _ (by repeat (first|(with_reducible exact Tr.refl _ _)|(with_reducible apply Tr.drew)|(with_reducible apply Tr.drewN)|(with_reducible refine Tr.set ?_ (Nat.le_refl _) _)|(with_reducible apply Tr.alloc))) (oI.rd zm.out) (wo.rd Av.out)).mono ?_);clear tok a7r;rintro e kF ⟨zn,zo,DR,DT,Im,rfl,MT,UU,t_⟩;have T_:Aside0 (Tr (fun _=>False) wF kF):=⟨eK.gN (by repeat (first|(with_reducible exact Tr.refl _ _)|(with_reducible apply Tr.drew)|(with_reducible apply Tr.drewN)|(with_reducible refine Tr.set ?_ (Nat.le_refl _) _)|(with_reducible apply Tr.alloc))) t_⟩;have a7s:Aside0 (Below w.heap.size w kF):=⟨Tr.fL Zt.out T_.out (fun _ h=>h.elim)⟩;have Zu:Aside0 (Below w4.heap.size w4 kF):=⟨Tr.fL a7p.out T_.out (fun _ h=>h.elim)⟩;replace eU:Aside0 (kF.heap[w4.heap.size]? =some (.cells #[.bool r0.1,.int .i64 r0.2.1,.int .i64 r0.2.2.1,.slice fS r0.2.2.2.1.length fT,.slice gi r0.2.2.2.2.length gj] 29 (0,0))):=⟨T_.out.blk eU.out (fun h=>h)⟩;replace fD:Aside0 (kF.heap[w7.heap.size]? =some (.cells #[.bool r0.1,.int .i64 r0.2.1,.int .i64 r0.2.2.1,.slice gG r0.2.2.2.1.length gH,.slice gX r0.2.2.2.2.length gY] 29 (0,0))):=⟨T_.out.blk fD.out (fun h=>h)⟩;replace eV:=Aside0.mk (gh.tr eV.out T_.out (fun _ _ h=>h));replace fh:=Aside0.mk (fc.tr fh.out T_.out (fun _ _ h=>h));replace iV:=Aside0.mk (gh.tr iV.out T_.out (fun _ _ h=>h));replace kn:=Aside0.mk (fc.tr kn.out T_.out (fun _ _ h=>h));replace zm:=Aside0.mk (gh.tr zm.out T_.out (fun _ _ h=>h));replace Av:=Aside0.mk (fc.tr Av.out T_.out (fun _ _ h=>h));replace ni:=Aside0.mk (ni.out.tr T_.out);have DU:=Aside0.mk MT;have Zv:Aside0 (∀b,b∈Im->wF.heap.size<=b):=⟨fun b h=>Nat.le_trans ((by repeat (first|(with_reducible exact Tr.refl _ _)|(with_reducible apply Tr.drew)|(with_reducible apply Tr.drewN)|(with_reducible refine Tr.set ?_ (Nat.le_refl _) _)|(with_reducible apply Tr.alloc))):eK wF _).size (UU b h)⟩;have HU_u11_0:Aside0 (∀b,b∈Im->b<kF.heap.size):=⟨yt.lt MT⟩;have HL_u11_0:Aside0 (∀b,b∈Im->w.heap.size<=b):=⟨fun b h=>by have h9:=Zt.out.size;have h8:=Zv.out b h;omega⟩;have s_:wF.heap.size<=kF.heap.size:=T_.out.size;have a4n:w4.heap.size<kF.heap.size:=aZ eU.out;have Vr:kF.cell? ⟨w4.heap.size,0,none⟩=some (.bool r0.1):=(af eU.out 0).trans rfl;have Vs:kF.cell? ⟨w4.heap.size,1,none⟩=some (.int .i64 r0.2.1):=(af eU.out 1).trans rfl;have Vt:kF.cell? ⟨w4.heap.size,2,none⟩=some (.int .i64 r0.2.2.1):=(af eU.out 2).trans rfl;have Vu:kF.cell? ⟨w4.heap.size,3,none⟩=some (.slice fS r0.2.2.2.1.length fT):=(af eU.out 3).trans rfl;have Vv:kF.cell? ⟨w4.heap.size,4,none⟩=some (.slice gi r0.2.2.2.2.length gj):=(af eU.out 4).trans rfl;have a7t:=Aside0.mk trivial;clear t_ T_ Zt a7p MT UU)|(go_at_call 10;have tok:=a7t;(with_reducible refine (Sl (oV.rd DU.out) (Il.out.past Zu.out) (HG.out.2.2.1) (by repeat (first|(with_reducible exact Tr.refl _ _)|(with_reducible apply Tr.drew)|(with_reducible apply Tr.drewN)|(with_reducible refine Tr.set ?_ (Nat.le_refl _) _)|(with_reducible apply Tr.alloc)))).mono ?_);clear tok a7t a4n Vr Vs Vt Vu Vv;rintro e Kg ⟨rfl,t_⟩;have T_:Aside0 (Tr (fun _=>False) kF Kg):=⟨eK.gN (by repeat (first|(with_reducible exact Tr.refl _ _)|(with_reducible apply Tr.drew)|(with_reducible apply Tr.drewN)|(with_reducible refine Tr.set ?_ (Nat.le_refl _) _)|(with_reducible apply Tr.alloc))) t_⟩;have b4M:Aside0 (Below w.heap.size w Kg):=⟨Tr.fL a7s.out T_.out (fun _ h=>h.elim)⟩;have HS21:Aside0 (Below w4.heap.size w4 Kg):=⟨Tr.fL Zu.out T_.out (fun _ h=>h.elim)⟩;replace eU:Aside0 (Kg.heap[w4.heap.size]? =some (.cells #[.bool r0.1,.int .i64 r0.2.1,.int .i64 r0.2.2.1,.slice fS r0.2.2.2.1.length fT,.slice gi r0.2.2.2.2.length gj] 29 (0,0))):=⟨T_.out.blk eU.out (fun h=>h)⟩;replace fD:Aside0 (Kg.heap[w7.heap.size]? =some (.cells #[.bool r0.1,.int .i64 r0.2.1,.int .i64 r0.2.2.1,.slice gG r0.2.2.2.1.length gH,.slice gX r0.2.2.2.2.length gY] 29 (0,0))):=⟨T_.out.blk fD.out (fun h=>h)⟩;have K_:Kg.heap[kF.heap.size]? =some (.cells #[.bool r0.1,.int .i64 r0.2.1,.int .i64 r0.2.2.1,.slice zn r0.2.2.2.1.length zo,.slice DR r0.2.2.2.2.length DT] 29 (0,0)):=t_.blk (by first|exact di _ _|exact aK (aK (aK (aK (aK (di _ (.cells #[.bool false,.int .i64 0,.int .i64 0,.slice none 0 0,.slice none 0 0] 29 (0,0))) 0 (.bool r0.1) (cs':= #[.bool r0.1,.int .i64 0,.int .i64 0,.slice none 0 0,.slice none 0 0]) rfl) 1 (.int .i64 r0.2.1) (cs':= #[.bool r0.1,.int .i64 r0.2.1,.int .i64 0,.slice none 0 0,.slice none 0 0]) rfl) 2 (.int .i64 r0.2.2.1) (cs':= #[.bool r0.1,.int .i64 r0.2.1,.int .i64 r0.2.2.1,.slice none 0 0,.slice none 0 0]) rfl) 3 (.slice zn r0.2.2.2.1.length zo) (cs':= #[.bool r0.1,.int .i64 r0.2.1,.int .i64 r0.2.2.1,.slice zn r0.2.2.2.1.length zo,.slice none 0 0]) rfl) 4 (.slice DR r0.2.2.2.2.length DT) (cs':= #[.bool r0.1,.int .i64 r0.2.1,.int .i64 r0.2.2.1,.slice zn r0.2.2.2.1.length zo,.slice DR r0.2.2.2.2.length DT]) rfl) (fun h=>h);have HK_13:=Aside0.mk K_;clear K_;replace eV:=Aside0.mk (gh.tr eV.out T_.out (fun _ _ h=>h));replace fh:=Aside0.mk (fc.tr fh.out T_.out (fun _ _ h=>h));replace iV:=Aside0.mk (gh.tr iV.out T_.out (fun _ _ h=>h));replace kn:=Aside0.mk (fc.tr kn.out T_.out (fun _ _ h=>h));replace zm:=Aside0.mk (gh.tr zm.out T_.out (fun _ _ h=>h));replace Av:=Aside0.mk (fc.tr Av.out T_.out (fun _ _ h=>h));replace DU:=Aside0.mk (yt.tr DU.out T_.out (fun _ _ h=>h));replace ni:=Aside0.mk (ni.out.tr T_.out);(have s_:kF.heap.size+1<=Kg.heap.size:=by have h9:=t_.size;simp only [xQ] at h9;omega);have ST21:=Aside0.mk trivial;clear t_ T_ a7s Zu))
 go_ret
 exact ⟨rfl,b4M.out⟩
set_option maxHeartbeats 1000000 in
set_option maxRecDepth 100000 in
theorem Io (x0:List Int) (oG:Option Addr) (oH:Nat) (x1:List (List Int)) (oJ:Option Addr) (oK:Nat) (r0:V5) (z1:Int) (w:World)
 (ha0:oA w x0 oG oH) (ha1:kf w x1 oJ oK) (hz1:z1=iI x1 1048576) (hfit:1048576<x0.length):
 Calls Try.prog 3 #[(.slice oG x0.length oH),(.slice oJ x1.length oK)] w fun e w'=>e= .returned (.bool true)/\Below w.heap.size w w':=by
 have kO:=Aside0.mk (Below.refl w.heap.size w)
 have lG:=Aside0.mk ha0
 have dO:=Aside0.mk ha1
 have zQ:=Aside0.mk hz1
 have Sq:=Aside0.mk (show -1<=(1048576:Int)/\(1048576:Int)<=1048576 by omega)
 have ee:decide ((x0.length:Int)>1048576)=true:=decide_eq_true (by have:=hfit;omega)
 have PY:=Aside0.mk trivial
 clear ha0 ha1 hz1 hfit
 go_enter Try.func3,Try.ntmps3
 go_wp2
 go_ret
 exact ⟨rfl,by repeat (first|exact kO.out|apply bA)⟩
set_option maxHeartbeats 1000000 in
set_option maxRecDepth 100000 in
theorem Ip (x0:List Int) (oG:Option Addr) (oH:Nat) (x1:List (List Int)) (oJ:Option Addr) (oK:Nat) (r0:V5) (z1:Int) (w:World)
 (ha0:oA w x0 oG oH) (ha1:kf w x1 oJ oK) (hz1:z1=iI x1 1048576) (hfit:x0.length<=1048576/\z1<0):
 Calls Try.prog 3 #[(.slice oG x0.length oH),(.slice oJ x1.length oK)] w fun e w'=>e= .returned (.bool true)/\Below w.heap.size w w':=by
 have kO:=Aside0.mk (Below.refl w.heap.size w)
 have lG:=Aside0.mk ha0
 have dO:=Aside0.mk ha1
 have zQ:=Aside0.mk hz1
 have Sq:=Aside0.mk (show -1<=(1048576:Int)/\(1048576:Int)<=1048576 by omega)
 have e0:decide ((x0.length:Int)>1048576)=false:=decide_eq_false (by have:=hfit;omega)
 have ee:decide (z1<0)=true:=decide_eq_true (by have:=hfit;omega)
 have PY:=Aside0.mk trivial
 clear ha0 ha1 hz1 hfit
 go_enter Try.func3,Try.ntmps3
 go_wp2_with (first|(go_at_call 5;have tok:=PY;(with_reducible refine (UH zQ.out (dO.out.past kO.out) Sq.out (by repeat (first|(with_reducible exact Tr.refl _ _)|(with_reducible apply Tr.drew)|(with_reducible apply Tr.drewN)|(with_reducible refine Tr.set ?_ (Nat.le_refl _) _)|(with_reducible apply Tr.alloc)))).mono ?_);clear tok PY;rintro e w1 ⟨rfl,t_⟩;have T_:Aside0 (Tr (fun _=>False) w w1):=⟨eK.gN (by repeat (first|(with_reducible exact Tr.refl _ _)|(with_reducible apply Tr.drew)|(with_reducible apply Tr.drewN)|(with_reducible refine Tr.set ?_ (Nat.le_refl _) _)|(with_reducible apply Tr.alloc))) t_⟩;have eL:Aside0 (Below w.heap.size w w1):=⟨Tr.fL kO.out T_.out (fun _ h=>h.elim)⟩;have s_:w.heap.size<=w1.heap.size:=T_.out.size;have ST1:=Aside0.mk trivial;clear t_ T_ kO))
 go_ret
 exact ⟨rfl,eL.out⟩
theorem Fs (x0:List Int) (oG:Option Addr) (oH:Nat) (x1:List (List Int)) (oJ:Option Addr) (oK:Nat) (r0:V5) (z1:Int) (w:World)
 (ha0:oA w x0 oG oH) (ha1:kf w x1 oJ oK) (hz1:z1=iI x1 1048576)
 (Lt:x0.length<=1048576/\0<=z1->uB x0/\xY x1/\zk r0/\True) (DO:x0.length<=1048576/\0<=z1->1+(x0.length:Int)+iK x1<=1099511627776/\1+pz r0<=1099511627776/\0<=(x0.length:Int)/\0<=iK x1/\0<=pz r0)
 (Lu:x0.length<=1048576/\0<=z1->∀(W0 W:World) (oL:Option Addr) (oM:Nat) (oN:Option Addr) (oO:Nat),eK W0 W->oA W0 x0 oL oM->kf W0 x1 oN oO->Calls Try.prog 6 #[(.slice oL x0.length oM),(.slice oN x1.length oO)] W (Au W r0))
 (Lv:x0.length<=1048576/\0<=z1->∀(W0 W:World) (oL:Option Addr) (oM:Nat) (oN:Option Addr) (oO:Nat),eK W0 W->oA W0 x0 oL oM->kf W0 x1 oN oO->Calls Try.prog 9 #[(.slice oL x0.length oM),(.slice oN x1.length oO)] W (lF W r0)):
 Calls Try.prog 3 #[(.slice oG x0.length oH),(.slice oJ x1.length oK)] w fun e w'=>e= .returned (.bool true)/\Below w.heap.size w w':=by
 by_cases c0:x0.length<=1048576
 case neg=>exact Io x0 oG oH x1 oJ oK r0 z1 w ha0 ha1 hz1 (by omega)
 by_cases c1:0<=z1
 case neg=>exact Ip x0 oG oH x1 oJ oK r0 z1 w ha0 ha1 hz1 (by omega)
 have hf:x0.length<=1048576/\0<=z1:=⟨c0,c1⟩
 have hb:=DO hf
 exact Fo x0 oG oH x1 oJ oK r0 z1 w _ _ _ ha0 ha1 hz1 hf rfl rfl rfl (Lt hf) (by omega) (Lu hf) (Lv hf)
end Go.Proofs.Ytnhknojfpjheoaa.PT
set_option linter.unusedVariables false
set_option linter.unusedSimpArgs false
namespace Go.Proofs.Ytnhknojfpjheoaa.Lp
def S:Nat->(Nat->Rat)->Rat
 |0,_=>0
 |n+1,f=>S n f+f n
theorem dw {n:Nat} {f g:Nat->Rat} (h:∀j,j<n->f j=g j):S n f=S n g:=by
 induction n with
 |zero=>rfl
 |succ n ih=>simp only [S];rw [ih (fun j hj=>h j (by omega)),h n (by omega)]
theorem zq (n:Nat) (f g:Nat->Rat):S n (fun j=>f j+g j)=S n f+S n g:=by
 induction n with
 |zero=>simp only [S];grind
 |succ n ih=>simp only [S,ih];grind
theorem a1T (n:Nat) (f g:Nat->Rat):S n (fun j=>f j - g j)=S n f - S n g:=by
 induction n with
 |zero=>simp only [S];grind
 |succ n ih=>simp only [S,ih];grind
theorem pV (n:Nat) (a:Rat) (f:Nat->Rat):S n (fun j=>a*f j)=a*S n f:=by
 induction n with
 |zero=>simp only [S];grind
 |succ n ih=>simp only [S,ih];grind
theorem Vw (n:Nat):S n (fun _=>0)=0:=by
 induction n with
 |zero=>rfl
 |succ n ih=>simp only [S,ih];grind
theorem jL {n:Nat} {f:Nat->Rat} (h:∀j,j<n->f j=0):S n f=0:=by
 rw [dw h];exact Vw n
theorem pE {n:Nat} {f:Nat->Rat} (h:∀j,j<n->0<=f j):0<=S n f:=by
 induction n with
 |zero=>simp only [S];grind
 |succ n ih=>
  have h1:=ih (fun j hj=>h j (by omega))
  have h2:=h n (by omega)
  simp only [S];grind
theorem gl {n:Nat} {k:Nat} (hk:k<n) (f:Nat->Rat):S n (fun j=>if j=k then f j else 0)=f k:=by
 induction n with
 |zero=>omega
 |succ n ih=>
  simp only [S]
  by_cases h:n=k
  ·subst h
   rw [if_pos rfl,jL (fun j hj=>if_neg (by omega))];grind
  ·rw [if_neg h,ih (by omega)];grind
theorem Fu (m n:Nat) (f:Nat->Nat->Rat):S m (fun i=>S n (fun j=>f i j))=S n (fun j=>S m (fun i=>f i j)):=by
 induction m with
 |zero=>simp only [S];exact (Vw n).symm
 |succ m ih=>simp only [S];rw [ih,<-zq]
theorem sD {n k:Nat} (hk:k<n) {f:Nat->Rat} (h:∀j,j<n->0<=f j):f k<=S n f:=by
 induction n with
 |zero=>omega
 |succ n ih=>
  have h2:=h n (by omega)
  have h3:0<=S n f:=pE (fun j hj=>h j (by omega))
  simp only [S]
  by_cases e:k=n
  ·subst e;grind
  ·have:=ih (by omega) (fun j hj=>h j (by omega));grind
theorem Iq {n m:Nat} (f:Nat->Rat):S (n+m) f=S n f+S m (fun i=>f (n+i)):=by
 induction m with
 |zero=>simp only [S,Nat.add_zero];grind
 |succ m ih=>
  show S (n+m) f+f (n+m)=S n f+(S m (fun i=>f (n+i))+f (n+m))
  rw [ih];grind
structure bq where
 cell:Nat->Nat->Rat
 basis:Nat->Nat
def bq.pivot (t:bq) (r c:Nat):bq where
 cell i j:=if i=r then t.cell r j/t.cell r c else t.cell i j - t.cell i c*(t.cell r j/t.cell r c)
 basis i:=if i=r then c else t.basis i
def bq.F (t:bq) (N:Nat) (h:Rat) (x:Nat->Rat) (i:Nat):Rat:=S N (fun j=>t.cell i j*x j)- t.cell i N*h
theorem Kh (t:bq) (N:Nat) (h:Rat) (x:Nat->Rat) (r c:Nat):(t.pivot r c).F N h x r=t.F N h x r/t.cell r c:=by
 unfold bq.F bq.pivot
 simp only [if_true]
 have:S N (fun j=>t.cell r j/t.cell r c*x j)=(1/t.cell r c)*S N (fun j=>t.cell r j*x j):=by
  rw [<-pV];exact dw (fun j _=>by grind)
 rw [this];grind
theorem Aw (t:bq) (N:Nat) (h:Rat) (x:Nat->Rat) {r i:Nat} (hi:i≠r) (c:Nat):(t.pivot r c).F N h x i=t.F N h x i - t.cell i c*(t.F N h x r/t.cell r c):=by
 unfold bq.F bq.pivot
 simp only [if_neg hi]
 have:S N (fun j=>(t.cell i j - t.cell i c*(t.cell r j/t.cell r c))*x j)=S N (fun j=>t.cell i j*x j)-(t.cell i c/t.cell r c)*S N (fun j=>t.cell r j*x j):=by
  rw [<-pV,<-a1T];exact dw (fun j _=>by grind)
 rw [this];grind
structure Valid (m N K:Nat) (t0 t:bq):Prop where
 lt:∀r,r<m->t.basis r<N
 unit:∀r,r<m->∀i,i<m+K->t.cell i (t.basis r)=if i=r then 1 else 0
 ur:∀h x,(∀i,i<m->t0.F N h x i=0)↔(∀i,i<m->t.F N h x i=0)
 cost:∀h x,(∀i,i<m->t.F N h x i=0)->∀k,k<K->t.F N h x (m+k)=t0.F N h x (m+k)
theorem Valid.pivot {m N K:Nat} {t0 t:bq} (v:Valid m N K t0 t) {r c:Nat} (hr:r<m) (hc:c<N) (hp:t.cell r c≠0):Valid m N K t0 (t.pivot r c):=by
 have key:∀h x,(∀i,i<m->t.F N h x i=0)↔(∀i,i<m->(t.pivot r c).F N h x i=0):=by
  intro h x
  constructor
  ·intro H i hi
   by_cases e:i=r
   ·subst e;rw [Kh,H i hi];grind
   ·rw [Aw _ _ _ _ e,H i hi,H r hr];grind
  ·intro H i hi
   have hrr:t.F N h x r=0:=by
    have:=H r hr;rw [Kh] at this
    have h2:t.F N h x r=(t.F N h x r/t.cell r c)*t.cell r c:=by grind
    rw [h2,this];grind
   by_cases e:i=r
   ·subst e;exact hrr
   ·have:=H i hi;rw [Aw _ _ _ _ e,hrr] at this;grind
 refine ⟨?_,?_,?_,?_⟩
 ·intro i hi;show (if i=r then c else t.basis i)<N
  split
  ·exact hc
  ·exact v.lt i hi
 ·intro r' hr' i hi
  simp only [bq.pivot]
  by_cases e:r'=r
  ·subst e
   simp only [if_true]
   by_cases e2:i=r'
   ·subst e2;simp only [if_true];grind
   ·simp only [if_neg e2];grind
  ·simp only [if_neg e]
   have h1:=v.unit r' hr' r (by omega)
   rw [if_neg (fun h=>e h.symm)] at h1
   rw [h1]
   have h2:=v.unit r' hr' i hi
   rw [h2]
   by_cases e2:i=r
   ·subst e2;rw [if_pos rfl,if_neg (fun h=>e h.symm)];grind
   ·rw [if_neg e2];grind
 ·intro h x;exact (v.ur h x).trans (key h x)
 ·intro h x H k hk
  have H':=(key h x).2 H
  rw [Aw _ _ _ _ (by omega),H' r hr,<-v.cost h x H' k hk];grind
def bq.X (t:bq) (m N:Nat) (j:Nat):Rat:=S m (fun r=>if t.basis r=j then t.cell r N else 0)
theorem a1V {m N:Nat} {t:bq} (hB:∀r,r<m->t.basis r<N) (g:Nat->Rat):S N (fun j=>g j*t.X m N j)=S m (fun r=>g (t.basis r)*t.cell r N):=by
 unfold bq.X
 have:S N (fun j=>g j*S m (fun r=>if t.basis r=j then t.cell r N else 0))=S N (fun j=>S m (fun r=>g j*(if t.basis r=j then t.cell r N else 0))):=
  dw (fun j _=>(pV m (g j) _).symm)
 rw [this,Fu]
 refine dw (fun r hr=>?_)
 have:S N (fun j=>g j*(if t.basis r=j then t.cell r N else 0))=S N (fun j=>if j=t.basis r then g j*t.cell r N else 0):=by
  refine dw (fun j _=>?_)
  by_cases e:t.basis r=j
  ·rw [if_pos e,if_pos e.symm]
  ·rw [if_neg e,if_neg (fun h=>e h.symm)];grind
 rw [this,gl (hB r hr) (fun j=>g j*t.cell r N)]
theorem Valid.MV {m N K:Nat} {t0 t:bq} (v:Valid m N K t0 t) {i:Nat} (hi:i<m):t.F N 1 (t.X m N) i=0:=by
 unfold bq.F
 rw [a1V v.lt]
 have:S m (fun r=>t.cell i (t.basis r)*t.cell r N)=S m (fun r=>if r=i then t.cell r N else 0):=by
  refine dw (fun r hr=>?_)
  rw [v.unit r hr i (by omega)]
  by_cases e:i=r
  ·rw [if_pos e,if_pos e.symm];grind
  ·rw [if_neg e,if_neg (fun h=>e h.symm)];grind
 rw [this,gl hi (fun r=>t.cell r N)];grind
theorem Valid.MW {m N K:Nat} {t0 t:bq} (v:Valid m N K t0 t) {k:Nat} (hk:k<K):t.F N 1 (t.X m N) (m+k)= - t.cell (m+k) N:=by
 unfold bq.F
 rw [a1V v.lt,jL]
 ·grind
 ·intro r hr
  rw [v.unit r hr (m+k) (by omega),if_neg (by omega)];grind
theorem Valid.inj {m N K:Nat} {t0 t:bq} (v:Valid m N K t0 t) {r r':Nat} (hr:r<m) (hr':r'<m) (h:t.basis r=t.basis r'):r=r':=by
 have h1:=v.unit r hr r (by omega)
 have h2:=v.unit r' hr' r (by omega)
 rw [if_pos rfl] at h1
 rw [h] at h1
 rw [h1] at h2
 by_cases e:r=r'
 ·exact e
 ·rw [if_neg e] at h2;grind
theorem Ay {m N K:Nat} {t0 t:bq} (v:Valid m N K t0 t) {r:Nat} (hr:r<m):t.X m N (t.basis r)=t.cell r N:=by
 unfold bq.X
 rw [<-gl hr (fun r=>t.cell r N)]
 refine dw (fun r' hr'=>?_)
 by_cases e:r'=r
 ·subst e;simp
 ·rw [if_neg (fun h=>e (v.inj hr' hr h)),if_neg e]
theorem zu {m N:Nat} {t:bq} {j:Nat} (h:∀r,r<m->t.basis r≠j):t.X m N j=0:=
 jL (fun r hr=>if_neg (h r hr))
theorem Zw {m N K:Nat} {t0 t:bq} (v:Valid m N K t0 t) (g y:Nat->Rat) (hy:∀j,j<N->(∀r,r<m->t.basis r≠j)->y j=0):
 S N (fun j=>g j*y j)=S m (fun r=>g (t.basis r)*y (t.basis r)):=by
 have:S N (fun j=>g j*y j)=S N (fun j=>S m (fun r=>if t.basis r=j then g j*y j else 0)):=by
  refine dw (fun j hj=>?_)
  by_cases e:∃r,r<m/\t.basis r=j
  ·obtain ⟨r,hr,rfl⟩:=e
   have:S m (fun r'=>if t.basis r'=t.basis r then g (t.basis r)*y (t.basis r) else 0)=S m (fun r'=>if r'=r then g (t.basis r)*y (t.basis r) else 0):=by
    refine dw (fun r' hr'=>?_)
    by_cases e:r'=r
    ·subst e;rw [if_pos rfl,if_pos rfl]
    ·rw [if_neg (fun h=>e (v.inj hr' hr h)),if_neg e]
   rw [this,gl hr (fun _=>g (t.basis r)*y (t.basis r))]
  ·rw [hy j hj (fun r hr h=>e ⟨r,hr,h⟩),jL (fun r _=>by split<;>grind)];grind
 rw [this,Fu]
 refine dw (fun r hr=>?_)
 have:S N (fun j=>if t.basis r=j then g j*y j else 0)=S N (fun j=>if j=t.basis r then g j*y j else 0):=by
  refine dw (fun j _=>?_)
  by_cases e:t.basis r=j
  ·rw [if_pos e,if_pos e.symm]
  ·rw [if_neg e,if_neg (fun h=>e h.symm)]
 rw [this,gl (v.lt r hr) (fun j=>g j*y j)]
theorem xm {m N K:Nat} {t0 t:bq} (v:Valid m N K t0 t) {h:Rat} {y:Nat->Rat} (hy:∀j,j<N->(∀r,r<m->t.basis r≠j)->y j=0)
 (hs:∀i,i<m->t.F N h y i=0) {r:Nat} (hr:r<m):y (t.basis r)=t.cell r N*h:=by
 have h1:=hs r hr
 unfold bq.F at h1
 rw [Zw v _ _ hy] at h1
 have:S m (fun r'=>t.cell r (t.basis r')*y (t.basis r'))=S m (fun r'=>if r'=r then y (t.basis r') else 0):=by
  refine dw (fun r' hr'=>?_)
  rw [v.unit r' hr' r (by omega)]
  by_cases e:r=r'
  ·rw [if_pos e,if_pos e.symm];grind
  ·rw [if_neg e,if_neg (fun h=>e h.symm)];grind
 rw [this,gl hr (fun r'=>y (t.basis r'))] at h1
 grind
theorem b4N {m N K:Nat} {t0 t t':bq} (v:Valid m N K t0 t) (v':Valid m N K t0 t') (hb:∀j,(∃r,r<m/\t'.basis r=j)->∃r,r<m/\t.basis r=j):
 ∀j,j<N->t.X m N j=t'.X m N j:=by
 have hs:∀i,i<m->t.F N 1 (t'.X m N) i=0:=(v.ur 1 _).1 ((v'.ur 1 _).2 (fun i hi=>v'.MV hi))
 have hy:∀j,j<N->(∀r,r<m->t.basis r≠j)->t'.X m N j=0:=fun j _ h=>zu (fun r hr e=>by
  obtain ⟨r',hr',e'⟩:=hb j ⟨r,hr,e⟩
  exact h r' hr' e')
 intro j hj
 by_cases e:∃r,r<m/\t.basis r=j
 ·obtain ⟨r,hr,rfl⟩:=e
  rw [Ay v hr,xm v hy hs hr];grind
 ·rw [zu (fun r hr h=>e ⟨r,hr,h⟩),hy j hj (fun r hr h=>e ⟨r,hr,h⟩)]
def bq.obj (t:bq) (m N:Nat) (k:Nat):Rat:= - t.cell (m+k) N
theorem zv {m N K:Nat} {t0 t:bq} (v:Valid m N K t0 t) {k:Nat} (hk:k<K):t.obj m N k=t0.F N 1 (t.X m N) (m+k):=by
 rw [<-v.cost 1 _ (fun i hi=>v.MV hi) k hk,v.MW hk];rfl
theorem a7u {m N K:Nat} {t0 t t':bq} (v:Valid m N K t0 t) (v':Valid m N K t0 t') (hb:∀j,(∃r,r<m/\t'.basis r=j)->∃r,r<m/\t.basis r=j)
 {k:Nat} (hk:k<K):t.obj m N k=t'.obj m N k:=by
 rw [zv v hk,zv v' hk]
 unfold bq.F
 rw [dw (fun j hj=>by rw [b4N v v' hb j hj])]
def eD (K:Nat) (u:Nat->Rat):Prop:=∃k,k<K/\(∀i,i<k->u i=0)/\u k<0
def mN (K:Nat) (u:Nat->Rat):Prop:=∃k,k<K/\(∀i,i<k->u i=0)/\0<u k
def Cg (K:Nat) (u:Nat->Rat):Prop:=∀k,k<K->u k=0
theorem b0P (K:Nat) (u:Nat->Rat):eD K u∨Cg K u∨mN K u:=by
 induction K with
 |zero=>right;left;intro k hk;omega
 |succ K ih=>
  rcases ih with ⟨k,hk,h1,h2⟩|h|⟨k,hk,h1,h2⟩
  ·exact .inl ⟨k,by omega,h1,h2⟩
  ·by_cases e:u K<0
   ·exact .inl ⟨K,by omega,h,e⟩
   ·by_cases e2:0<u K
    ·exact .inr (.inr ⟨K,by omega,h,e2⟩)
    ·refine .inr (.inl (fun k hk=>?_))
     by_cases e3:k=K
     ·subst e3;grind
     ·exact h k (by omega)
  ·exact .inr (.inr ⟨k,by omega,h1,h2⟩)
theorem CK {K:Nat} {u:Nat->Rat} (h1:eD K u) (h2:mN K u):False:=by
 obtain ⟨k,_,a,b⟩:=h1
 obtain ⟨k',_,a',b'⟩:=h2
 rcases Nat.lt_trichotomy k k' with h|h|h
 ·have:=a' k h;grind
 ·subst h;grind
 ·have:=a k' h;grind
theorem vG {K:Nat} {u:Nat->Rat} (h1:Cg K u) (h2:mN K u):False:=by
 obtain ⟨k',hk,a',b'⟩:=h2
 have:=h1 k' hk;grind
theorem vH {K:Nat} {u:Nat->Rat} (h1:Cg K u) (h2:eD K u):False:=by
 obtain ⟨k',hk,a',b'⟩:=h2
 have:=h1 k' hk;grind
theorem gU {K:Nat} {u:Nat->Rat}:¬eD K u↔Cg K u∨mN K u:=
 ⟨fun h=>(b0P K u).resolve_left h,fun h h'=>h.elim (fun z=>vH z h') (fun p=>CK h' p)⟩
theorem mN.congr {K:Nat} {u v:Nat->Rat} (h:mN K u) (e:∀k,k<K->u k=v k):mN K v:=by
 obtain ⟨k,hk,a,b⟩:=h
 exact ⟨k,hk,fun i hi=>(e i (by omega)) ▸ a i hi,(e k hk) ▸ b⟩
theorem eD.congr {K:Nat} {u v:Nat->Rat} (h:eD K u) (e:∀k,k<K->u k=v k):eD K v:=by
 obtain ⟨k,hk,a,b⟩:=h
 exact ⟨k,hk,fun i hi=>(e i (by omega)) ▸ a i hi,(e k hk) ▸ b⟩
theorem NN.congr {K:Nat} {u v:Nat->Rat} (h:¬eD K u) (e:∀k,k<K->u k=v k):¬eD K v:=fun h'=>h (h'.congr (fun k hk=>(e k hk).symm))
theorem eD.neg {K:Nat} {u:Nat->Rat} (h:eD K u):mN K (fun k=> - u k):=by
 obtain ⟨k,hk,a,b⟩:=h
 exact ⟨k,hk,fun i hi=>by have:=a i hi;grind,by grind⟩
theorem mN.neg {K:Nat} {u:Nat->Rat} (h:mN K u):eD K (fun k=> - u k):=by
 obtain ⟨k,hk,a,b⟩:=h
 exact ⟨k,hk,fun i hi=>by have:=a i hi;grind,by grind⟩
theorem mN.add {K:Nat} {u v:Nat->Rat} (h:mN K u) (h':¬eD K v):mN K (fun k=>u k+v k):=by
 obtain ⟨k,hk,a,b⟩:=h
 rcases gU.1 h' with z|⟨k',hk',a',b'⟩
 ·exact ⟨k,hk,fun i hi=>by have:=a i hi;have:=z i (by omega);grind,by have:=z k hk;grind⟩
 ·rcases Nat.lt_trichotomy k k' with e|e|e
  ·exact ⟨k,hk,fun i hi=>by have:=a i hi;have:=a' i (by omega);grind,by have:=a' k e;grind⟩
  ·subst e;exact ⟨k,hk,fun i hi=>by have:=a i hi;have:=a' i (by omega);grind,by grind⟩
  ·exact ⟨k',hk',fun i hi=>by have:=a i (by omega);have:=a' i (by omega);grind,by have:=a k' e;grind⟩
theorem NN.add {K:Nat} {u v:Nat->Rat} (h:¬eD K u) (h':¬eD K v):¬eD K (fun k=>u k+v k):=by
 rcases gU.1 h with z|p
 ·exact NN.congr h' (fun k hk=>by have:=z k hk;grind)
 ·exact gU.2 (.inr (p.add h'))
theorem NN.zero {K:Nat}:¬eD K (fun _=>0):=gU.2 (.inl (fun _ _=>rfl))
theorem SD {a b:Rat} (ha:0<a) (hb:b<0):a*b<0:=by
 have:=Rat.mul_lt_mul_of_pos_right hb ha;grind
theorem uC {a b:Rat} (ha:0<a) (hb:0<b):0<a*b:=by
 have:=Rat.mul_lt_mul_of_pos_right hb ha;grind
theorem mN.smul {K:Nat} {u:Nat->Rat} (h:mN K u) {a:Rat} (ha:0<a):mN K (fun k=>a*u k):=by
 obtain ⟨k,hk,x,y⟩:=h
 exact ⟨k,hk,fun i hi=>by have:=x i hi;grind,uC ha y⟩
theorem eD.smul {K:Nat} {u:Nat->Rat} (h:eD K u) {a:Rat} (ha:0<a):eD K (fun k=>a*u k):=by
 obtain ⟨k,hk,x,y⟩:=h
 exact ⟨k,hk,fun i hi=>by have:=x i hi;grind,SD ha y⟩
theorem NN.smul {K:Nat} {u:Nat->Rat} (h:¬eD K u) {a:Rat} (ha:0<=a):¬eD K (fun k=>a*u k):=by
 by_cases e:a=0
 ·exact NN.congr NN.zero (fun k _=>by rw [e];grind)
 ·rcases gU.1 h with z|p
  ·exact gU.2 (.inl (fun k hk=>by have:=z k hk;show a*u k=0;rw [this];grind))
  ·exact gU.2 (.inr (p.smul (by grind)))
theorem NN.sum {K n:Nat} {u:Nat->Nat->Rat} (h:∀j,j<n->¬eD K (u j)):¬eD K (fun k=>S n (fun j=>u j k)):=by
 induction n with
 |zero=>exact NN.zero
 |succ n ih=>exact NN.add (ih (fun j hj=>h j (by omega))) (h n (by omega))
end Go.Proofs.Ytnhknojfpjheoaa.Lp
set_option linter.unusedVariables false
set_option linter.unusedSimpArgs false
namespace Go.Proofs.Ytnhknojfpjheoaa.Lp
def Az:Nat->List (List Bool)
 |0=>[[]]
 |n+1=>(Az n).map (List.cons true)++(Az n).map (List.cons false)
theorem Pe (n:Nat):(Az n).length=2^n:=by
 induction n with
 |zero=>rfl
 |succ n ih=>simp only [Az,List.length_append,List.length_map,ih];omega
theorem Zx (l:List Bool):l∈Az l.length:=by
 induction l with
 |nil=>simp [Az]
 |cons b l ih=>cases b<;>simp [Az,ih]
theorem vI {α:Type} [DecidableEq α]:∀(l:List α) (m:List α),l.Nodup->(∀x,x∈l->x∈m)->l.length<=m.length
 | [],m,_,_=>by simp
 |a::l,m,hn,hs=>by
  have ha:a∈m:=hs a (by simp)
  rw [List.nodup_cons] at hn
  have:=vI l (m.erase a) hn.2 (fun x hx=>by
   have hxa:x≠a:=fun e=>hn.1 (e ▸ hx)
   exact (List.mem_erase_of_ne hxa).2 (hs x (by simp [hx])))
  rw [List.length_erase_of_mem ha] at this
  have hp:=List.length_pos_of_mem ha
  simp only [List.length_cons];omega
theorem Vx (N L:Nat) (f:Nat->List Bool) (hl:∀i,i<=L->(f i).length=N) (hL:2^N<=L):∃i j,i<j/\j<=L/\f i=f j:=by
 apply Classical.byContradiction
 intro hno
 have Qa:((List.range (L+1)).map f).Nodup:=by
  rw [List.nodup_iff_pairwise_ne,List.pairwise_map]
  refine List.Pairwise.imp_of_mem ?_ List.pairwise_lt_range
  intro i j hi hj hij e
  rw [List.mem_range] at hi hj
  exact hno ⟨i,j,hij,by omega,e⟩
 have:=vI _ (Az N) Qa (fun x hx=>by
  obtain ⟨i,hi,rfl⟩:=List.mem_map.1 hx
  rw [List.mem_range] at hi
  have:=Zx (f i)
  rwa [hl i (by omega)] at this)
 rw [Pe,List.length_map,List.length_range] at this
 omega
def iO (m:Nat) (t:bq) (j:Nat):Prop:=∃r,r<m/\t.basis r=j
open Classical in
noncomputable def rL (m N:Nat) (t:bq):List Bool:=(List.range N).map fun j=>decide (iO m t j)
theorem CL (m N:Nat) (t:bq):(rL m N t).length=N:=by simp [rL]
theorem Ir {m N:Nat} {t t':bq} (h:rL m N t=rL m N t') {j:Nat} (hj:j<N):iO m t j↔iO m t' j:=by
 have:=congrArg (fun l=>l[j]?) h
 simp [rL,hj] at this
 exact this
theorem MX {m N K:Nat} {t0 t t':bq} (v:Valid m N K t0 t) (v':Valid m N K t0 t') (h:rL m N t=rL m N t') {k:Nat} (hk:k<K):t.obj m N k=t'.obj m N k:=
 a7u v v' (fun _ ⟨r,hr,e⟩=>(Ir h (e ▸ v'.lt r hr)).2 ⟨r,hr,e⟩) hk
def bq.cost (t:bq) (m:Nat) (j:Nat):Nat->Rat:=fun k=>t.cell (m+k) j
theorem opt {m N K:Nat} {t0 t:bq} (v:Valid m N K t0 t) (hc:∀j,j<N->¬eD K (t.cost m j)) {x:Nat->Rat} (hx:∀j,j<N->0<=x j) (hs:∀i,i<m->t0.F N 1 x i=0):
 ¬eD K (fun k=>t0.F N 1 x (m+k)- t0.F N 1 (t.X m N) (m+k)):=by
 have hs':=(v.ur 1 x).1 hs
 refine NN.congr (NN.sum (n:=N) (u:=fun j k=>x j*t.cost m j k) (fun j hj=>NN.smul (hc j hj) (hx j hj))) (fun k hk=>?_)
 rw [<-v.cost 1 x hs' k hk,<-zv v hk]
 unfold bq.F bq.obj
 have:S N (fun j=>x j*t.cost m j k)=S N (fun j=>t.cell (m+k) j*x j):=dw (fun j _=>by unfold bq.cost;grind)
 rw [this];grind
structure DStep (m N K:Nat) (t t':bq) where
 r:Nat
 c:Nat
 hr:r<m
 hc:c<N
 rhs:t.cell r N<0
 neg:t.cell r c<0
 best:∀j,j<N->t.cell r j<0->¬eD K (fun k=>t.cell (m+k) c/t.cell r c - t.cell (m+k) j/t.cell r j)
 eq:t'=t.pivot r c
def LC (m N K:Nat) (t0:bq):Prop:=∀d:Nat->Rat,(∀i,i<m->t0.F N 0 d i=0)->(∀k,k<K->t0.F N 0 d (m+k)=0)->∀j,j<N->d j=0
def bq.dir (t:bq) (m:Nat) (c j:Nat):Rat:=if j=c then 1 else S m (fun r=>if t.basis r=j then - t.cell r c else 0)
theorem Iu {m N K:Nat} {t0 t:bq} (v:Valid m N K t0 t) {c:Nat} (hc:c<N) (hnb:¬iO m t c) (g:Nat->Rat):
 S N (fun j=>g j*t.dir m c j)=g c - S m (fun r=>g (t.basis r)*t.cell r c):=by
 have:S N (fun j=>g j*t.dir m c j)=S N (fun j=>(if j=c then g j else 0)+S m (fun r=>if t.basis r=j then -(g j*t.cell r c) else 0)):=by
  refine dw (fun j _=>?_)
  unfold bq.dir
  by_cases e:j=c
  ·subst e;rw [if_pos rfl,if_pos rfl,jL (fun r hr=>if_neg (fun h=>hnb ⟨r,hr,h⟩))];grind
  ·rw [if_neg e,if_neg e,<-pV]
   have:S m (fun r=>g j*(if t.basis r=j then - t.cell r c else 0))=S m (fun r=>if t.basis r=j then -(g j*t.cell r c) else 0):=
    dw (fun r _=>by split<;>grind)
   rw [this];grind
 rw [this,zq,gl hc g,Fu]
 have:S m (fun i=>S N (fun j=>if t.basis i=j then -(g j*t.cell i c) else 0))=S m (fun r=>(-1)*(g (t.basis r)*t.cell r c)):=by
  refine dw (fun r hr=>?_)
  have:S N (fun j=>if t.basis r=j then -(g j*t.cell r c) else 0)=S N (fun j=>if j=t.basis r then -(g j*t.cell r c) else 0):=by
   refine dw (fun j _=>?_)
   by_cases e:t.basis r=j
   ·rw [if_pos e,if_pos e.symm]
   ·rw [if_neg e,if_neg (fun h=>e h.symm)]
  rw [this,gl (v.lt r hr) (fun j=> -(g j*t.cell r c))];grind
 rw [this,pV];grind
theorem yu {m N K:Nat} {t0 t:bq} (v:Valid m N K t0 t) {c:Nat} (hc:c<N) (hnb:¬iO m t c):∀i,i<m->t.F N 0 (t.dir m c) i=0:=by
 intro i hi
 unfold bq.F
 rw [Iu v hc hnb]
 have:S m (fun r=>t.cell i (t.basis r)*t.cell r c)=S m (fun r=>if r=i then t.cell r c else 0):=by
  refine dw (fun r hr=>?_)
  rw [v.unit r hr i (by omega)]
  by_cases e:i=r
  ·rw [if_pos e,if_pos e.symm];grind
  ·rw [if_neg e,if_neg (fun h=>e h.symm)];grind
 rw [this,gl hi (fun r=>t.cell r c)];grind
theorem MZ {m N K:Nat} {t0 t:bq} (v:Valid m N K t0 t) {c:Nat} (hc:c<N) (hnb:¬iO m t c) {k:Nat} (hk:k<K):t.F N 0 (t.dir m c) (m+k)=t.cost m c k:=by
 unfold bq.F bq.cost
 rw [Iu v hc hnb,jL (fun r hr=>by rw [v.unit r hr (m+k) (by omega),if_neg (by omega)];grind)];grind
theorem DV (t:bq) (m c:Nat):t.dir m c c=1:=if_pos rfl
theorem SE {m N K:Nat} {t0 t:bq} (v:Valid m N K t0 t) (sh:LC m N K t0) {c:Nat} (hc:c<N) (hnb:¬iO m t c):¬Cg K (t.cost m c):=by
 intro hz
 have h:=sh (t.dir m c) ((v.ur 0 _).2 (yu v hc hnb)) (fun k hk=>by rw [<-v.cost 0 _ (yu v hc hnb) k hk,MZ v hc hnb hk,hz k hk]) c hc
 rw [DV] at h;grind
theorem Iw {m N K:Nat} {t0 t:bq} (v:Valid m N K t0 t) {r c:Nat} (hr:r<m) (h:t.cell r c<0):¬iO m t c:=by
 rintro ⟨r',hr',rfl⟩
 rw [v.unit r' hr' r (by omega)] at h
 split at h<;>grind
theorem Ix {a b:Rat} (ha:a<0) (hb:b<0):0<a/b:=by
 have h1:0<(-a)*((-b)⁻¹):=uC (by grind) (Rat.inv_pos.2 (by grind))
 have:(-a)*(-b)⁻¹=a/b:=by grind
 rw [this] at h1;exact h1
structure DInv (m N K:Nat) (t0 t:bq):Prop extends Valid m N K t0 t where
 SF:∀j,j<N->¬eD K (t.cost m j)
theorem DStep.inv {m N K:Nat} {t0 t t':bq} (v:DInv m N K t0 t) (s:DStep m N K t t'):DInv m N K t0 t':=by
 obtain ⟨r,c,hr,hc,rhs,neg,best,rfl⟩:=s
 refine ⟨v.toValid.pivot hr hc (by grind),fun j hj=>?_⟩
 have e:∀k,k<K->t.cell (m+k) j - t.cell (m+k) c*(t.cell r j/t.cell r c)=(t.pivot r c).cost m j k:=fun k hk=>by
  show _=if m+k=r then _ else _
  rw [if_neg (by omega)]
 refine NN.congr ?_ e
 by_cases hn:t.cell r j<0
 ·refine NN.congr (NN.smul (best j hj hn) (a:= - t.cell r j) (by grind)) (fun k hk=>by grind)
 ·have h2:0<= -(t.cell r j/t.cell r c):=by
   by_cases e0:t.cell r j=0
   ·rw [e0];grind
   ·have h1:0<t.cell r j*((- t.cell r c)⁻¹):=uC (by grind) (Rat.inv_pos.2 (by grind))
    have:t.cell r j*(- t.cell r c)⁻¹= -(t.cell r j/t.cell r c):=by grind
    rw [this] at h1;grind
  refine NN.congr (NN.add (v.SF j hj) (NN.smul (v.SF c hc) h2)) (fun k hk=>by unfold bq.cost;grind)
theorem DStep.grows {m N K:Nat} {t0 t t':bq} (v:DInv m N K t0 t) (sh:LC m N K t0) (s:DStep m N K t t'):mN K (fun k=>t'.obj m N k - t.obj m N k):=by
 obtain ⟨r,c,hr,hc,rhs,neg,best,rfl⟩:=s
 have hp:mN K (t.cost m c):=(gU.1 (v.SF c hc)).resolve_left (SE v.toValid sh hc (Iw v.toValid hr neg))
 refine (hp.smul (Ix rhs neg)).congr (fun k hk=>?_)
 have:(t.pivot r c).obj m N k= -(t.cell (m+k) N - t.cell (m+k) c*(t.cell r N/t.cell r c)):=by
  show -(if m+k=r then _ else _)=_
  rw [if_neg (by omega)]
 rw [this];unfold bq.obj bq.cost;grind
theorem Vy {m N K:Nat} {t0:bq} (sh:LC m N K t0) (seq:Nat->bq) (h0:DInv m N K t0 (seq 0)) (hs:∀i,i<2^N->Nonempty (DStep m N K (seq i) (seq (i+1)))):False:=by
 have hinv:∀i,i<=2^N->DInv m N K t0 (seq i):=by
  intro i;induction i with
  |zero=>intro _;exact h0
  |succ i ih=>intro hi;exact (Classical.choice (hs i (by omega))).inv (ih (by omega))
 have hgrow:∀d i,i+d+1<=2^N->mN K (fun k=>(seq (i+d+1)).obj m N k -(seq i).obj m N k):=by
  intro d i;induction d with
  |zero=>intro hi;exact (Classical.choice (hs i (by omega))).grows (hinv i (by omega)) sh
  |succ d ih=>
   intro hi
   have h1:=ih (by omega)
   have h2:=(Classical.choice (hs (i+d+1) (by omega))).grows (hinv _ (by omega)) sh
   exact (h1.add (gU.2 (.inr h2))).congr (fun k _=>by have:i+(d+1)+1=i+d+1+1:=by omega
                                                      rw [this];grind)
 obtain ⟨i,j,hij,hj,e⟩:=Vx N (2^N) (fun i=>rL m N (seq i)) (fun i _=>CL m N _) (Nat.le_refl _)
 have h1:=hgrow (j - i - 1) i (by omega)
 have hji:i+(j - i - 1)+1=j:=by omega
 rw [hji] at h1
 exact vG (fun k hk=>by have:=MX (hinv i (by omega)).toValid (hinv j hj).toValid e hk;show (seq j).obj m N k -(seq i).obj m N k=0;grind) h1
structure lM (m N K:Nat) (t t':bq) where
 r:Nat
 c:Nat
 hr:r<m
 hc:c<N
 neg:eD K (t.cost m c)
 first:∀j,j<c->¬eD K (t.cost m j)
 pos:0<t.cell r c
 best:∀i,i<m->0<t.cell i c->t.cell r N/t.cell r c<t.cell i N/t.cell i c∨(t.cell r N/t.cell r c=t.cell i N/t.cell i c/\t.basis r<=t.basis i)
 eq:t'=t.pivot r c
structure PInv (m N K:Nat) (t0 t:bq):Prop extends Valid m N K t0 t where
 DW:∀r,r<m->0<=t.cell r N
theorem uD {a b:Rat} (ha:0<=a) (hb:0<b):0<=a/b:=by
 have h1:=Rat.mul_nonneg ha (Rat.le_of_lt (Rat.inv_pos.2 hb))
 have:a*b⁻¹=a/b:=by grind
 rw [this] at h1;exact h1
theorem lM.inv {m N K:Nat} {t0 t t':bq} (v:PInv m N K t0 t) (s:lM m N K t t'):PInv m N K t0 t':=by
 obtain ⟨r,c,hr,hc,neg,first,pos,best,rfl⟩:=s
 refine ⟨v.toValid.pivot hr hc (by grind),fun i hi=>?_⟩
 show 0<=if i=r then _ else _
 have hq:=uD (v.DW r hr) pos
 by_cases e:i=r
 ·rw [if_pos e];exact hq
 ·rw [if_neg e]
  have Fv:=v.DW i hi
  by_cases hp:0<t.cell i c
  ·have hle:t.cell r N/t.cell r c<=t.cell i N/t.cell i c:=by
    rcases best i hi hp with h|h<;>grind
   have h1:=Rat.mul_le_mul_of_nonneg_left hle (Rat.le_of_lt hp)
   have:t.cell i c*(t.cell i N/t.cell i c)=t.cell i N:=by grind
   rw [this] at h1;grind
  ·have h1:=Rat.mul_nonneg (show 0<= - t.cell i c by grind) hq
   grind
theorem lM.obj {m N K:Nat} {t t':bq} (s:lM m N K t t') (k:Nat):t.obj m N k - t'.obj m N k=(t.cell s.r N/t.cell s.r s.c)* - t.cost m s.c k:=by
 obtain ⟨r,c,hr,hc,neg,first,pos,best,rfl⟩:=s
 have:(t.pivot r c).obj m N k= -(t.cell (m+k) N - t.cell (m+k) c*(t.cell r N/t.cell r c)):=by
  show -(if m+k=r then _ else _)=_
  rw [if_neg (by omega)]
 rw [this];unfold bq.obj bq.cost;grind
theorem Ki {m N K:Nat} {t0 t:bq} (v:Valid m N K t0 t) {r c:Nat} (hr:r<m) (hnb:¬iO m t c) (j:Nat):iO m (t.pivot r c) j↔(iO m t j/\j≠t.basis r)∨j=c:=by
 constructor
 ·rintro ⟨i,hi,e⟩
  have e':(if i=r then c else t.basis i)=j:=e
  by_cases h:i=r
  ·rw [if_pos h] at e';exact .inr e'.symm
  ·rw [if_neg h] at e'
   exact .inl ⟨⟨i,hi,e'⟩,fun h2=>h (v.inj hi hr (e'.trans h2))⟩
 ·rintro (⟨⟨i,hi,e⟩,h2⟩|e)
  ·refine ⟨i,hi,?_⟩
   show (if i=r then c else t.basis i)=j
   rw [if_neg (fun h=>h2 (by rw [<-e,h]))];exact e
  ·refine ⟨r,hr,?_⟩
   show (if r=r then c else t.basis r)=j
   rw [if_pos rfl];exact e.symm
theorem rM {m N K:Nat} {t0 t:bq} (v:Valid m N K t0 t) {c:Nat} (h:¬Cg K (t.cost m c)):¬iO m t c:=by
 rintro ⟨r,hr,rfl⟩
 exact h (fun k hk=>by show t.cell (m+k) (t.basis r)=0;rw [v.unit r hr (m+k) (by omega),if_neg (by omega)])
theorem lM.nb {m N K:Nat} {t0 t t':bq} (v:Valid m N K t0 t) (s:lM m N K t t'):¬iO m t s.c:=rM v (fun h=>vH h s.neg)
theorem a4o {m N K:Nat} {t0 t:bq} (v:Valid m N K t0 t) {r c:Nat} (hr:r<m) (hc:c<N) (hp:t.cell r c≠0) (hnb:¬iO m t c) (h0:t.cell r N=0):
 ∀j,j<N->(t.pivot r c).X m N j=t.X m N j:=by
 have v':=v.pivot hr hc hp
 have hs:∀i,i<m->(t.pivot r c).F N 1 (t.X m N) i=0:=(v'.ur 1 _).1 ((v.ur 1 _).2 (fun i hi=>v.MV hi))
 have hy:∀j,j<N->(∀i,i<m->(t.pivot r c).basis i≠j)->t.X m N j=0:=by
  intro j _ h
  by_cases hb:iO m t j
  ·by_cases e:j=t.basis r
   ·subst e;rw [Ay v hr];exact h0
   ·obtain ⟨i,hi,e2⟩:=(Ki v hr hnb j).2 (.inl ⟨hb,e⟩)
    exact absurd e2 (h i hi)
  ·exact zu (fun i hi e=>hb ⟨i,hi,e⟩)
 intro j hj
 by_cases e:iO m (t.pivot r c) j
 ·obtain ⟨i,hi,rfl⟩:=e
  rw [Ay v' hi,xm v' hy hs hi];grind
 ·rw [zu (fun i hi e2=>e ⟨i,hi,e2⟩),hy j hj (fun i hi e2=>e ⟨i,hi,e2⟩)]
theorem SG {P:Nat->Prop} {B:Nat} (h:∃x,P x) (hb:∀x,P x->x<B):∃x,P x/\∀y,P y->y<=x:=by
 apply Classical.byContradiction
 intro hno
 have grow:∀n,∃x,P x/\n<=x:=by
  intro n;induction n with
  |zero=>obtain ⟨x,hx⟩:=h;exact ⟨x,hx,by omega⟩
  |succ n ih=>
   obtain ⟨x,hx,hn⟩:=ih
   apply Classical.byContradiction
   intro h2
   exact hno ⟨x,hx,fun y hy=>by
    apply Classical.byContradiction
    intro h3
    exact h2 ⟨y,hy,by omega⟩⟩
 obtain ⟨x,hx,hB⟩:=grow B
 have:=hb x hx
 omega
theorem Pf {m N K:Nat} {t0:bq} (seq:Nat->bq) (h0:PInv m N K t0 (seq 0)) (hs':∀i,i<2^N->Nonempty (lM m N K (seq i) (seq (i+1)))):False:=by
 have hinv:∀i,i<=2^N->PInv m N K t0 (seq i):=by
  intro i;induction i with
  |zero=>intro _;exact h0
  |succ i ih=>intro hi;exact (Classical.choice (hs' i (by omega))).inv (ih (by omega))
 obtain ⟨i,j,hij,hj,em⟩:=Vx N (2^N) (fun i=>rL m N (seq i)) (fun i _=>CL m N _) (Nat.le_refl _)
 have em:rL m N (seq i)=rL m N (seq j):=em
 have st:∀p,i<=p/\p<j->Nonempty (lM m N K (seq p) (seq (p+1))):=fun p hp=>hs' p (by omega)
 have iv:∀p,i<=p/\p<=j->PInv m N K t0 (seq p):=fun p hp=>hinv p (by omega)
 have b4O:∀p,i<=p/\p<j->¬eD K (fun k=>(seq p).obj m N k -(seq (p+1)).obj m N k):=by
  intro p hp
  obtain ⟨s⟩:=st p hp
  have hq:=uD ((iv p (by omega)).DW s.r s.hr) s.pos
  exact NN.congr (NN.smul (gU.2 (.inr s.neg.neg)) hq) (fun k _=>(s.obj k).symm)
 have dec:∀d p,i<=p/\p+d<=j->¬eD K (fun k=>(seq p).obj m N k -(seq (p+d)).obj m N k):=by
  intro d p;induction d with
  |zero=>intro _;exact NN.congr NN.zero (fun k _=>by show (0:Rat)=(seq p).obj m N k -(seq p).obj m N k;grind)
  |succ d ih=>
   intro hp
   exact NN.congr (NN.add (ih (by omega)) (b4O (p+d) (by omega))) (fun k _=>by
    show _=(seq p).obj m N k -(seq (p+d+1)).obj m N k
    grind)
 have still:∀p,i<=p/\p<j->∀s:lM m N K (seq p) (seq (p+1)),(seq p).cell s.r N=0:=by
  intro p hp s
  have hr:=(iv p (by omega)).DW s.r s.hr
  apply Classical.byContradiction
  intro hne
  have hpos:0<(seq p).cell s.r N/(seq p).cell s.r s.c:=by
   have:=uC (show 0<(seq p).cell s.r N by grind) (Rat.inv_pos.2 s.pos)
   have e:(seq p).cell s.r N*((seq p).cell s.r s.c)⁻¹=(seq p).cell s.r N/(seq p).cell s.r s.c:=by grind
   rw [e] at this;exact this
  have h1:mN K (fun k=>(seq p).obj m N k -(seq (p+1)).obj m N k):=(s.neg.neg.smul hpos).congr (fun k _=>(s.obj k).symm)
  have h2:=dec (p - i) i (by omega)
  have h3:=dec (j -(p+1)) (p+1) (by omega)
  have e2:i+(p - i)=p:=by omega
  have e3:p+1+(j -(p+1))=j:=by omega
  rw [e2] at h2;rw [e3] at h3
  have h4:=(h1.add h2).add h3
  exact vG (fun k hk=>by
   have:=MX (iv i (by omega)).toValid (iv j (by omega)).toValid em hk
   show _ - _+(_ - _)+(_ - _)=_
   grind) h4
 have xst:∀d p,i<=p/\p+d<=j->∀c,c<N->(seq (p+d)).X m N c=(seq p).X m N c:=by
  intro d p;induction d with
  |zero=>intro _ c _;rfl
  |succ d ih=>
   intro hp c hc
   rw [<-ih (by omega) c hc]
   obtain ⟨s⟩:=st (p+d) (by omega)
   have h0:=still (p+d) (by omega) s
   have v:=(iv (p+d) (by omega)).toValid
   have e:=s.eq
   show (seq (p+d+1)).X m N c=_
   rw [e]
   exact a4o v s.hr s.hc (by have:=s.pos;grind) (s.nb v) h0 c hc
 have xeq:∀p q,(i<=p/\p<=j)->(i<=q/\q<=j)->∀c,c<N->(seq p).X m N c=(seq q).X m N c:=by
  intro p q hp hq c hc
  have h1:=xst (p - i) i (by omega) c hc
  have h2:=xst (q - i) i (by omega) c hc
  have e1:i+(p - i)=p:=by omega
  have e2:i+(q - i)=q:=by omega
  rw [e1] at h1;rw [e2] at h2;rw [h1,h2]
 let Leaves:Nat->Prop:=fun x=>∃p,(i<=p/\p<j)/\∃s:lM m N K (seq p) (seq (p+1)),(seq p).basis s.r=x
 let Enters:Nat->Prop:=fun x=>∃p,(i<=p/\p<j)/\∃s:lM m N K (seq p) (seq (p+1)),s.c=x
 have SH:∀p,i<=p/\p<j->∀s:lM m N K (seq p) (seq (p+1)),∀x,iO m (seq (p+1)) x↔(iO m (seq p) x/\x≠(seq p).basis s.r)∨x=s.c:=by
  intro p hp s x
  have v:=(iv p (by omega)).toValid
  have:=Ki v (c:=s.c) s.hr (s.nb v) x
  rw [<-s.eq] at this;exact this
 have stay:∀x,¬Leaves x->∀d p,i<=p/\p+d<=j->iO m (seq p) x->iO m (seq (p+d)) x:=by
  intro x hx d p;induction d with
  |zero=>intro _ h;exact h
  |succ d ih=>
   intro hp h
   obtain ⟨s⟩:=st (p+d) (by omega)
   exact (SH (p+d) (by omega) s x).2 (.inl ⟨ih (by omega) h,fun e=>hx ⟨p+d,by omega,s,e.symm⟩⟩)
 have always:∀x,x<N->¬Leaves x->∀p q,(i<=p/\p<=j)->(i<=q/\q<=j)->iO m (seq p) x->iO m (seq q) x:=by
  intro x hxN hx p q hp hq h
  have h1:=stay x hx (j - p) p (by omega) h
  have e1:p+(j - p)=j:=by omega
  rw [e1] at h1
  have h2:=(Ir em hxN).2 h1
  have h3:=stay x hx (q - i) i (by omega) h2
  have e2:i+(q - i)=q:=by omega
  rw [e2] at h3;exact h3
 have Vz:∀x,¬Enters x->∀d p,i<=p/\p+d<=j->iO m (seq (p+d)) x->iO m (seq p) x:=by
  intro x hx d p;induction d with
  |zero=>intro _ h;exact h
  |succ d ih=>
   intro hp h
   obtain ⟨s⟩:=st (p+d) (by omega)
   rcases (SH (p+d) (by omega) s x).1 h with h|h
   ·exact ih (by omega) h.1
   ·exact absurd ⟨p+d,by omega,s,h.symm⟩ hx
 have AA:∀x,Leaves x->x<N:=by
  rintro x ⟨p,hp,s,rfl⟩;exact (iv p (by omega)).lt s.r s.hr
 obtain ⟨s0⟩:=st i (by omega)
 obtain ⟨t,⟨p,hp,s,ht⟩,a7v⟩:=SG (P:=Leaves) (B:=N) ⟨_,i,by omega,s0,rfl⟩ AA
 have vp:=(iv p (by omega)).toValid
 have htN:t<N:=AA t ⟨p,hp,s,ht⟩
 have b4P:∀q,i<=q/\q<j->∀s:lM m N K (seq q) (seq (q+1)),Leaves s.c:=by
  intro q hq s'
  apply Classical.byContradiction
  intro hno
  exact s'.nb (iv q (by omega)).toValid (always s'.c s'.hc hno (q+1) q (by omega) (by omega) ((SH q hq s' s'.c).2 (.inr rfl)))
 have hst:s.c<t:=by
  have h1:=a7v s.c (b4P p hp s)
  have h2:s.c≠t:=by
   intro e;apply s.nb vp;rw [e,<-ht];exact ⟨s.r,s.hr,rfl⟩
  omega
 have hte:Enters t:=by
  apply Classical.byContradiction
  intro hno
  have hb:iO m (seq p) t:=⟨s.r,s.hr,ht⟩
  have h1:=Vz t hno (p - i) i (by omega)
  have e1:i+(p - i)=p:=by omega
  rw [e1] at h1
  have h2:=(Ir em htN).1 (h1 hb)
  have h3:=Vz t hno (j -(p+1)) (p+1) (by omega)
  have e3:p+1+(j -(p+1))=j:=by omega
  rw [e3] at h3
  rcases (SH p hp s t).1 (h3 h2) with h|h
  ·exact h.2 ht.symm
  ·omega
 obtain ⟨q,hq,s2,ht2⟩:=hte
 have vq:=(iv q (by omega)).toValid
 have hnb:=s.nb vp
 have hom:=yu vp s.hc hnb
 have b4Q:∀a,a<m->(seq q).F N 0 ((seq p).dir m s.c) a=0:=(vq.ur 0 _).1 ((vp.ur 0 _).2 hom)
 have b0Q:∀k,k<K->(seq p).cost m s.c k=(seq q).cost m s.c k+S m (fun a=> -((seq q).cost m ((seq p).basis a) k*(seq p).cell a s.c)):=by
  intro k hk
  rw [<-MZ vp s.hc hnb hk,vp.cost 0 _ hom k hk,<-vq.cost 0 _ b4Q k hk]
  unfold bq.F
  rw [Iu vp s.hc hnb]
  have:S m (fun a=> -((seq q).cost m ((seq p).basis a) k*(seq p).cell a s.c))=(-1)*S m (fun r=>(seq q).cell (m+k) ((seq p).basis r)*(seq p).cell r s.c):=by
   rw [<-pV];exact dw (fun a _=>by unfold bq.cost;grind)
  rw [this];unfold bq.cost;grind
 have hneg:eD K (fun k=>(seq q).cost m s.c k+S m (fun a=> -((seq q).cost m ((seq p).basis a) k*(seq p).cell a s.c))):=s.neg.congr b0Q
 have hc2:¬eD K ((seq q).cost m s.c):=s2.first s.c (by omega)
 have hex:∃a,a<m/\eD K (fun k=> -((seq q).cost m ((seq p).basis a) k*(seq p).cell a s.c)):=by
  apply Classical.byContradiction
  intro hno
  exact NN.add hc2 (NN.sum (n:=m) (u:=fun a k=> -((seq q).cost m ((seq p).basis a) k*(seq p).cell a s.c)) (fun a ha h=>hno ⟨a,ha,h⟩)) hneg
 obtain ⟨a,ha,han⟩:=hex
 have a1W:mN K (fun k=>(seq q).cost m ((seq p).basis a) k*(seq p).cell a s.c):=han.neg.congr (fun k _=>by grind)
 have b4R:¬iO m (seq q) ((seq p).basis a):=rM vq (fun hz=>vG (fun k hk=>by rw [hz k hk];grind) a1W)
 have zO:Leaves ((seq p).basis a):=by
  apply Classical.byContradiction
  intro hno
  exact b4R (always _ (vp.lt a ha) hno p q (by omega) (by omega) ⟨a,ha,rfl⟩)
 have hale:=a7v _ zO
 have hane:(seq p).basis a≠t:=by
  intro e
  have har:a=s.r:=vp.inj ha s.hr (e.trans ht.symm)
  subst har
  have h1:eD K (fun k=>(seq p).cell s.r s.c*(seq q).cost m s2.c k):=s2.neg.smul s.pos
  exact CK (h1.congr (fun k _=>by rw [ht2,e];grind)) a1W
 have hcell:0<(seq p).cell a s.c:=by
  have hc3:¬eD K ((seq q).cost m ((seq p).basis a)):=s2.first _ (by omega)
  apply Classical.byContradiction
  intro hno
  have:=NN.smul hc3 (show 0<= -(seq p).cell a s.c by grind)
  exact this (han.congr (fun k _=>by grind))
 have ha0:(seq p).cell a N=0:=by
  obtain ⟨p',hp',s',e'⟩:=zO
  have h1:=still p' hp' s'
  rw [<-Ay vp ha,xeq p p' (by omega) (by omega) _ (vp.lt a ha),<-e',Ay (iv p' (by omega)).toValid s'.hr];exact h1
 have fy:=still p hp s
 rcases s.best a ha hcell with h|⟨_,h⟩
 ·rw [fy,ha0] at h;grind
 ·omega
end Go.Proofs.Ytnhknojfpjheoaa.Lp
