/-
  Part 13 of the proof of this: The law FnExactPlanOK answers true at every argument.
-/
import Derived.Test.YtkckdphjhlbdcaaKPlanOK2
import Derived.Test.YtkckdphjhlbdcaaKPlanOK4
import Derived.Test.YtkckdphjhlbdcaaKPlanOK10
import Derived.Test.YtkckdphjhlbdcaaKPlanOK11
import Derived.Test.YtkckdphjhlbdcaaKPlanOK12
namespace Go.Proofs.Ytkckdphjhlbdcaa.P
open Go.RowKit Go.Proofs.YtkckdphjhlbdcaaW.PrintWords Go.Proofs.YtkckdphjhlbdcaaW.PrintLast Go.Proofs.YtkckdphjhlbdcaaW.PrintMore
attribute [local go_sem] max2_int min2_int max_two min_two max_three min_three max_four min_four
set_option linter.all false
def cm.l0:Nat->List (List Int)->List (dm)->List (List Int)->Int->Int->Int->Int->Option ((List (dm))×Int×Int)
 |0,_,_,_,_,_,_,_=>none
 |k+1,x1,x6,zS,x14,FE,Ms,Mt=>if FE<x14 then (if 0<=FE then (if FE<(zS.length:Int) then ((aG.f k (cZ zS FE) x1).bind fun EE=>(if x6.length<8796093022208 then ((some (x6++[(⟨EE.1,EE.2⟩:dm)]:List (dm))).bind fun tY=>((cr.f Ms Mt EE.1 EE.2).bind fun Dz=>(if Dz=true then (cm.l0 k x1 tY zS x14 (wrap64 (FE+1)) EE.1 EE.2) else (cm.l0 k x1 tY zS x14 (wrap64 (FE+1)) Ms Mt)))) else (none))) else (none)) else (none)) else (some (x6,Ms,Mt))
def cm.f (k:Nat) (l0:List (List Int)) (l1:List (List Int)):Option ((List (dm))×Int×Int):=cm.l0 k l1 (([]:List (dm))) l0 (l0.length:Int) 0 0 1
theorem cm.cC:∀k,(∀y0 y1 y2 y3 y4 y5 y6,aR (cm.l0 k y0 y1 y2 y3 y4 y5 y6) (cm.l0 (k+1) y0 y1 y2 y3 y4 y5 y6))
 |0=>fun _ _ _ _ _ _ _ r h=>by simp [cm.l0] at h
 |k+1=>by
  have dN:=cm.cC k
  ·intro y0 y1 y2 y3 y4 y5 y6
   unfold cm.l0
   repeat' first
   |(with_reducible exact dN _ _ _ _ _ _ _)
   |(with_reducible exact aG.mono _ _ _)
   |(with_reducible exact aR.refl _)
   |(with_reducible exact aR.none _)
   |(with_reducible refine aR.ite ?_ ?_)
   |(with_reducible refine aR.bind ?_ (fun _=>?_))
theorem cm.mono:∀a0 a1 k,aR (cm.f k a0 a1) (cm.f (k+1) a0 a1):=by
 intro a0 a1 k
 have dN:=cm.cC k
 unfold cm.f
 repeat' first
  |(with_reducible exact dN _ _ _ _ _ _ _)
  |(with_reducible exact aG.mono _ _ _)
  |(with_reducible exact aR.refl _)
  |(with_reducible exact aR.none _)
  |(with_reducible refine aR.ite ?_ ?_)
  |(with_reducible refine aR.bind ?_ (fun _=>?_))
set_option maxHeartbeats 8000000 in
set_option maxRecDepth 100000 in
theorem cm.calls (k:Nat) (A0:Option Addr) (c0:Nat) (l0:List (List Int)) (A1:Option Addr) (c1:Nat) (l1:List (List Int)) (r1:List (dm)) (r2:Int) (r3:Int) (w:World) (fl:Kd.C (Kd.slice 3 (Kd.int .i64)) w A0 l0.length l0) (hc0:l0.length<=c0) (hr1:Kd.C (Kd.slice 3 (Kd.int .i64)) w A1 l1.length l1) (hc1:l1.length<=c1) (h:cm.f k l0 l1=some (r1,r2,r3)):
 Calls Try.prog 28 #[.slice A0 l0.length c0,.slice A1 l1.length c1] w fun e w'=>∃lH:Value,e= .returned (.tuple #[lH,.agg #[.int .i64 r2,.int .i64 r3]])/\Kd.R gY 34 w' w.heap.size (fun _=>True) lH r1/\Below w.heap.size w w':=by
 have lB:=Try.underlying34
 have eu:=Aside0.mk fl
 have kr:=Aside0.mk hc0
 clear fl hc0
 have gA:=Aside0.mk hr1
 have gb:=Aside0.mk hc1
 clear hr1 hc1
 have HB:=Aside0.mk (Below.refl w.heap.size w)
 have H:(cm.l0 k l1 (([]:List (dm))) l0 (l0.length:Int) 0 0 1)=some (r1,r2,r3):=h
 clear h
 obtain ⟨b1I,JV⟩:∃y_:List (dm),y_=(([]:List (dm))):=⟨_,rfl⟩
 replace H:(cm.l0 k l1 b1I l0 (l0.length:Int) 0 0 1)=some (r1,r2,r3):=by first|(rw [JV];with_reducible exact H)|(have eF:=(Option.bind_some _ _).symm.trans H;rw [JV];with_reducible exact eF)|(have eF:=(Option.bind_some _ _).symm.trans H;with_reducible exact eF)|with_reducible exact H|(rw [JV];exact H)|exact H
 have a5M:=Aside0.mk JV
 clear JV
 have H':=Aside0.mk H
 clear H
 go_enter Try.func28,Try.ntmps28
 go_wp2_with (first|((with_reducible refine bn (N:=5) rfl ?_);refine bq ?hg (N:=5) ?hd (cs:= #[.int .i64 0,.int .i64 0]) (t:=34) ?hr ?_;(case hd=>rfl);(case hg=>rfl);(case hr=>first|(go_simp;done)|(go_simp;rfl));intro fI hg w3 aU hb;have aA:=Aside0.mk (ah ay hb);have aC:=Aside0.mk (aU);have aD:=Aside0.mk ((by rw [hg];exact (ax ay):w.heap.size<=fI));have aK:=Aside0.mk ((by rw [hg];exact (ax ay):w.heap.size<=fI));clear HB;have HB:=aA;have ek:=aC;have GW274:=aD;have GE274:=aK;clear aA aC aD aK;clear hb aU hg)|((with_reducible refine bn (N:=11) rfl ?_);refine Kd.DM gY _ 34 ?hg (N:=11) ?hd (xs:=([]:List (dm))) (inner:=[]) (ok:=fun _=>True) (gK:=fun _=>True) ?hr ?hp (fun _ hk=>hk) trivial (Below.refl _ _) (Nat.le_refl _) (by simp) ?_;(case hd=>rfl);(case hg=>rfl);(case hr=>first|(go_simp;done)|(go_simp;rfl));(case hp=>exact (dD.none _ _));intro v276 w4 lJ hb vR nQ;clear vR nQ;(first|rw [<-a5M.out] at lJ|(simp only [Int.reduceToNat] at lJ;rw [<-a5M.out] at lJ));have aA:=Aside0.mk (Kd.ie (Kd.XH lJ (g:=fI) (o:= .cells #[.int .i64 0,.int .i64 0] 34 (0,0)) (aH ek)) (ax ay));have aC:=Aside0.mk (aj (g:=fI) (o:= .cells #[.int .i64 0,.int .i64 0] 34 (0,0)) (aH ek) hb);have aD:=Aside0.mk (ah ay hb);clear ek;clear HB;have OX:=aA;have ek:=aC;have HB:=aD;clear aA aC aD;clear hb lJ)|((with_reducible refine bn (N:=7) rfl ?_);refine bq ?hg (N:=7) ?hd (cs:= #[.int .i64 0,.int .i64 0]) (t:=34) ?hr ?_;(case hd=>rfl);(case hg=>rfl);(case hr=>first|(go_simp;done)|(go_simp;rfl));intro fA hg w6 aU hb;have aA:=Aside0.mk (Kd.ig (Kd.FI (by (with_reducible repeat (first|apply Kd.ck|apply Kd.cn|apply Kd.cK));exact OX.out) fA (Nat.le_of_eq hg.symm)) hb);have aC:=Aside0.mk (aj (g:=fI) (o:= .cells #[.int .i64 0,.int .i64 0] 34 (0,0)) (aH ek) hb);have aD:=Aside0.mk (ah ay hb);have aK:=Aside0.mk (aU);have bF:=Aside0.mk ((by rw [hg];exact (ax ay):w.heap.size<=fA));have bS:=Aside0.mk ((by rw [hg];exact (ax ay):w.heap.size<=fA));have bY:=Aside0.mk ((by rw [hg];exact Nat.ne_of_lt (bf (g:=fI) (o:= .cells #[.int .i64 0,.int .i64 0] 34 (0,0)) (aH ek)):fI≠fA));have eX:=Aside0.mk ((by rw [hg];exact Nat.ne_of_gt (bf (g:=fI) (o:= .cells #[.int .i64 0,.int .i64 0] 34 (0,0)) (aH ek)):fA≠fI));clear OX;clear ek;clear HB;have OX:=aA;have ek:=aC;have HB:=aD;have dW:=aK;have GW278:=bF;have GE278:=bS;have nV:=bY;have nW:=eX;clear aA aC aD aK bF bS bY eX;clear hb aU hg;have CA:=nW.out;have CB:=nV.out;have PV:w6.cell? ⟨fA,0,none⟩=some (.int .i64 0):=(ag dW.out 0).trans rfl;have PW:w6.cell? ⟨fA,1,none⟩=some (.int .i64 0):=(ag dW.out 1).trans rfl;have PX:=af dW.out 0;have PY:=af dW.out 1))
 go_loopg [6,15] k (fun kq v6 v15 w'=>∃(cS:List (dm)) (iE:Int) (dw:Int) (dx:Int),v15= .int .i64 iE/\Aside0 (cm.l0 kq l1 cS l0 (l0.length:Int) iE dw dx=some (r1,r2,r3))/\Aside0 (kq<=k)/\Aside0 (Kd.R gY 34 w' w.heap.size (fun k_=>k_≠fI/\k_≠fA) v6 cS)/\Aside0 (w'.heap[fI]? =some (.cells #[.int .i64 0,.int .i64 0] 34 (0,0)))/\Aside0 (w'.heap[fA]? =some (.cells #[.int .i64 dw,.int .i64 dx] 34 (0,0)))/\Aside0 (Below w.heap.size w w'))
 case atStart=>exact ⟨(b1I),(0),(0),(1),(by first|rfl|(simp;done)|(simp [*];done)),H',⟨Nat.le_refl _⟩,⟨by (with_reducible repeat (first|apply Kd.ck|apply Kd.cn|apply Kd.cK));exact Kd.dh (Kd.fD (p:=⟨fA,1,none⟩) (Kd.fD (p:=⟨fA,0,none⟩) (Kd.dh OX.out (fun k_ hk=>(⟨hk,hk.2⟩:_/\k_≠fA))) (fun _ hk=>hk.2) (.int .i64 0)) (fun _ hk=>hk.2) (.int .i64 1)) (fun _ hk=>⟨hk.1.1.2,hk.1.2⟩)⟩,⟨by (with_reducible repeat (first|refine aq ?_ _|refine ak ?_|refine ai ?_ _));refine bM ?_ nV.out _;(with_reducible repeat (first|refine aq ?_ _|refine ak ?_|refine ai ?_ _));refine bM ?_ nV.out _;(with_reducible repeat (first|refine aq ?_ _|refine ak ?_|refine ai ?_ _));exact ek.out⟩,⟨by (with_reducible repeat (first|refine aq ?_ _|refine ak ?_|refine ai ?_ _));refine bh (cs:= #[.int .i64 0,.int .i64 0]) ?_ 1 _ rfl;(with_reducible repeat (first|refine aq ?_ _|refine ak ?_|refine ai ?_ _));refine bh (cs:= #[.int .i64 0,.int .i64 0]) ?_ 0 _ rfl;(with_reducible repeat (first|refine aq ?_ _|refine ak ?_|refine ai ?_ _));exact dW.out⟩,⟨ay⟩⟩
 case round=>
  clear H'
  try clear c1
  try clear c2
  try clear p2
  try clear c7
  try clear PV
  try clear PW
  try clear PX
  try clear PY
  obtain ⟨cS,iE,dw,dx,rfl,HA,dX,cT,ek,dW,HB⟩:=hrel
  cases gk with
  |zero=>exact absurd HA.out (by simp [cm.l0])
  |succ k1=>
   have H:=HA.out
   clear HA
   simp only [cm.l0] at H
   by_cases c9:iE<(l0.length:Int)
   ·rw [if_pos c9] at H
    have wI:decide (iE<(l0.length:Int))=true:=decide_eq_true c9
    clear c9
    by_cases c10:0<=iE
    ·rw [if_pos c10] at H
     have xm:decide (0<=iE)=true:=decide_eq_true c10
     clear c10
     by_cases c11:iE<(l0.length:Int)
     ·rw [if_pos c11] at H
      have a4K:decide (iE<(l0.length:Int))=true:=decide_eq_true c11
      clear c11
      replace H:=Option.bind_eq_some_iff.mp H
      obtain ⟨⟨iB,jw⟩,b1J,H⟩:=H
      replace H:(if cS.length<8796093022208 then ((some (cS++[(⟨iB,jw⟩:dm)]:List (dm))).bind fun tY=>((cr.f dw dx iB jw).bind fun Dz=>(if Dz=true then (cm.l0 k1 l1 tY l0 (l0.length:Int) (wrap64 (iE+1)) iB jw) else (cm.l0 k1 l1 tY l0 (l0.length:Int) (wrap64 (iE+1)) dw dx)))) else (none))=some (r1,r2,r3):=H
      have A12:=Aside0.mk b1J
      clear b1J
      by_cases c13:cS.length<8796093022208
      ·rw [if_pos c13] at H
       have a5N:=Aside0.mk c13
       clear c13
       obtain ⟨tY,JW⟩:∃y_:List (dm),y_=(cS++[(⟨iB,jw⟩:dm)]):=⟨_,rfl⟩
       replace H:((cr.f dw dx iB jw).bind fun Dz=>(if Dz=true then (cm.l0 k1 l1 tY l0 (l0.length:Int) (wrap64 (iE+1)) iB jw) else (cm.l0 k1 l1 tY l0 (l0.length:Int) (wrap64 (iE+1)) dw dx)))=some (r1,r2,r3):=by first|(rw [JW];with_reducible exact H)|(have eF:=(Option.bind_some _ _).symm.trans H;rw [JW];with_reducible exact eF)|(have eF:=(Option.bind_some _ _).symm.trans H;with_reducible exact eF)|with_reducible exact H|(rw [JW];exact H)|exact H
       have a5O:=Aside0.mk JW
       clear JW
       replace H:=Option.bind_eq_some_iff.mp H
       obtain ⟨Dz,b1K,H⟩:=H
       replace H:(if Dz=true then (cm.l0 k1 l1 tY l0 (l0.length:Int) (wrap64 (iE+1)) iB jw) else (cm.l0 k1 l1 tY l0 (l0.length:Int) (wrap64 (iE+1)) dw dx))=some (r1,r2,r3):=H
       have A14:=Aside0.mk b1K
       clear b1K
       by_cases c15:Dz=true
       ·subst c15
        have H1:(cm.l0 k1 l1 tY l0 (l0.length:Int) (wrap64 (iE+1)) iB jw)=some (r1,r2,r3):=by rw [if_pos rfl] at H;exact H
        clear H
        have H:=H1
        clear H1
        have H':=Aside0.mk H
        clear H
        have He:0<=(iE:Int):=of_decide_eq_true (by first|(with_reducible assumption)|assumption)
        have Hf:iE<(l0.length:Int):=of_decide_eq_true (by first|(with_reducible assumption)|assumption)
        obtain ⟨b4d,SE,SF,e279,uL,AK,AL⟩:=kX eu.out iE He Hf
        cases e279
        replace uL:=(HB.out.cell (World.block_lt_of_cell? w _ uL)).trans uL
        have Mu:=Aside0.mk AL
        have Mv:=Aside0.mk AK
        clear AL AK
        replace He:=eq_true He
        replace Hf:=eq_true Hf
        go_wp2_with (first|((with_reducible refine aV (f:=50) rfl ?_);refine bH (some 21) rfl rfl Try.func50 (by kernel_rfl) rfl #[.slice SE (cZ l0 iE).length SF,.slice A1 l1.length c1] rfl (by (try simp only [List.map_toArray,List.map_cons,List.map_nil]);first|done|rfl|(simp only [List.length_drop,List.length_take];rfl)) ?_;(with_reducible refine (aG.calls k1 _ _ (cZ l0 iE) _ _ l1 iB jw _ ?bO ?bP ?fV ?fW A12.out).mono ?_);(case bO=>repeat (first|exact (Kd.bp Mu.out HB.out)|(with_reducible refine Kd.bV ?_ _)|(with_reducible refine Kd.bW ?_ _)|(with_reducible refine Kd.cy ?_)));(case bP=>exact Mv.out);(case fV=>repeat (first|exact (Kd.bp gA.out HB.out)|(with_reducible refine Kd.bV ?_ _)|(with_reducible refine Kd.bW ?_ _)|(with_reducible refine Kd.cy ?_)));(case fW=>exact gb.out);rintro e xL ⟨rfl,hb⟩;refine ⟨_,rfl,?_⟩;have aA:=Aside0.mk (Kd.ig (by (with_reducible repeat (first|apply Kd.ck|apply Kd.cn|apply Kd.cK));exact cT.out) hb);have aC:=Aside0.mk (aj (g:=fI) (o:= .cells #[.int .i64 0,.int .i64 0] 34 (0,0)) (aH ek) hb);have aD:=Aside0.mk (aj (g:=fA) (o:= .cells #[.int .i64 dw,.int .i64 dx] 34 (0,0)) (aH dW) hb);have aK:=Aside0.mk (ah ay hb);clear cT;clear ek;clear dW;clear HB;have cT:=aA;have ek:=aC;have dW:=aD;have HB:=aK;clear aA aC aD aK;(try clear hb);(try clear hb2);(try clear hk);(try clear hi))|((with_reducible refine bn (N:=10) rfl ?_);refine bq ?hg (N:=10) ?hd (cs:= #[.int .i64 0,.int .i64 0]) (t:=34) ?hr ?_;(case hd=>rfl);(case hg=>rfl);(case hr=>first|(go_simp;done)|(go_simp;rfl));intro fP hg sX aU hb;have aA:=Aside0.mk (Kd.ig (Kd.FI (by (with_reducible repeat (first|apply Kd.ck|apply Kd.cn|apply Kd.cK));exact cT.out) fP (Nat.le_of_eq hg.symm)) hb);have aC:=Aside0.mk (aj (g:=fI) (o:= .cells #[.int .i64 0,.int .i64 0] 34 (0,0)) (aH ek) hb);have aD:=Aside0.mk (aj (g:=fA) (o:= .cells #[.int .i64 dw,.int .i64 dx] 34 (0,0)) (aH dW) hb);have aK:=Aside0.mk (ah ay hb);have bF:=Aside0.mk (aU);have bS:=Aside0.mk ((by rw [hg];exact (ax ay):w.heap.size<=fP));have bY:=Aside0.mk ((by rw [hg];exact (ax ay):w.heap.size<=fP));have eX:=Aside0.mk ((by rw [hg];exact Nat.ne_of_lt (bf (g:=fI) (o:= .cells #[.int .i64 0,.int .i64 0] 34 (0,0)) (aH ek)):fI≠fP));have fY:=Aside0.mk ((by rw [hg];exact Nat.ne_of_gt (bf (g:=fI) (o:= .cells #[.int .i64 0,.int .i64 0] 34 (0,0)) (aH ek)):fP≠fI));have gT:=Aside0.mk ((by rw [hg];exact Nat.ne_of_lt (bf (g:=fA) (o:= .cells #[.int .i64 dw,.int .i64 dx] 34 (0,0)) (aH dW)):fA≠fP));have SG:=Aside0.mk ((by rw [hg];exact Nat.ne_of_gt (bf (g:=fA) (o:= .cells #[.int .i64 dw,.int .i64 dx] 34 (0,0)) (aH dW)):fP≠fA));clear cT;clear ek;clear dW;clear HB;have cT:=aA;have ek:=aC;have dW:=aD;have HB:=aK;have gF:=bF;have b4e:=bS;have b4f:=bY;have lK:=eX;have DA:=fY;have lM:=gT;have DB:=SG;clear aA aC aD aK bF bS bY eX fY gT SG;clear hb aU hg;have b3g:=DA.out;have b3h:=lK.out;have hnb19:=DB.out;have hnc19:=lM.out;have Lt:sX.cell? ⟨fP,0,none⟩=some (.int .i64 0):=(ag gF.out 0).trans rfl;have Lu:sX.cell? ⟨fP,1,none⟩=some (.int .i64 0):=(ag gF.out 1).trans rfl;have Lv:=af gF.out 0;have Lx:=af gF.out 1)|((with_reducible refine gW (b:= .append) (xs:= #[.tmp 22,.tmp 24]) rfl ?_);at_builtin;refine Kd.mR gY (w0:=w) w.heap.size rfl (.tmp 22) (.tmp 24) 33 34 (.agg #[(.int .i64 0),(.int .i64 0)]) 16 rfl Try.underlying33 Cv rfl (by decide) (by omega) u6 cS (⟨iB,jw⟩:dm) [.int .i64 iB,.int .i64 jw] (fun k_=>k_≠fI/\k_≠fA/\k_≠fP) (fun _=>False) rfl (by first|(go_simp;done)|(go_simp;rfl)) ?aP (fun _ hk=>hk.elim) ?aF ?aO ?aB ?aS ?aL ?_;(case aP=>exact xB _ _ _ (⟨iB,jw⟩:dm));(case aB=>exact ay);(case aF=>exact (fun k_ hk=>⟨Kd.xG (g:=fI) (o:= .cells #[.int .i64 0,.int .i64 0] 34 (0,0)) (by (with_reducible repeat (first|refine aq ?_ _|refine ak ?_|refine ai ?_ _));refine bM ?_ lK.out _;(with_reducible repeat (first|refine aq ?_ _|refine ak ?_|refine ai ?_ _));refine bM ?_ lK.out _;(with_reducible repeat (first|refine aq ?_ _|refine ak ?_|refine ai ?_ _));exact ek.out) k_ hk,Kd.xG (g:=fA) (o:= .cells #[.int .i64 dw,.int .i64 dx] 34 (0,0)) (by (with_reducible repeat (first|refine aq ?_ _|refine ak ?_|refine ai ?_ _));refine bM ?_ lM.out _;(with_reducible repeat (first|refine aq ?_ _|refine ak ?_|refine ai ?_ _));refine bM ?_ lM.out _;(with_reducible repeat (first|refine aq ?_ _|refine ak ?_|refine ai ?_ _));exact dW.out) k_ hk,Kd.xG (g:=fP) (o:= .cells #[.int .i64 iB,.int .i64 jw] 34 (0,0)) (by (with_reducible repeat (first|refine aq ?_ _|refine ak ?_|refine ai ?_ _));refine bh (cs:= #[.int .i64 iB,.int .i64 0]) ?_ 1 _ rfl;(with_reducible repeat (first|refine aq ?_ _|refine ak ?_|refine ai ?_ _));refine bh (cs:= #[.int .i64 0,.int .i64 0]) ?_ 0 _ rfl;(with_reducible repeat (first|refine aq ?_ _|refine ak ?_|refine ai ?_ _));exact gF.out) k_ hk⟩));(case aO=>exact (by (with_reducible repeat (first|apply Kd.ck|apply Kd.cn|apply Kd.cK));exact Kd.dh (Kd.fD (p:=⟨fP,1,none⟩) (Kd.fD (p:=⟨fP,0,none⟩) (Kd.dh cT.out (fun k_ hk=>(⟨hk,hk.2⟩:_/\k_≠fP))) (fun _ hk=>hk.2) (.int .i64 iB)) (fun _ hk=>hk.2) (.int .i64 jw)) (fun _ hk=>⟨hk.1.1.1,⟨hk.1.1.2,hk.1.2⟩⟩)));(case aS=>exact (ax ay));(case aL=>have:=a5N.out;omega);intro v284 Yc ho hb hg hat;rw [<-a5O.out] at ho;have aA:=Aside0.mk (kJ (g:=fI) (o:= .cells #[.int .i64 0,.int .i64 0] 34 (0,0)) (by (with_reducible repeat (first|refine aq ?_ _|refine ak ?_|refine ai ?_ _));refine bM ?_ lK.out _;(with_reducible repeat (first|refine aq ?_ _|refine ak ?_|refine ai ?_ _));refine bM ?_ lK.out _;(with_reducible repeat (first|refine aq ?_ _|refine ak ?_|refine ai ?_ _));exact ek.out) hg (Kd.xF cT.out (fun _ hk=>hk.1.1)));have aC:=Aside0.mk (kJ (g:=fA) (o:= .cells #[.int .i64 dw,.int .i64 dx] 34 (0,0)) (by (with_reducible repeat (first|refine aq ?_ _|refine ak ?_|refine ai ?_ _));refine bM ?_ lM.out _;(with_reducible repeat (first|refine aq ?_ _|refine ak ?_|refine ai ?_ _));refine bM ?_ lM.out _;(with_reducible repeat (first|refine aq ?_ _|refine ak ?_|refine ai ?_ _));exact dW.out) hg (Kd.xF cT.out (fun _ hk=>hk.1.2)));have aD:=Aside0.mk (kJ (g:=fP) (o:= .cells #[.int .i64 iB,.int .i64 jw] 34 (0,0)) (by (with_reducible repeat (first|refine aq ?_ _|refine ak ?_|refine ai ?_ _));refine bh (cs:= #[.int .i64 iB,.int .i64 0]) ?_ 1 _ rfl;(with_reducible repeat (first|refine aq ?_ _|refine ak ?_|refine ai ?_ _));refine bh (cs:= #[.int .i64 0,.int .i64 0]) ?_ 0 _ rfl;(with_reducible repeat (first|refine aq ?_ _|refine ak ?_|refine ai ?_ _));exact gF.out) hg (Kd.xF cT.out (fun _ hk=>hk.2)));have aK:=Aside0.mk (hb);have bF:=Aside0.mk (ho);clear ek;clear dW;clear gF;clear HB;clear cT;have ek:=aA;have dW:=aC;have gF:=aD;have HB:=aK;have xy:=bF;clear aA aC aD aK bF;clear ho hb hg hat;have b4g:=nW.out;have b4h:=nV.out;have Vt:Yc.cell? ⟨fA,0,none⟩=some (.int .i64 dw):=(ag dW.out 0).trans rfl;have Vu:Yc.cell? ⟨fA,1,none⟩=some (.int .i64 dx):=(ag dW.out 1).trans rfl;have Vv:=af dW.out 0;have Vw:=af dW.out 1;have a7M:Yc.cell? ⟨fP,0,none⟩=some (.int .i64 iB):=(ag gF.out 0).trans rfl;have a7N:Yc.cell? ⟨fP,1,none⟩=some (.int .i64 jw):=(ag gF.out 1).trans rfl;have a7O:=af gF.out 0;have a7P:=af gF.out 1)|((with_reducible refine aV (f:=51) rfl ?_);refine bH (some 28) rfl rfl Try.func51 (by kernel_rfl) rfl #[.agg #[.int .i64 dw,.int .i64 dx],.agg #[.int .i64 iB,.int .i64 jw]] rfl (by (try simp only [List.map_toArray,List.map_cons,List.map_nil]);first|done|rfl|(simp only [List.length_drop,List.length_take];rfl)) ?_;(with_reducible refine (cr.calls dw dx iB jw true _ A14.out).mono ?_);rintro e w25 ⟨rfl,hb⟩;refine ⟨_,rfl,?_⟩;have aA:=Aside0.mk (Kd.ig (by (with_reducible repeat (first|apply Kd.ck|apply Kd.cn|apply Kd.cK));exact xy.out) hb);have aC:=Aside0.mk (aj (g:=fI) (o:= .cells #[.int .i64 0,.int .i64 0] 34 (0,0)) (aH ek) hb);have aD:=Aside0.mk (aj (g:=fA) (o:= .cells #[.int .i64 dw,.int .i64 dx] 34 (0,0)) (aH dW) hb);have aK:=Aside0.mk (aj (g:=fP) (o:= .cells #[.int .i64 iB,.int .i64 jw] 34 (0,0)) (aH gF) hb);have bF:=Aside0.mk (ah ay hb);clear xy;clear ek;clear dW;clear gF;clear HB;have xy:=aA;have ek:=aC;have dW:=aD;have gF:=aK;have HB:=bF;clear aA aC aD aK bF;(try clear hb);(try clear hb2);(try clear hk);(try clear hi);have Ea:w25.cell? ⟨fP,0,none⟩=some (.int .i64 iB):=(ag gF.out 0).trans rfl;have Eb:w25.cell? ⟨fP,1,none⟩=some (.int .i64 jw):=(ag gF.out 1).trans rfl;have Ec:=af gF.out 0;have Ed:=af gF.out 1;have TK:w25.cell? ⟨fA,0,none⟩=some (.int .i64 dw):=(ag dW.out 0).trans rfl;have TL:w25.cell? ⟨fA,1,none⟩=some (.int .i64 dx):=(ag dW.out 1).trans rfl;have TM:=af dW.out 0;have TN:=af dW.out 1))
        go_roundg k1
        case measure=>have:=dX.out;omega
        case rel=>exact ⟨(tY),(wrap64 (iE+1)),(iB),(jw),(by first|rfl|(simp;done)|(simp [*];done)),H',⟨by have:=dX.out;omega⟩,⟨by (with_reducible repeat (first|apply Kd.ck|apply Kd.cn|apply Kd.cK));exact Kd.dh (Kd.fD (p:=⟨fA,1,none⟩) (Kd.fD (p:=⟨fA,0,none⟩) (Kd.dh xy.out (fun k_ hk=>(⟨hk,hk.2.1⟩:_/\k_≠fA))) (fun _ hk=>hk.2) (.int .i64 iB)) (fun _ hk=>hk.2) (.int .i64 jw)) (fun _ hk=>⟨hk.1.1,hk.1.2.1⟩)⟩,⟨by (with_reducible repeat (first|refine aq ?_ _|refine ak ?_|refine ai ?_ _));refine bM ?_ nV.out _;(with_reducible repeat (first|refine aq ?_ _|refine ak ?_|refine ai ?_ _));refine bM ?_ nV.out _;(with_reducible repeat (first|refine aq ?_ _|refine ak ?_|refine ai ?_ _));exact ek.out⟩,⟨by (with_reducible repeat (first|refine aq ?_ _|refine ak ?_|refine ai ?_ _));refine bh (cs:= #[.int .i64 iB,.int .i64 dx]) ?_ 1 _ rfl;(with_reducible repeat (first|refine aq ?_ _|refine ak ?_|refine ai ?_ _));refine bh (cs:= #[.int .i64 dw,.int .i64 dx]) ?_ 0 _ rfl;(with_reducible repeat (first|refine aq ?_ _|refine ak ?_|refine ai ?_ _));exact dW.out⟩,⟨ay⟩⟩
       ·replace c15:=Bool.eq_false_iff.mpr c15
        subst c15
        have H1:(cm.l0 k1 l1 tY l0 (l0.length:Int) (wrap64 (iE+1)) dw dx)=some (r1,r2,r3):=by rw [if_neg (show ¬(false=true) by decide)] at H;exact H
        clear H
        have H:=H1
        clear H1
        have H':=Aside0.mk H
        clear H
        have He:0<=(iE:Int):=of_decide_eq_true (by first|(with_reducible assumption)|assumption)
        have Hf:iE<(l0.length:Int):=of_decide_eq_true (by first|(with_reducible assumption)|assumption)
        obtain ⟨b4d,SE,SF,e279,uL,AK,AL⟩:=kX eu.out iE He Hf
        cases e279
        replace uL:=(HB.out.cell (World.block_lt_of_cell? w _ uL)).trans uL
        have Mu:=Aside0.mk AL
        have Mv:=Aside0.mk AK
        clear AL AK
        replace He:=eq_true He
        replace Hf:=eq_true Hf
        go_wp2_with (first|((with_reducible refine aV (f:=50) rfl ?_);refine bH (some 21) rfl rfl Try.func50 (by kernel_rfl) rfl #[.slice SE (cZ l0 iE).length SF,.slice A1 l1.length c1] rfl (by (try simp only [List.map_toArray,List.map_cons,List.map_nil]);first|done|rfl|(simp only [List.length_drop,List.length_take];rfl)) ?_;(with_reducible refine (aG.calls k1 _ _ (cZ l0 iE) _ _ l1 iB jw _ ?bO ?bP ?fV ?fW A12.out).mono ?_);(case bO=>repeat (first|exact (Kd.bp Mu.out HB.out)|(with_reducible refine Kd.bV ?_ _)|(with_reducible refine Kd.bW ?_ _)|(with_reducible refine Kd.cy ?_)));(case bP=>exact Mv.out);(case fV=>repeat (first|exact (Kd.bp gA.out HB.out)|(with_reducible refine Kd.bV ?_ _)|(with_reducible refine Kd.bW ?_ _)|(with_reducible refine Kd.cy ?_)));(case fW=>exact gb.out);rintro e Yx ⟨rfl,hb⟩;refine ⟨_,rfl,?_⟩;have aA:=Aside0.mk (Kd.ig (by (with_reducible repeat (first|apply Kd.ck|apply Kd.cn|apply Kd.cK));exact cT.out) hb);have aC:=Aside0.mk (aj (g:=fI) (o:= .cells #[.int .i64 0,.int .i64 0] 34 (0,0)) (aH ek) hb);have aD:=Aside0.mk (aj (g:=fA) (o:= .cells #[.int .i64 dw,.int .i64 dx] 34 (0,0)) (aH dW) hb);have aK:=Aside0.mk (ah ay hb);clear cT;clear ek;clear dW;clear HB;have cT:=aA;have ek:=aC;have dW:=aD;have HB:=aK;clear aA aC aD aK;(try clear hb);(try clear hb2);(try clear hk);(try clear hi))|((with_reducible refine bn (N:=10) rfl ?_);refine bq ?hg (N:=10) ?hd (cs:= #[.int .i64 0,.int .i64 0]) (t:=34) ?hr ?_;(case hd=>rfl);(case hg=>rfl);(case hr=>first|(go_simp;done)|(go_simp;rfl));intro fP hg w29 aU hb;have aA:=Aside0.mk (Kd.ig (Kd.FI (by (with_reducible repeat (first|apply Kd.ck|apply Kd.cn|apply Kd.cK));exact cT.out) fP (Nat.le_of_eq hg.symm)) hb);have aC:=Aside0.mk (aj (g:=fI) (o:= .cells #[.int .i64 0,.int .i64 0] 34 (0,0)) (aH ek) hb);have aD:=Aside0.mk (aj (g:=fA) (o:= .cells #[.int .i64 dw,.int .i64 dx] 34 (0,0)) (aH dW) hb);have aK:=Aside0.mk (ah ay hb);have bF:=Aside0.mk (aU);have bS:=Aside0.mk ((by rw [hg];exact (ax ay):w.heap.size<=fP));have bY:=Aside0.mk ((by rw [hg];exact (ax ay):w.heap.size<=fP));have eX:=Aside0.mk ((by rw [hg];exact Nat.ne_of_lt (bf (g:=fI) (o:= .cells #[.int .i64 0,.int .i64 0] 34 (0,0)) (aH ek)):fI≠fP));have fY:=Aside0.mk ((by rw [hg];exact Nat.ne_of_gt (bf (g:=fI) (o:= .cells #[.int .i64 0,.int .i64 0] 34 (0,0)) (aH ek)):fP≠fI));have gT:=Aside0.mk ((by rw [hg];exact Nat.ne_of_lt (bf (g:=fA) (o:= .cells #[.int .i64 dw,.int .i64 dx] 34 (0,0)) (aH dW)):fA≠fP));have SG:=Aside0.mk ((by rw [hg];exact Nat.ne_of_gt (bf (g:=fA) (o:= .cells #[.int .i64 dw,.int .i64 dx] 34 (0,0)) (aH dW)):fP≠fA));clear cT;clear ek;clear dW;clear HB;have cT:=aA;have ek:=aC;have dW:=aD;have HB:=aK;have gF:=bF;have b4e:=bS;have b4f:=bY;have lK:=eX;have DA:=fY;have lM:=gT;have DB:=SG;clear aA aC aD aK bF bS bY eX fY gT SG;clear hb aU hg;have b3c:=DA.out;have b3d:=lK.out;have hnb31:=DB.out;have hnc31:=lM.out;have TP:w29.cell? ⟨fP,0,none⟩=some (.int .i64 0):=(ag gF.out 0).trans rfl;have TQ:w29.cell? ⟨fP,1,none⟩=some (.int .i64 0):=(ag gF.out 1).trans rfl;have TR:=af gF.out 0;have TS:=af gF.out 1)|((with_reducible refine gW (b:= .append) (xs:= #[.tmp 22,.tmp 24]) rfl ?_);at_builtin;refine Kd.mR gY (w0:=w) w.heap.size rfl (.tmp 22) (.tmp 24) 33 34 (.agg #[(.int .i64 0),(.int .i64 0)]) 16 rfl Try.underlying33 Cv rfl (by decide) (by omega) u6 cS (⟨iB,jw⟩:dm) [.int .i64 iB,.int .i64 jw] (fun k_=>k_≠fI/\k_≠fA/\k_≠fP) (fun _=>False) rfl (by first|(go_simp;done)|(go_simp;rfl)) ?aP (fun _ hk=>hk.elim) ?aF ?aO ?aB ?aS ?aL ?_;(case aP=>exact xB _ _ _ (⟨iB,jw⟩:dm));(case aB=>exact ay);(case aF=>exact (fun k_ hk=>⟨Kd.xG (g:=fI) (o:= .cells #[.int .i64 0,.int .i64 0] 34 (0,0)) (by (with_reducible repeat (first|refine aq ?_ _|refine ak ?_|refine ai ?_ _));refine bM ?_ lK.out _;(with_reducible repeat (first|refine aq ?_ _|refine ak ?_|refine ai ?_ _));refine bM ?_ lK.out _;(with_reducible repeat (first|refine aq ?_ _|refine ak ?_|refine ai ?_ _));exact ek.out) k_ hk,Kd.xG (g:=fA) (o:= .cells #[.int .i64 dw,.int .i64 dx] 34 (0,0)) (by (with_reducible repeat (first|refine aq ?_ _|refine ak ?_|refine ai ?_ _));refine bM ?_ lM.out _;(with_reducible repeat (first|refine aq ?_ _|refine ak ?_|refine ai ?_ _));refine bM ?_ lM.out _;(with_reducible repeat (first|refine aq ?_ _|refine ak ?_|refine ai ?_ _));exact dW.out) k_ hk,Kd.xG (g:=fP) (o:= .cells #[.int .i64 iB,.int .i64 jw] 34 (0,0)) (by (with_reducible repeat (first|refine aq ?_ _|refine ak ?_|refine ai ?_ _));refine bh (cs:= #[.int .i64 iB,.int .i64 0]) ?_ 1 _ rfl;(with_reducible repeat (first|refine aq ?_ _|refine ak ?_|refine ai ?_ _));refine bh (cs:= #[.int .i64 0,.int .i64 0]) ?_ 0 _ rfl;(with_reducible repeat (first|refine aq ?_ _|refine ak ?_|refine ai ?_ _));exact gF.out) k_ hk⟩));(case aO=>exact (by (with_reducible repeat (first|apply Kd.ck|apply Kd.cn|apply Kd.cK));exact Kd.dh (Kd.fD (p:=⟨fP,1,none⟩) (Kd.fD (p:=⟨fP,0,none⟩) (Kd.dh cT.out (fun k_ hk=>(⟨hk,hk.2⟩:_/\k_≠fP))) (fun _ hk=>hk.2) (.int .i64 iB)) (fun _ hk=>hk.2) (.int .i64 jw)) (fun _ hk=>⟨hk.1.1.1,⟨hk.1.1.2,hk.1.2⟩⟩)));(case aS=>exact (ax ay));(case aL=>have:=a5N.out;omega);intro v284 Qa ho hb hg hat;rw [<-a5O.out] at ho;have aA:=Aside0.mk (kJ (g:=fI) (o:= .cells #[.int .i64 0,.int .i64 0] 34 (0,0)) (by (with_reducible repeat (first|refine aq ?_ _|refine ak ?_|refine ai ?_ _));refine bM ?_ lK.out _;(with_reducible repeat (first|refine aq ?_ _|refine ak ?_|refine ai ?_ _));refine bM ?_ lK.out _;(with_reducible repeat (first|refine aq ?_ _|refine ak ?_|refine ai ?_ _));exact ek.out) hg (Kd.xF cT.out (fun _ hk=>hk.1.1)));have aC:=Aside0.mk (kJ (g:=fA) (o:= .cells #[.int .i64 dw,.int .i64 dx] 34 (0,0)) (by (with_reducible repeat (first|refine aq ?_ _|refine ak ?_|refine ai ?_ _));refine bM ?_ lM.out _;(with_reducible repeat (first|refine aq ?_ _|refine ak ?_|refine ai ?_ _));refine bM ?_ lM.out _;(with_reducible repeat (first|refine aq ?_ _|refine ak ?_|refine ai ?_ _));exact dW.out) hg (Kd.xF cT.out (fun _ hk=>hk.1.2)));have aD:=Aside0.mk (kJ (g:=fP) (o:= .cells #[.int .i64 iB,.int .i64 jw] 34 (0,0)) (by (with_reducible repeat (first|refine aq ?_ _|refine ak ?_|refine ai ?_ _));refine bh (cs:= #[.int .i64 iB,.int .i64 0]) ?_ 1 _ rfl;(with_reducible repeat (first|refine aq ?_ _|refine ak ?_|refine ai ?_ _));refine bh (cs:= #[.int .i64 0,.int .i64 0]) ?_ 0 _ rfl;(with_reducible repeat (first|refine aq ?_ _|refine ak ?_|refine ai ?_ _));exact gF.out) hg (Kd.xF cT.out (fun _ hk=>hk.2)));have aK:=Aside0.mk (hb);have bF:=Aside0.mk (ho);clear ek;clear dW;clear gF;clear HB;clear cT;have ek:=aA;have dW:=aC;have gF:=aD;have HB:=aK;have xy:=bF;clear aA aC aD aK bF;clear ho hb hg hat;have b3e:=nW.out;have b3f:=nV.out;have a6O:Qa.cell? ⟨fA,0,none⟩=some (.int .i64 dw):=(ag dW.out 0).trans rfl;have a6P:Qa.cell? ⟨fA,1,none⟩=some (.int .i64 dx):=(ag dW.out 1).trans rfl;have a6Q:=af dW.out 0;have a6R:=af dW.out 1;have a6S:Qa.cell? ⟨fP,0,none⟩=some (.int .i64 iB):=(ag gF.out 0).trans rfl;have a6T:Qa.cell? ⟨fP,1,none⟩=some (.int .i64 jw):=(ag gF.out 1).trans rfl;have a6U:=af gF.out 0;have a6V:=af gF.out 1)|((with_reducible refine aV (f:=51) rfl ?_);refine bH (some 28) rfl rfl Try.func51 (by kernel_rfl) rfl #[.agg #[.int .i64 dw,.int .i64 dx],.agg #[.int .i64 iB,.int .i64 jw]] rfl (by (try simp only [List.map_toArray,List.map_cons,List.map_nil]);first|done|rfl|(simp only [List.length_drop,List.length_take];rfl)) ?_;(with_reducible refine (cr.calls dw dx iB jw false _ A14.out).mono ?_);rintro e w37 ⟨rfl,hb⟩;refine ⟨_,rfl,?_⟩;have aA:=Aside0.mk (Kd.ig (by (with_reducible repeat (first|apply Kd.ck|apply Kd.cn|apply Kd.cK));exact xy.out) hb);have aC:=Aside0.mk (aj (g:=fI) (o:= .cells #[.int .i64 0,.int .i64 0] 34 (0,0)) (aH ek) hb);have aD:=Aside0.mk (aj (g:=fA) (o:= .cells #[.int .i64 dw,.int .i64 dx] 34 (0,0)) (aH dW) hb);have aK:=Aside0.mk (aj (g:=fP) (o:= .cells #[.int .i64 iB,.int .i64 jw] 34 (0,0)) (aH gF) hb);have bF:=Aside0.mk (ah ay hb);clear xy;clear ek;clear dW;clear gF;clear HB;have xy:=aA;have ek:=aC;have dW:=aD;have gF:=aK;have HB:=bF;clear aA aC aD aK bF;(try clear hb);(try clear hb2);(try clear hk);(try clear hi)))
        go_roundg k1
        case measure=>have:=dX.out;omega
        case rel=>exact ⟨(tY),(wrap64 (iE+1)),(dw),(dx),(by first|rfl|(simp;done)|(simp [*];done)),H',⟨by have:=dX.out;omega⟩,⟨by (with_reducible repeat (first|apply Kd.ck|apply Kd.cn|apply Kd.cK));exact Kd.dh xy.out (fun _ hk=>⟨hk.1,hk.2.1⟩)⟩,⟨by (with_reducible repeat (first|refine aq ?_ _|refine ak ?_|refine ai ?_ _));exact ek.out⟩,⟨by (with_reducible repeat (first|refine aq ?_ _|refine ak ?_|refine ai ?_ _));exact dW.out⟩,⟨ay⟩⟩
      ·rw [if_neg c13] at H
       exact absurd H (by simp)
     ·rw [if_neg c11] at H
      exact absurd H (by simp)
    ·rw [if_neg c10] at H
     exact absurd H (by simp)
   ·rw [if_neg c9] at H
    have wI:decide (iE<(l0.length:Int))=false:=decide_eq_false c9
    clear c9
    simp only [Option.some.injEq,Prod.mk.injEq] at H
    obtain ⟨rfl,rfl,rfl⟩:=H
    try go_wp2
    have aA:=Aside0.mk (Kd.cK cT.out)
    have aC:=Aside0.mk (ak ek.out)
    have aD:=Aside0.mk (ak dW.out)
    have aK:=Aside0.mk (aI HB.out)
    clear cT
    clear ek
    clear dW
    clear HB
    have cT:=aA
    have ek:=aC
    have dW:=aD
    have HB:=aK
    clear aA aC aD aK
    refine fL (n:=4) (S:=fun w'=>w'.cell? ⟨fA,0,none⟩=some (.int .i64 dw)/\w'.cell? ⟨fA,1,none⟩=some (.int .i64 dx)) (ds:=[]) #[false,false,false,false] (by kernel_rfl) rfl rfl ⟨(ag dW.out 0).trans rfl,(ag dW.out 1).trans rfl⟩ (fun hHeld=>?_)
    generalize wr.drew=QS at cT ek dW HB hHeld⊢
    refine bl (i:=0) (N:=some 31) ?_
    refine bl (i:=2) (N:=some 4) ?_
    refine dS (i:=1) (N:=some 32) (v:=?_) (a':=?_) #[true,true,true,false] rfl rfl (by kernel_rfl) (fun _ _ _ h=>h) (Or.inl ⟨by rfl,?_⟩) hHeld ?_ ?_
    rotate_left
    ·rintro w' ⟨s0,s1⟩
     go_simp
     with_reducible rfl
    rotate_left
    ·exact fj
    refine gj (i:=3) (N:=none) #[true,true,true,true] rfl rfl (by kernel_rfl) (by decide) (fun K hK=>?_)
    have hs39:QS.cell? ⟨fI,0,none⟩=some (.int .i64 0):=(ag ek.out 0).trans rfl
    have hfs39:=af ek.out 0
    have hns39_1:=nW.out
    have hms39_1:=nV.out
    have hs40:QS.cell? ⟨fI,1,none⟩=some (.int .i64 0):=(ag ek.out 1).trans rfl
    have hfs40:=af ek.out 1
    have hns40_1:=nW.out
    have hms40_1:=nV.out
    refine lO (w1:=?_) (by rfl) rfl ?_ ?_
    rotate_left
    ·go_simp
     rfl
    refine hK.out _ _ ⟨((cell_far (p:=⟨fI,_,none⟩) nW.out _).trans (((cell_far (p:=⟨fI,_,none⟩) nW.out _).trans (hHeld.1)))),((cell_far (p:=⟨fI,_,none⟩) nW.out _).trans (((cell_far (p:=⟨fI,_,none⟩) nW.out _).trans (hHeld.2))))⟩ (fun hHeld=>?_)
    clear hK K
    refine gU (by kernel_rfl) ?_
    try go_wp2
    refine bodyPost_ret (VF rfl _ _ fI 34 #[.int .i64 dw,.int .i64 dx] (0,0) _ rfl (by (with_reducible repeat (first|refine aq ?_ _|refine ak ?_|refine ai ?_ _));refine bh (cs:= #[.int .i64 dw,.int .i64 0]) ?_ 1 _ rfl;(with_reducible repeat (first|refine aq ?_ _|refine ak ?_|refine ai ?_ _));refine bh (cs:= #[.int .i64 0,.int .i64 0]) ?_ 0 _ rfl;(with_reducible repeat (first|refine aq ?_ _|refine ak ?_|refine ai ?_ _));exact ek.out) Try.underlying34 rfl (by kernel_rfl)) rfl ?_
    exact ⟨_,by first|rfl|(simp [aX,aY]<;>rfl)|(simp [*,aX,aY]<;>rfl),by (with_reducible repeat (first|apply Kd.ck|apply Kd.cn|apply Kd.cK));exact Kd.dh (Kd.fD (p:=⟨fI,1,none⟩) (Kd.fD (p:=⟨fI,0,none⟩) (Kd.dh cT.out (fun k_ hk=>(⟨hk,hk.1⟩:_/\k_≠fI))) (fun _ hk=>hk.2) (.int .i64 dw)) (fun _ hk=>hk.2) (.int .i64 dx)) (fun _ hk=>trivial),ay⟩
def eY.f (k:Nat) (aM:Int) (aJ:Int) (bw:Int) (bk:Int):Option (Int):=(cj.f k aM aJ).bind fun Mw=>(if Mw=true then ((cj.f k bw bk).bind fun zo=>(if zo=true then (some (mn (mx (wrap64 ((wrap64 (aM*bk))-(wrap64 (bw*aJ)))) (-1)) 1)) else (some (-2)))) else (some (-2)))
theorem eY.mono:∀a0 a1 a2 a3 k,aR (eY.f k a0 a1 a2 a3) (eY.f (k+1) a0 a1 a2 a3):=by
 intro a0 a1 a2 a3 k
 unfold eY.f
 repeat' first
  |(with_reducible exact cj.mono _ _ _)
  |(with_reducible exact aR.refl _)
  |(with_reducible exact aR.none _)
  |(with_reducible refine aR.ite ?_ ?_)
  |(with_reducible refine aR.bind ?_ (fun _=>?_))
set_option maxHeartbeats 8000000 in
set_option maxRecDepth 100000 in
theorem eY.calls (k:Nat) (aM:Int) (aJ:Int) (bw:Int) (bk:Int) (r:Int) (w:World) (h:eY.f k aM aJ bw bk=some r):
 Calls Try.prog 63 #[.agg #[.int .i64 aM,.int .i64 aJ],.agg #[.int .i64 bw,.int .i64 bk]] w fun e w'=>e= .returned (.int .i64 r)/\Below w.heap.size w w':=by
 have lB:=Try.underlying34
 have HB:=Aside0.mk (Below.refl w.heap.size w)
 have H:((cj.f k aM aJ).bind fun Mw=>(if Mw=true then ((cj.f k bw bk).bind fun zo=>(if zo=true then (some (mn (mx (wrap64 ((wrap64 (aM*bk))-(wrap64 (bw*aJ)))) (-1)) 1)) else (some (-2)))) else (some (-2))))=some r:=h
 clear h
 replace H:=Option.bind_eq_some_iff.mp H
 obtain ⟨Mw,jx,H⟩:=H
 replace H:(if Mw=true then ((cj.f k bw bk).bind fun zo=>(if zo=true then (some (mn (mx (wrap64 ((wrap64 (aM*bk))-(wrap64 (bw*aJ)))) (-1)) 1)) else (some (-2)))) else (some (-2)))=some r:=H
 have A3:=Aside0.mk jx
 clear jx
 by_cases c4:Mw=true
 ·subst c4
  have H1:((cj.f k bw bk).bind fun zo=>(if zo=true then (some (mn (mx (wrap64 ((wrap64 (aM*bk))-(wrap64 (bw*aJ)))) (-1)) 1)) else (some (-2))))=some r:=by rw [if_pos rfl] at H;exact H
  clear H
  have H:=H1
  clear H1
  replace H:=Option.bind_eq_some_iff.mp H
  obtain ⟨zo,yz,H⟩:=H
  replace H:(if zo=true then (some (mn (mx (wrap64 ((wrap64 (aM*bk))-(wrap64 (bw*aJ)))) (-1)) 1)) else (some (-2)))=some r:=H
  have A5:=Aside0.mk yz
  clear yz
  by_cases c6:zo=true
  ·subst c6
   have H1:(some (mn (mx (wrap64 ((wrap64 (aM*bk))-(wrap64 (bw*aJ)))) (-1)) 1))=some r:=by rw [if_pos rfl] at H;exact H
   clear H
   have H:=H1
   clear H1
   obtain ⟨ji7,Mx⟩:∃j_:Int,(mx (wrap64 ((wrap64 (aM*bk))-(wrap64 (bw*aJ)))) (-1))=j_:=⟨_,rfl⟩
   replace H:(some (mn (ji7) 1))=some r:=by first|(rw [Mx] at H;exact H)|(simp only [Mx] at H⊢;exact H)
   (try rw [Mx] at A3)
   (try rw [Mx] at A5)
   have hji7_:(if (wrap64 ((wrap64 (aM*bk))-(wrap64 (bw*aJ))))<(-1) then (-1) else (wrap64 ((wrap64 (aM*bk))-(wrap64 (bw*aJ)))))=ji7:=Mx
   obtain ⟨ji8,My⟩:∃j_:Int,(mn (ji7) 1)=j_:=⟨_,rfl⟩
   replace H:(some ji8)=some r:=by first|(rw [My] at H;exact H)|(simp only [My] at H⊢;exact H)
   (try rw [My] at A3)
   (try rw [My] at A5)
   have hji8_:(if 1<(ji7) then 1 else (ji7))=ji8:=My
   obtain rfl:=Option.some.inj H
   go_enter Try.func63,Try.ntmps63
   go_wp2_with (first|((with_reducible refine bn (N:=2) rfl ?_);refine bq ?hg (N:=2) ?hd (cs:= #[.int .i64 aM,.int .i64 aJ]) (t:=34) ?hr ?_;(case hd=>rfl);(case hg=>rfl);(case hr=>first|(go_simp;done)|(go_simp;rfl));intro gi hg w9 aU hb;have aA:=Aside0.mk (ah ay hb);have aC:=Aside0.mk (aU);have aD:=Aside0.mk ((by rw [hg];exact (ax ay):w.heap.size<=gi));have aK:=Aside0.mk ((by rw [hg];exact (ax ay):w.heap.size<=gi));clear HB;have HB:=aA;have ez:=aC;have a5P:=aD;have a5Q:=aK;clear aA aC aD aK;clear hb aU hg)|((with_reducible refine bn (N:=3) rfl ?_);refine bq ?hg (N:=3) ?hd (cs:= #[.int .i64 bw,.int .i64 bk]) (t:=34) ?hr ?_;(case hd=>rfl);(case hg=>rfl);(case hr=>first|(go_simp;done)|(go_simp;rfl));intro jE hg mU aU hb;have aA:=Aside0.mk (aj (g:=gi) (o:= .cells #[.int .i64 aM,.int .i64 aJ] 34 (0,0)) (aH ez) hb);have aC:=Aside0.mk (ah ay hb);have aD:=Aside0.mk (aU);have aK:=Aside0.mk ((by rw [hg];exact (ax ay):w.heap.size<=jE));have bF:=Aside0.mk ((by rw [hg];exact (ax ay):w.heap.size<=jE));have bS:=Aside0.mk ((by rw [hg];exact Nat.ne_of_lt (bf (g:=gi) (o:= .cells #[.int .i64 aM,.int .i64 aJ] 34 (0,0)) (aH ez)):gi≠jE));have bY:=Aside0.mk ((by rw [hg];exact Nat.ne_of_gt (bf (g:=gi) (o:= .cells #[.int .i64 aM,.int .i64 aJ] 34 (0,0)) (aH ez)):jE≠gi));clear ez;clear HB;have ez:=aA;have HB:=aC;have iQ:=aD;have a5R:=aK;have a5S:=bF;have wk:=bS;have wm:=bY;clear aA aC aD aK bF bS bY;clear hb aU hg;have Wf:=wk.out;have Wh:=wm.out;have a7Q:mU.cell? ⟨gi,0,none⟩=some (.int .i64 aM):=(ag ez.out 0).trans rfl;have a7R:mU.cell? ⟨gi,1,none⟩=some (.int .i64 aJ):=(ag ez.out 1).trans rfl;have a7S:=af ez.out 0;have a7T:=af ez.out 1)|((with_reducible refine aV (f:=80) rfl ?_);refine bH (some 7) rfl rfl Try.func80 (by kernel_rfl) rfl #[.agg #[.int .i64 aM,.int .i64 aJ]] rfl (by (try simp only [List.map_toArray,List.map_cons,List.map_nil]);first|done|rfl|(simp only [List.length_drop,List.length_take];rfl)) ?_;(with_reducible refine (cj.calls k aM aJ true _ A3.out).mono ?_);rintro e iZ ⟨rfl,hb⟩;refine ⟨_,rfl,?_⟩;have aA:=Aside0.mk (aj (g:=gi) (o:= .cells #[.int .i64 aM,.int .i64 aJ] 34 (0,0)) (aH ez) hb);have aC:=Aside0.mk (aj (g:=jE) (o:= .cells #[.int .i64 bw,.int .i64 bk] 34 (0,0)) (aH iQ) hb);have aD:=Aside0.mk (ah ay hb);clear ez;clear iQ;clear HB;have ez:=aA;have iQ:=aC;have HB:=aD;clear aA aC aD;(try clear hb);(try clear hb2);(try clear hk);(try clear hi);have zW:iZ.cell? ⟨jE,0,none⟩=some (.int .i64 bw):=(ag iQ.out 0).trans rfl;have zX:iZ.cell? ⟨jE,1,none⟩=some (.int .i64 bk):=(ag iQ.out 1).trans rfl;have zY:=af iQ.out 0;have zZ:=af iQ.out 1)|(go_at_call 80;(with_reducible refine (cj.calls k bw bk true _ A5.out).mono ?_);rintro e NB ⟨rfl,hb⟩;have aA:=Aside0.mk (aj (g:=gi) (o:= .cells #[.int .i64 aM,.int .i64 aJ] 34 (0,0)) (aH ez) hb);have aC:=Aside0.mk (aj (g:=jE) (o:= .cells #[.int .i64 bw,.int .i64 bk] 34 (0,0)) (aH iQ) hb);have aD:=Aside0.mk (ah ay hb);clear ez;clear iQ;clear HB;have ez:=aA;have iQ:=aC;have HB:=aD;clear aA aC aD;(try clear hb);(try clear hb2);(try clear hk);(try clear hi);have KY:NB.cell? ⟨gi,0,none⟩=some (.int .i64 aM):=(ag ez.out 0).trans rfl;have KZ:NB.cell? ⟨gi,1,none⟩=some (.int .i64 aJ):=(ag ez.out 1).trans rfl;have La:=af ez.out 0;have Lb:=af ez.out 1;have KP:NB.cell? ⟨jE,0,none⟩=some (.int .i64 bw):=(ag iQ.out 0).trans rfl;have KQ:NB.cell? ⟨jE,1,none⟩=some (.int .i64 bk):=(ag iQ.out 1).trans rfl;have KR:=af iQ.out 0;have KS:=af iQ.out 1))
   go_ret
   exact ⟨by first|rfl|(simp [aX,aY]<;>rfl)|(simp only [<-Mx,<-My];first|rfl|(simp [aX,aY]<;>rfl))|(simp [*,aX,aY]<;>rfl),ay⟩
  ·replace c6:=Bool.eq_false_iff.mpr c6
   subst c6
   have H1:(some (-2))=some r:=by rw [if_neg (show ¬(false=true) by decide)] at H;exact H
   clear H
   have H:=H1
   clear H1
   obtain rfl:=Option.some.inj H
   go_enter Try.func63,Try.ntmps63
   go_wp2_with (first|((with_reducible refine bn (N:=2) rfl ?_);refine bq ?hg (N:=2) ?hd (cs:= #[.int .i64 aM,.int .i64 aJ]) (t:=34) ?hr ?_;(case hd=>rfl);(case hg=>rfl);(case hr=>first|(go_simp;done)|(go_simp;rfl));intro gi hg tq aU hb;have aA:=Aside0.mk (ah ay hb);have aC:=Aside0.mk (aU);have aD:=Aside0.mk ((by rw [hg];exact (ax ay):w.heap.size<=gi));have aK:=Aside0.mk ((by rw [hg];exact (ax ay):w.heap.size<=gi));clear HB;have HB:=aA;have ez:=aC;have a5P:=aD;have a5Q:=aK;clear aA aC aD aK;clear hb aU hg)|((with_reducible refine bn (N:=3) rfl ?_);refine bq ?hg (N:=3) ?hd (cs:= #[.int .i64 bw,.int .i64 bk]) (t:=34) ?hr ?_;(case hd=>rfl);(case hg=>rfl);(case hr=>first|(go_simp;done)|(go_simp;rfl));intro jE hg BH aU hb;have aA:=Aside0.mk (aj (g:=gi) (o:= .cells #[.int .i64 aM,.int .i64 aJ] 34 (0,0)) (aH ez) hb);have aC:=Aside0.mk (ah ay hb);have aD:=Aside0.mk (aU);have aK:=Aside0.mk ((by rw [hg];exact (ax ay):w.heap.size<=jE));have bF:=Aside0.mk ((by rw [hg];exact (ax ay):w.heap.size<=jE));have bS:=Aside0.mk ((by rw [hg];exact Nat.ne_of_lt (bf (g:=gi) (o:= .cells #[.int .i64 aM,.int .i64 aJ] 34 (0,0)) (aH ez)):gi≠jE));have bY:=Aside0.mk ((by rw [hg];exact Nat.ne_of_gt (bf (g:=gi) (o:= .cells #[.int .i64 aM,.int .i64 aJ] 34 (0,0)) (aH ez)):jE≠gi));clear ez;clear HB;have ez:=aA;have HB:=aC;have iQ:=aD;have a5R:=aK;have a5S:=bF;have wk:=bS;have wm:=bY;clear aA aC aD aK bF bS bY;clear hb aU hg;have b2Y:=wk.out;have b2Z:=wm.out;have zJ:BH.cell? ⟨gi,0,none⟩=some (.int .i64 aM):=(ag ez.out 0).trans rfl;have zK:BH.cell? ⟨gi,1,none⟩=some (.int .i64 aJ):=(ag ez.out 1).trans rfl;have zL:=af ez.out 0;have zM:=af ez.out 1)|((with_reducible refine aV (f:=80) rfl ?_);refine bH (some 7) rfl rfl Try.func80 (by kernel_rfl) rfl #[.agg #[.int .i64 aM,.int .i64 aJ]] rfl (by (try simp only [List.map_toArray,List.map_cons,List.map_nil]);first|done|rfl|(simp only [List.length_drop,List.length_take];rfl)) ?_;(with_reducible refine (cj.calls k aM aJ true _ A3.out).mono ?_);rintro e nh ⟨rfl,hb⟩;refine ⟨_,rfl,?_⟩;have aA:=Aside0.mk (aj (g:=gi) (o:= .cells #[.int .i64 aM,.int .i64 aJ] 34 (0,0)) (aH ez) hb);have aC:=Aside0.mk (aj (g:=jE) (o:= .cells #[.int .i64 bw,.int .i64 bk] 34 (0,0)) (aH iQ) hb);have aD:=Aside0.mk (ah ay hb);clear ez;clear iQ;clear HB;have ez:=aA;have iQ:=aC;have HB:=aD;clear aA aC aD;(try clear hb);(try clear hb2);(try clear hk);(try clear hi);have Vt:nh.cell? ⟨jE,0,none⟩=some (.int .i64 bw):=(ag iQ.out 0).trans rfl;have Vu:nh.cell? ⟨jE,1,none⟩=some (.int .i64 bk):=(ag iQ.out 1).trans rfl;have Vv:=af iQ.out 0;have Vw:=af iQ.out 1)|(go_at_call 80;(with_reducible refine (cj.calls k bw bk false _ A5.out).mono ?_);rintro e w24 ⟨rfl,hb⟩;have aA:=Aside0.mk (aj (g:=gi) (o:= .cells #[.int .i64 aM,.int .i64 aJ] 34 (0,0)) (aH ez) hb);have aC:=Aside0.mk (aj (g:=jE) (o:= .cells #[.int .i64 bw,.int .i64 bk] 34 (0,0)) (aH iQ) hb);have aD:=Aside0.mk (ah ay hb);clear ez;clear iQ;clear HB;have ez:=aA;have iQ:=aC;have HB:=aD;clear aA aC aD;(try clear hb);(try clear hb2);(try clear hk);(try clear hi)))
   go_ret
   exact ⟨by first|rfl|(simp [aX,aY]<;>rfl)|(simp [*,aX,aY]<;>rfl),ay⟩
 ·replace c4:=Bool.eq_false_iff.mpr c4
  subst c4
  have H1:(some (-2))=some r:=by rw [if_neg (show ¬(false=true) by decide)] at H;exact H
  clear H
  have H:=H1
  clear H1
  obtain rfl:=Option.some.inj H
  go_enter Try.func63,Try.ntmps63
  go_wp2_with (first|((with_reducible refine bn (N:=2) rfl ?_);refine bq ?hg (N:=2) ?hd (cs:= #[.int .i64 aM,.int .i64 aJ]) (t:=34) ?hr ?_;(case hd=>rfl);(case hg=>rfl);(case hr=>first|(go_simp;done)|(go_simp;rfl));intro gi hg w25 aU hb;have aA:=Aside0.mk (ah ay hb);have aC:=Aside0.mk (aU);have aD:=Aside0.mk ((by rw [hg];exact (ax ay):w.heap.size<=gi));have aK:=Aside0.mk ((by rw [hg];exact (ax ay):w.heap.size<=gi));clear HB;have HB:=aA;have ez:=aC;have a5P:=aD;have a5Q:=aK;clear aA aC aD aK;clear hb aU hg)|((with_reducible refine bn (N:=3) rfl ?_);refine bq ?hg (N:=3) ?hd (cs:= #[.int .i64 bw,.int .i64 bk]) (t:=34) ?hr ?_;(case hd=>rfl);(case hg=>rfl);(case hr=>first|(go_simp;done)|(go_simp;rfl));intro jE hg wh aU hb;have aA:=Aside0.mk (aj (g:=gi) (o:= .cells #[.int .i64 aM,.int .i64 aJ] 34 (0,0)) (aH ez) hb);have aC:=Aside0.mk (ah ay hb);have aD:=Aside0.mk (aU);have aK:=Aside0.mk ((by rw [hg];exact (ax ay):w.heap.size<=jE));have bF:=Aside0.mk ((by rw [hg];exact (ax ay):w.heap.size<=jE));have bS:=Aside0.mk ((by rw [hg];exact Nat.ne_of_lt (bf (g:=gi) (o:= .cells #[.int .i64 aM,.int .i64 aJ] 34 (0,0)) (aH ez)):gi≠jE));have bY:=Aside0.mk ((by rw [hg];exact Nat.ne_of_gt (bf (g:=gi) (o:= .cells #[.int .i64 aM,.int .i64 aJ] 34 (0,0)) (aH ez)):jE≠gi));clear ez;clear HB;have ez:=aA;have HB:=aC;have iQ:=aD;have a5R:=aK;have a5S:=bF;have wk:=bS;have wm:=bY;clear aA aC aD aK bF bS bY;clear hb aU hg;have b4i:=wk.out;have b4j:=wm.out;have zF:wh.cell? ⟨gi,0,none⟩=some (.int .i64 aM):=(ag ez.out 0).trans rfl;have zG:wh.cell? ⟨gi,1,none⟩=some (.int .i64 aJ):=(ag ez.out 1).trans rfl;have zH:=af ez.out 0;have zI:=af ez.out 1)|((with_reducible refine aV (f:=80) rfl ?_);refine bH (some 7) rfl rfl Try.func80 (by kernel_rfl) rfl #[.agg #[.int .i64 aM,.int .i64 aJ]] rfl (by (try simp only [List.map_toArray,List.map_cons,List.map_nil]);first|done|rfl|(simp only [List.length_drop,List.length_take];rfl)) ?_;(with_reducible refine (cj.calls k aM aJ false _ A3.out).mono ?_);rintro e w29 ⟨rfl,hb⟩;refine ⟨_,rfl,?_⟩;have aA:=Aside0.mk (aj (g:=gi) (o:= .cells #[.int .i64 aM,.int .i64 aJ] 34 (0,0)) (aH ez) hb);have aC:=Aside0.mk (aj (g:=jE) (o:= .cells #[.int .i64 bw,.int .i64 bk] 34 (0,0)) (aH iQ) hb);have aD:=Aside0.mk (ah ay hb);clear ez;clear iQ;clear HB;have ez:=aA;have iQ:=aC;have HB:=aD;clear aA aC aD;(try clear hb);(try clear hb2);(try clear hk);(try clear hi)))
  go_ret
  exact ⟨by first|rfl|(simp [aX,aY]<;>rfl)|(simp [*,aX,aY]<;>rfl),ay⟩
def cU.l0:Nat->List (dm)->Int->Int->Int->Int->Option (Int×Int)
 |0,_,_,_,_,_=>none
 |k+1,x7,x8,x9,Mz,MA=>if x9<x8 then (if 0<=x9 then (if x9<(x7.length:Int) then ((eY.f k ((aZ x7 x9).f0) ((aZ x7 x9).f1) Mz MA).bind fun DC=>(if DC>0 then (cU.l0 k x7 x8 (wrap64 (x9+1)) ((aZ x7 x9).f0) ((aZ x7 x9).f1)) else (cU.l0 k x7 x8 (wrap64 (x9+1)) Mz MA))) else (none)) else (none)) else (some (Mz,MA))
def cU.f (k:Nat) (l0:List (dm)):Option (Int×Int):=cU.l0 k l0 (l0.length:Int) 0 0 1
theorem cU.cC:∀k,(∀y0 y1 y2 y3 y4,aR (cU.l0 k y0 y1 y2 y3 y4) (cU.l0 (k+1) y0 y1 y2 y3 y4))
 |0=>fun _ _ _ _ _ r h=>by simp [cU.l0] at h
 |k+1=>by
  have dN:=cU.cC k
  ·intro y0 y1 y2 y3 y4
   unfold cU.l0
   repeat' first
   |(with_reducible exact dN _ _ _ _ _)
   |(with_reducible exact eY.mono _ _ _ _ _)
   |(with_reducible exact aR.refl _)
   |(with_reducible exact aR.none _)
   |(with_reducible refine aR.ite ?_ ?_)
   |(with_reducible refine aR.bind ?_ (fun _=>?_))
theorem cU.mono:∀a0 k,aR (cU.f k a0) (cU.f (k+1) a0):=by
 intro a0 k
 have dN:=cU.cC k
 unfold cU.f
 repeat' first
  |(with_reducible exact dN _ _ _ _ _)
  |(with_reducible exact eY.mono _ _ _ _ _)
  |(with_reducible exact aR.refl _)
  |(with_reducible exact aR.none _)
  |(with_reducible refine aR.ite ?_ ?_)
  |(with_reducible refine aR.bind ?_ (fun _=>?_))
set_option maxHeartbeats 8000000 in
set_option maxRecDepth 100000 in
theorem cU.calls (k:Nat) (A0:Option Addr) (c0:Nat) (l0:List (dm)) (r1:Int) (r2:Int) (w:World) (fl:Kd.C gY w A0 l0.length l0) (hc0:l0.length<=c0) (h:cU.f k l0=some (r1,r2)):
 Calls Try.prog 37 #[.slice A0 l0.length c0] w fun e w'=>e= .returned (.agg #[.int .i64 r1,.int .i64 r2])/\Below w.heap.size w w':=by
 have lB:=Try.underlying34
 have eu:=Aside0.mk fl
 have kr:=Aside0.mk hc0
 clear fl hc0
 have HB:=Aside0.mk (Below.refl w.heap.size w)
 have H:(cU.l0 k l0 (l0.length:Int) 0 0 1)=some (r1,r2):=h
 clear h
 have H':=Aside0.mk H
 clear H
 go_enter Try.func37,Try.ntmps37
 go_wp2_with (first|((with_reducible refine bn (N:=2) rfl ?_);refine bq ?hg (N:=2) ?hd (cs:= #[.int .i64 0,.int .i64 0]) (t:=34) ?hr ?_;(case hd=>rfl);(case hg=>rfl);(case hr=>first|(go_simp;done)|(go_simp;rfl));intro kF hg w2 aU hb;have aA:=Aside0.mk (ah ay hb);have aC:=Aside0.mk (aU);have aD:=Aside0.mk ((by rw [hg];exact (ax ay):w.heap.size<=kF));have aK:=Aside0.mk ((by rw [hg];exact (ax ay):w.heap.size<=kF));clear HB;have HB:=aA;have iF:=aC;have GW389:=aD;have GE389:=aK;clear aA aC aD aK;clear hb aU hg)|((with_reducible refine bn (N:=3) rfl ?_);refine bq ?hg (N:=3) ?hd (cs:= #[.int .i64 0,.int .i64 0]) (t:=34) ?hr ?_;(case hd=>rfl);(case hg=>rfl);(case hr=>first|(go_simp;done)|(go_simp;rfl));intro jo hg w3 aU hb;have aA:=Aside0.mk (aj (g:=kF) (o:= .cells #[.int .i64 0,.int .i64 0] 34 (0,0)) (aH iF) hb);have aC:=Aside0.mk (ah ay hb);have aD:=Aside0.mk (aU);have aK:=Aside0.mk ((by rw [hg];exact (ax ay):w.heap.size<=jo));have bF:=Aside0.mk ((by rw [hg];exact (ax ay):w.heap.size<=jo));have bS:=Aside0.mk ((by rw [hg];exact Nat.ne_of_lt (bf (g:=kF) (o:= .cells #[.int .i64 0,.int .i64 0] 34 (0,0)) (aH iF)):kF≠jo));have bY:=Aside0.mk ((by rw [hg];exact Nat.ne_of_gt (bf (g:=kF) (o:= .cells #[.int .i64 0,.int .i64 0] 34 (0,0)) (aH iF)):jo≠kF));clear iF;clear HB;have iF:=aA;have HB:=aC;have fK:=aD;have GW390:=aK;have GE390:=bF;have oY:=bS;have yS:=bY;clear aA aC aD aK bF bS bY;clear hb aU hg;have b7f:=yS.out;have b7g:=oY.out;have Iw:w3.cell? ⟨jo,0,none⟩=some (.int .i64 0):=(ag fK.out 0).trans rfl;have Ix:w3.cell? ⟨jo,1,none⟩=some (.int .i64 0):=(ag fK.out 1).trans rfl;have Iy:=af fK.out 0;have Iz:=af fK.out 1))
 go_loopg [9] k (fun kq v9 w'=>∃(bE:Int) (eZ:Int) (fc:Int),v9= .int .i64 bE/\Aside0 (cU.l0 kq l0 (l0.length:Int) bE eZ fc=some (r1,r2))/\Aside0 (kq<=k)/\Aside0 (w'.heap[kF]? =some (.cells #[.int .i64 0,.int .i64 0] 34 (0,0)))/\Aside0 (w'.heap[jo]? =some (.cells #[.int .i64 eZ,.int .i64 fc] 34 (0,0)))/\Aside0 (Below w.heap.size w w'))
 case atStart=>exact ⟨(0),(0),(1),(by first|rfl|(simp;done)|(simp [*];done)),H',⟨Nat.le_refl _⟩,⟨by (with_reducible repeat (first|refine aq ?_ _|refine ak ?_|refine ai ?_ _));refine bM ?_ oY.out _;(with_reducible repeat (first|refine aq ?_ _|refine ak ?_|refine ai ?_ _));refine bM ?_ oY.out _;(with_reducible repeat (first|refine aq ?_ _|refine ak ?_|refine ai ?_ _));exact iF.out⟩,⟨by (with_reducible repeat (first|refine aq ?_ _|refine ak ?_|refine ai ?_ _));refine bh (cs:= #[.int .i64 0,.int .i64 0]) ?_ 1 _ rfl;(with_reducible repeat (first|refine aq ?_ _|refine ak ?_|refine ai ?_ _));refine bh (cs:= #[.int .i64 0,.int .i64 0]) ?_ 0 _ rfl;(with_reducible repeat (first|refine aq ?_ _|refine ak ?_|refine ai ?_ _));exact fK.out⟩,⟨ay⟩⟩
 case round=>
  clear H'
  try clear p2
  try clear c3
  try clear c4
  try clear Iw
  try clear Ix
  try clear Iy
  try clear Iz
  obtain ⟨bE,eZ,fc,rfl,HA,dX,iF,fK,HB⟩:=hrel
  cases gk with
  |zero=>exact absurd HA.out (by simp [cU.l0])
  |succ k1=>
   have H:=HA.out
   clear HA
   simp only [cU.l0] at H
   by_cases c6:bE<(l0.length:Int)
   ·rw [if_pos c6] at H
    have oc:decide (bE<(l0.length:Int))=true:=decide_eq_true c6
    clear c6
    by_cases c7:0<=bE
    ·rw [if_pos c7] at H
     have tH:decide (0<=bE)=true:=decide_eq_true c7
     clear c7
     by_cases c8:bE<(l0.length:Int)
     ·rw [if_pos c8] at H
      have qL:decide (bE<(l0.length:Int))=true:=decide_eq_true c8
      clear c8
      replace H:=Option.bind_eq_some_iff.mp H
      obtain ⟨DC,Zy,H⟩:=H
      replace H:(if DC>0 then (cU.l0 k1 l0 (l0.length:Int) (wrap64 (bE+1)) ((aZ l0 bE).f0) ((aZ l0 bE).f1)) else (cU.l0 k1 l0 (l0.length:Int) (wrap64 (bE+1)) eZ fc))=some (r1,r2):=H
      have A9:=Aside0.mk Zy
      clear Zy
      by_cases c10:DC>0
      ·rw [if_pos c10] at H
       have xm:decide (0<DC)=true:=decide_eq_true c10
       clear c10
       have H':=Aside0.mk H
       clear H
       have Hg:0<=(bE:Int):=of_decide_eq_true (by first|(with_reducible assumption)|assumption)
       have Hj:bE<(l0.length:Int):=of_decide_eq_true (by first|(with_reducible assumption)|assumption)
       obtain ⟨b4k,a3C,uM,uN⟩:=kj eu.out bE Hg Hj
       cases a3C
       replace uM:=(HB.out.cell (World.block_lt_of_cell? w _ uM)).trans uM
       replace uN:=(HB.out.cell (World.block_lt_of_cell? w _ uN)).trans uN
       replace Hg:=eq_true Hg
       replace Hj:=eq_true Hj
       go_wp2_with (first|((with_reducible refine bn (N:=5) rfl ?_);refine bq ?hg (N:=5) ?hd (cs:= #[.int .i64 0,.int .i64 0]) (t:=34) ?hr ?_;(case hd=>rfl);(case hg=>rfl);(case hr=>first|(go_simp;done)|(go_simp;rfl));intro lg hg kV aU hb;have aA:=Aside0.mk (aj (g:=kF) (o:= .cells #[.int .i64 0,.int .i64 0] 34 (0,0)) (aH iF) hb);have aC:=Aside0.mk (aj (g:=jo) (o:= .cells #[.int .i64 eZ,.int .i64 fc] 34 (0,0)) (aH fK) hb);have aD:=Aside0.mk (ah ay hb);have aK:=Aside0.mk (aU);have bF:=Aside0.mk ((by rw [hg];exact (ax ay):w.heap.size<=lg));have bS:=Aside0.mk ((by rw [hg];exact (ax ay):w.heap.size<=lg));have bY:=Aside0.mk ((by rw [hg];exact Nat.ne_of_lt (bf (g:=kF) (o:= .cells #[.int .i64 0,.int .i64 0] 34 (0,0)) (aH iF)):kF≠lg));have eX:=Aside0.mk ((by rw [hg];exact Nat.ne_of_gt (bf (g:=kF) (o:= .cells #[.int .i64 0,.int .i64 0] 34 (0,0)) (aH iF)):lg≠kF));have fY:=Aside0.mk ((by rw [hg];exact Nat.ne_of_lt (bf (g:=jo) (o:= .cells #[.int .i64 eZ,.int .i64 fc] 34 (0,0)) (aH fK)):jo≠lg));have gT:=Aside0.mk ((by rw [hg];exact Nat.ne_of_gt (bf (g:=jo) (o:= .cells #[.int .i64 eZ,.int .i64 fc] 34 (0,0)) (aH fK)):lg≠jo));clear iF;clear fK;clear HB;have iF:=aA;have fK:=aC;have HB:=aD;have mK:=aK;have b4l:=bF;have b4m:=bS;have qW:=bY;have DD:=eX;have qX:=fY;have DF:=gT;clear aA aC aD aK bF bS bY eX fY gT;clear hb aU hg;have Wi:=DD.out;have Wj:=qW.out;have b3i:=DF.out;have b3j:=qX.out;have zW:kV.cell? ⟨lg,0,none⟩=some (.int .i64 0):=(ag mK.out 0).trans rfl;have zX:kV.cell? ⟨lg,1,none⟩=some (.int .i64 0):=(ag mK.out 1).trans rfl;have zY:=af mK.out 0;have zZ:=af mK.out 1;have a4p:=yS.out;have a4q:=oY.out;have KY:kV.cell? ⟨jo,0,none⟩=some (.int .i64 eZ):=(ag fK.out 0).trans rfl;have KZ:kV.cell? ⟨jo,1,none⟩=some (.int .i64 fc):=(ag fK.out 1).trans rfl;have La:=af fK.out 0;have Lb:=af fK.out 1)|((with_reducible refine aV (f:=63) rfl ?_);refine bH (some 15) rfl rfl Try.func63 (by kernel_rfl) rfl #[.agg #[.int .i64 ((aZ l0 bE).f0),.int .i64 ((aZ l0 bE).f1)],.agg #[.int .i64 eZ,.int .i64 fc]] rfl (by (try simp only [List.map_toArray,List.map_cons,List.map_nil]);first|done|rfl|(simp only [List.length_drop,List.length_take];rfl)) ?_;(with_reducible refine (eY.calls k1 ((aZ l0 bE).f0) ((aZ l0 bE).f1) eZ fc DC _ A9.out).mono ?_);rintro e sX ⟨rfl,hb⟩;refine ⟨_,rfl,?_⟩;have aA:=Aside0.mk (aj (g:=kF) (o:= .cells #[.int .i64 0,.int .i64 0] 34 (0,0)) (by (with_reducible repeat (first|refine aq ?_ _|refine ak ?_|refine ai ?_ _));refine bM ?_ qW.out _;(with_reducible repeat (first|refine aq ?_ _|refine ak ?_|refine ai ?_ _));refine bM ?_ qW.out _;(with_reducible repeat (first|refine aq ?_ _|refine ak ?_|refine ai ?_ _));exact iF.out) hb);have aC:=Aside0.mk (aj (g:=jo) (o:= .cells #[.int .i64 eZ,.int .i64 fc] 34 (0,0)) (by (with_reducible repeat (first|refine aq ?_ _|refine ak ?_|refine ai ?_ _));refine bM ?_ qX.out _;(with_reducible repeat (first|refine aq ?_ _|refine ak ?_|refine ai ?_ _));refine bM ?_ qX.out _;(with_reducible repeat (first|refine aq ?_ _|refine ak ?_|refine ai ?_ _));exact fK.out) hb);have aD:=Aside0.mk (aj (g:=lg) (o:= .cells #[.int .i64 ((aZ l0 bE).f0),.int .i64 ((aZ l0 bE).f1)] 34 (0,0)) (by (with_reducible repeat (first|refine aq ?_ _|refine ak ?_|refine ai ?_ _));refine bh (cs:= #[.int .i64 ((aZ l0 bE).f0),.int .i64 0]) ?_ 1 _ rfl;(with_reducible repeat (first|refine aq ?_ _|refine ak ?_|refine ai ?_ _));refine bh (cs:= #[.int .i64 0,.int .i64 0]) ?_ 0 _ rfl;(with_reducible repeat (first|refine aq ?_ _|refine ak ?_|refine ai ?_ _));exact mK.out) hb);have aK:=Aside0.mk (ah ay hb);clear iF;clear fK;clear mK;clear HB;have iF:=aA;have fK:=aC;have mK:=aD;have HB:=aK;clear aA aC aD aK;(try clear hb);(try clear hb2);(try clear hk);(try clear hi);have DW:sX.cell? ⟨lg,0,none⟩=some (.int .i64 ((aZ l0 bE).f0)):=(ag mK.out 0).trans rfl;have DX:sX.cell? ⟨lg,1,none⟩=some (.int .i64 ((aZ l0 bE).f1)):=(ag mK.out 1).trans rfl;have DY:=af mK.out 0;have DZ:=af mK.out 1;have Lc:sX.cell? ⟨jo,0,none⟩=some (.int .i64 eZ):=(ag fK.out 0).trans rfl;have Ld:sX.cell? ⟨jo,1,none⟩=some (.int .i64 fc):=(ag fK.out 1).trans rfl;have Le:=af fK.out 0;have Lf:=af fK.out 1))
       go_roundg k1
       case measure=>have:=dX.out;omega
       case rel=>exact ⟨(wrap64 (bE+1)),((aZ l0 bE).f0),((aZ l0 bE).f1),(by first|rfl|(simp;done)|(simp [*];done)),H',⟨by have:=dX.out;omega⟩,⟨by (with_reducible repeat (first|refine aq ?_ _|refine ak ?_|refine ai ?_ _));refine bM ?_ oY.out _;(with_reducible repeat (first|refine aq ?_ _|refine ak ?_|refine ai ?_ _));refine bM ?_ oY.out _;(with_reducible repeat (first|refine aq ?_ _|refine ak ?_|refine ai ?_ _));exact iF.out⟩,⟨by (with_reducible repeat (first|refine aq ?_ _|refine ak ?_|refine ai ?_ _));refine bh (cs:= #[.int .i64 ((aZ l0 bE).f0),.int .i64 fc]) ?_ 1 _ rfl;(with_reducible repeat (first|refine aq ?_ _|refine ak ?_|refine ai ?_ _));refine bh (cs:= #[.int .i64 eZ,.int .i64 fc]) ?_ 0 _ rfl;(with_reducible repeat (first|refine aq ?_ _|refine ak ?_|refine ai ?_ _));exact fK.out⟩,⟨ay⟩⟩
      ·rw [if_neg c10] at H
       have xm:decide (0<DC)=false:=decide_eq_false c10
       clear c10
       have H':=Aside0.mk H
       clear H
       have Hg:0<=(bE:Int):=of_decide_eq_true (by first|(with_reducible assumption)|assumption)
       have Hj:bE<(l0.length:Int):=of_decide_eq_true (by first|(with_reducible assumption)|assumption)
       obtain ⟨b4k,a3C,uM,uN⟩:=kj eu.out bE Hg Hj
       cases a3C
       replace uM:=(HB.out.cell (World.block_lt_of_cell? w _ uM)).trans uM
       replace uN:=(HB.out.cell (World.block_lt_of_cell? w _ uN)).trans uN
       replace Hg:=eq_true Hg
       replace Hj:=eq_true Hj
       go_wp2_with (first|((with_reducible refine bn (N:=5) rfl ?_);refine bq ?hg (N:=5) ?hd (cs:= #[.int .i64 0,.int .i64 0]) (t:=34) ?hr ?_;(case hd=>rfl);(case hg=>rfl);(case hr=>first|(go_simp;done)|(go_simp;rfl));intro lg hg BI aU hb;have aA:=Aside0.mk (aj (g:=kF) (o:= .cells #[.int .i64 0,.int .i64 0] 34 (0,0)) (aH iF) hb);have aC:=Aside0.mk (aj (g:=jo) (o:= .cells #[.int .i64 eZ,.int .i64 fc] 34 (0,0)) (aH fK) hb);have aD:=Aside0.mk (ah ay hb);have aK:=Aside0.mk (aU);have bF:=Aside0.mk ((by rw [hg];exact (ax ay):w.heap.size<=lg));have bS:=Aside0.mk ((by rw [hg];exact (ax ay):w.heap.size<=lg));have bY:=Aside0.mk ((by rw [hg];exact Nat.ne_of_lt (bf (g:=kF) (o:= .cells #[.int .i64 0,.int .i64 0] 34 (0,0)) (aH iF)):kF≠lg));have eX:=Aside0.mk ((by rw [hg];exact Nat.ne_of_gt (bf (g:=kF) (o:= .cells #[.int .i64 0,.int .i64 0] 34 (0,0)) (aH iF)):lg≠kF));have fY:=Aside0.mk ((by rw [hg];exact Nat.ne_of_lt (bf (g:=jo) (o:= .cells #[.int .i64 eZ,.int .i64 fc] 34 (0,0)) (aH fK)):jo≠lg));have gT:=Aside0.mk ((by rw [hg];exact Nat.ne_of_gt (bf (g:=jo) (o:= .cells #[.int .i64 eZ,.int .i64 fc] 34 (0,0)) (aH fK)):lg≠jo));clear iF;clear fK;clear HB;have iF:=aA;have fK:=aC;have HB:=aD;have mK:=aK;have b4l:=bF;have b4m:=bS;have qW:=bY;have DD:=eX;have qX:=fY;have DF:=gT;clear aA aC aD aK bF bS bY eX fY gT;clear hb aU hg;have hnb21:=DD.out;have hnc21:=qW.out;have b4g:=DF.out;have b4h:=qX.out;have Vt:BI.cell? ⟨lg,0,none⟩=some (.int .i64 0):=(ag mK.out 0).trans rfl;have Vu:BI.cell? ⟨lg,1,none⟩=some (.int .i64 0):=(ag mK.out 1).trans rfl;have Vv:=af mK.out 0;have Vw:=af mK.out 1;have a4L:=yS.out;have a4M:=oY.out;have Eh:BI.cell? ⟨jo,0,none⟩=some (.int .i64 eZ):=(ag fK.out 0).trans rfl;have Ei:BI.cell? ⟨jo,1,none⟩=some (.int .i64 fc):=(ag fK.out 1).trans rfl;have Ej:=af fK.out 0;have Ek:=af fK.out 1)|((with_reducible refine aV (f:=63) rfl ?_);refine bH (some 15) rfl rfl Try.func63 (by kernel_rfl) rfl #[.agg #[.int .i64 ((aZ l0 bE).f0),.int .i64 ((aZ l0 bE).f1)],.agg #[.int .i64 eZ,.int .i64 fc]] rfl (by (try simp only [List.map_toArray,List.map_cons,List.map_nil]);first|done|rfl|(simp only [List.length_drop,List.length_take];rfl)) ?_;(with_reducible refine (eY.calls k1 ((aZ l0 bE).f0) ((aZ l0 bE).f1) eZ fc DC _ A9.out).mono ?_);rintro e wh ⟨rfl,hb⟩;refine ⟨_,rfl,?_⟩;have aA:=Aside0.mk (aj (g:=kF) (o:= .cells #[.int .i64 0,.int .i64 0] 34 (0,0)) (by (with_reducible repeat (first|refine aq ?_ _|refine ak ?_|refine ai ?_ _));refine bM ?_ qW.out _;(with_reducible repeat (first|refine aq ?_ _|refine ak ?_|refine ai ?_ _));refine bM ?_ qW.out _;(with_reducible repeat (first|refine aq ?_ _|refine ak ?_|refine ai ?_ _));exact iF.out) hb);have aC:=Aside0.mk (aj (g:=jo) (o:= .cells #[.int .i64 eZ,.int .i64 fc] 34 (0,0)) (by (with_reducible repeat (first|refine aq ?_ _|refine ak ?_|refine ai ?_ _));refine bM ?_ qX.out _;(with_reducible repeat (first|refine aq ?_ _|refine ak ?_|refine ai ?_ _));refine bM ?_ qX.out _;(with_reducible repeat (first|refine aq ?_ _|refine ak ?_|refine ai ?_ _));exact fK.out) hb);have aD:=Aside0.mk (aj (g:=lg) (o:= .cells #[.int .i64 ((aZ l0 bE).f0),.int .i64 ((aZ l0 bE).f1)] 34 (0,0)) (by (with_reducible repeat (first|refine aq ?_ _|refine ak ?_|refine ai ?_ _));refine bh (cs:= #[.int .i64 ((aZ l0 bE).f0),.int .i64 0]) ?_ 1 _ rfl;(with_reducible repeat (first|refine aq ?_ _|refine ak ?_|refine ai ?_ _));refine bh (cs:= #[.int .i64 0,.int .i64 0]) ?_ 0 _ rfl;(with_reducible repeat (first|refine aq ?_ _|refine ak ?_|refine ai ?_ _));exact mK.out) hb);have aK:=Aside0.mk (ah ay hb);clear iF;clear fK;clear mK;clear HB;have iF:=aA;have fK:=aC;have mK:=aD;have HB:=aK;clear aA aC aD aK;(try clear hb);(try clear hb2);(try clear hk);(try clear hi)))
       go_roundg k1
       case measure=>have:=dX.out;omega
       case rel=>exact ⟨(wrap64 (bE+1)),(eZ),(fc),(by first|rfl|(simp;done)|(simp [*];done)),H',⟨by have:=dX.out;omega⟩,⟨by (with_reducible repeat (first|refine aq ?_ _|refine ak ?_|refine ai ?_ _));exact iF.out⟩,⟨by (with_reducible repeat (first|refine aq ?_ _|refine ak ?_|refine ai ?_ _));exact fK.out⟩,⟨ay⟩⟩
     ·rw [if_neg c8] at H
      exact absurd H (by simp)
    ·rw [if_neg c7] at H
     exact absurd H (by simp)
   ·rw [if_neg c6] at H
    have oc:decide (bE<(l0.length:Int))=false:=decide_eq_false c6
    clear c6
    simp only [Option.some.injEq,Prod.mk.injEq] at H
    obtain ⟨rfl,rfl⟩:=H
    have b4i:=yS.out
    have b4j:=oY.out
    have zF:wr.cell? ⟨jo,0,none⟩=some (.int .i64 eZ):=(ag fK.out 0).trans rfl
    have zG:wr.cell? ⟨jo,1,none⟩=some (.int .i64 fc):=(ag fK.out 1).trans rfl
    have zH:=af fK.out 0
    have zI:=af fK.out 1
    have LD:wr.cell? ⟨kF,0,none⟩=some (.int .i64 0):=(ag iF.out 0).trans rfl
    have LF:wr.cell? ⟨kF,1,none⟩=some (.int .i64 0):=(ag iF.out 1).trans rfl
    have LG:=af iF.out 0
    have LH:=af iF.out 1
    go_wp2
    refine bodyPost_ret (results_cell_row rfl _ _ kF 34 #[.int .i64 eZ,.int .i64 fc] (0,0) _ rfl (by (with_reducible repeat (first|refine aq ?_ _|refine ak ?_|refine ai ?_ _));refine bh (cs:= #[.int .i64 eZ,.int .i64 0]) ?_ 1 _ rfl;(with_reducible repeat (first|refine aq ?_ _|refine ak ?_|refine ai ?_ _));refine bh (cs:= #[.int .i64 0,.int .i64 0]) ?_ 0 _ rfl;(with_reducible repeat (first|refine aq ?_ _|refine ak ?_|refine ai ?_ _));exact iF.out) Try.underlying34 rfl (by kernel_rfl)) rfl ?_
    exact ⟨by first|rfl|(simp [aX,aY]<;>rfl)|(simp [*,aX,aY]<;>rfl),ay⟩
end Go.Proofs.Ytkckdphjhlbdcaa.P
namespace Go.Proofs.Ytkckdphjhlbdcaa.PT
open Go.RowKit Go.Proofs.Ytkckdphjhlbdcaa.P Go.Proofs.YtkckdphjhlbdcaaW.PrintWords Go.Proofs.YtkckdphjhlbdcaaW.PrintLast Go.Proofs.Ytkckdphjhlbdcaa.EvKit Go.Proofs.Ytkckdphjhlbdcaa.Num Go.Proofs.Ytkckdphjhlbdcaa.Lp
set_option linter.all false
theorem Oh (e av:List Int) (he:e.length<=1048576) (hb:av.length<=1048576):Ev (fun k=>bG.f k e av) (pt av e):=by
 unfold bG.f
 have key:∀m i acc,i+m=e.length->acc.length<=i->Ev (fun k=>bG.l0 k av acc e (e.length:Int) (i:Int)) (acc++pt av (e.drop i)):=by
  intro m
  induction m with
  |zero=>
   intro i acc hi ha
   have h:i=e.length:=by omega
   subst h
   refine Ev.succ ?_
   simp only [bG.l0]
   refine Ev.neg (by omega) (Ev.to (Ev.now _) ?_)
   rw [List.drop_length];unfold pt;simp
  |succ m ih=>
   intro i acc hi ha
   have hlt:i<e.length:=by omega
   refine Ev.succ ?_
   simp only [bG.l0,qh hlt,dQ (show i<=9223372036854775806 by omega)]
   refine Ev.pos (by omega) (Ev.pos (by omega) (Ev.pos (by omega) (Ev.bind (uF av e[i] hb) ?_)))
   rw [ox hlt]
   by_cases h:e[i]∈av
   ·refine Ev.pos (decide_eq_true h) (Ev.pos (by omega) (Ev.to (ih (i+1) (acc++[e[i]]) (by omega) (by rw [List.length_append,List.length_singleton];omega)) ?_))
    unfold pt;rw [List.filter_cons,if_pos (decide_eq_true h)];simp
   ·refine Ev.neg (by rw [decide_eq_false h];decide) (Ev.to (ih (i+1) acc (by omega) (by omega)) ?_)
    unfold pt;rw [List.filter_cons,if_neg (by rw [decide_eq_false h];decide)]
 have:=key e.length 0 [] (by omega) (by simp)
 simpa using this
section
variable {av:List Int} {aa:List (List Int)}
variable (hnb:av.length<=6) (hne:aa.length<=7) (hr:∀j,(aa.getD j []).length<=1048576)
include hnb hne hr
omit hnb hne in
theorem a0J (j:Nat):(pt av (aa.getD j [])).length<=1048576:=Nat.le_trans (List.length_filter_le _ _) (hr j)
theorem b8v (x6:List (List Int)) (i:Nat) (R:Int×Int) (hi:i<aa.length) (hx6:x6.length<=i)
 (hend:∀x6',x6'=x6++(if need av aa i=true then [pt av (aa.getD i [])] else [])->Ev (fun k=>aG.l0 k av aa [] x6' aa (aa.length:Int) ((i+1:Nat):Int)) R):
 ∀m j b,j+m=aa.length->need av aa i=(b&&(List.range m).all (fun t=> !sF av aa i (j+t)))->
  Ev (fun k=>aG.l1 k av aa [] x6 (i:Int) (pt av (aa.getD i [])) b aa (aa.length:Int) (i:Int) aa (aa.length:Int) (j:Int)) R:=by
 intro m
 induction m with
 |zero=>
  intro j b hj hB
  have e:j=aa.length:=by omega
  subst e
  refine Ev.succ ?_
  simp only [aG.l1,dQ (show i<=9223372036854775806 by omega)]
  refine Ev.neg (by omega) ?_
  have RS:need av aa i=b:=by rw [hB];simp
  cases b with
  |true=>
   have:=hend (x6++[pt av (aa.getD i [])]) (by rw [RS];simp)
   exact Ev.pos rfl (Ev.pos (by omega) this)
  |false=>
   have:=hend x6 (by rw [RS];simp)
   exact Ev.neg (by decide) this
 |succ m ih=>
  intro j b hj hB
  have hlt:j<aa.length:=by omega
  refine Ev.succ ?_
  simp only [aG.l1,qR hlt,dQ (show j<=9223372036854775806 by omega)]
  refine Ev.pos (by omega) (Ev.pos (by omega) (Ev.pos (by omega) (Ev.bind (Oh _ _ (hr j) (by omega)) ?_)))
  have hs:(List.range (m+1)).all (fun t=> !sF av aa i (j+t))=(!sF av aa i j&&(List.range m).all (fun t=> !sF av aa i (j+1+t))):=by
   rw [List.range_succ_eq_map,List.all_cons,List.all_map]
   congr 1
   refine congrArg (fun f=>(List.range m).all f) (funext fun t=>?_)
   show (!sF av aa i (j+(t+1)))=_
   rw [show j+(t+1)=j+1+t by omega]
  rw [hs,<-Bool.and_assoc] at hB
  by_cases hij:j=i
  ·have ho:sF av aa i j=false:=by unfold sF;rw [decide_eq_false (by omega),Bool.false_and]
   rw [ho] at hB
   exact Ev.pos (by omega) (ih (j+1) b (by omega) (by rw [hB];simp))
  ·refine Ev.neg (by omega) (Ev.bind (Od _ _ (a0J hr i) (a0J hr j)) ?_)
   have ho:sF av aa i j=(RP (pt av (aa.getD i [])) (pt av (aa.getD j []))&&(decide ((pt av (aa.getD i [])).length<(pt av (aa.getD j [])).length)||decide (j<i))):=by unfold sF;rw [decide_eq_true hij,Bool.true_and]
   unfold RP at ho
   cases hsub:(pt av (aa.getD i [])).all (fun v=>decide (v∈pt av (aa.getD j []))) with
   |false=>
    rw [hsub,Bool.false_and] at ho
    rw [ho] at hB
    exact Ev.neg (by decide) (ih (j+1) b (by omega) (by rw [hB];simp))
   |true=>
    rw [hsub,Bool.true_and] at ho
    refine Ev.pos rfl ?_
    by_cases hl:(pt av (aa.getD i [])).length<(pt av (aa.getD j [])).length
    ·rw [decide_eq_true hl,Bool.true_or] at ho
     rw [ho] at hB
     exact Ev.pos (by omega) (ih (j+1) false (by omega) (by rw [hB];simp))
    ·refine Ev.neg (by omega) ?_
     rw [decide_eq_false hl,Bool.false_or] at ho
     by_cases hji:j<i
     ·rw [decide_eq_true hji] at ho
      rw [ho] at hB
      exact Ev.pos (by omega) (ih (j+1) false (by omega) (by rw [hB];simp))
     ·rw [decide_eq_false hji] at ho
      rw [ho] at hB
      exact Ev.neg (by omega) (ih (j+1) b (by omega) (by rw [hB];simp))
theorem b8w (R:Int×Int) (hend:Ev (fun k=>aG.l2 k [] (gf av aa) av (av.length:Int) 0) R):
 ∀m i,i+m=aa.length->Ev (fun k=>aG.l0 k av aa [] (((List.range i).filter (need av aa)).map (fun i=>pt av (aa.getD i []))) aa (aa.length:Int) (i:Int)) R:=by
 intro m
 induction m with
 |zero=>
  intro i hi
  have e:i=aa.length:=by omega
  subst e
  refine Ev.succ ?_
  simp only [aG.l0]
  exact Ev.neg (by omega) hend
 |succ m ih=>
  intro i hi
  have hlt:i<aa.length:=by omega
  refine Ev.succ ?_
  simp only [aG.l0,qR hlt]
  refine Ev.pos (by omega) (Ev.pos (by omega) (Ev.pos (by omega) (Ev.bind (Oh _ _ (hr i) (by omega)) ?_)))
  have hl:=List.length_filter_le (need av aa) (List.range i)
  rw [List.length_range] at hl
  have key:=b8v hnb hne hr (((List.range i).filter (need av aa)).map (fun i=>pt av (aa.getD i []))) i R hlt (by rw [List.length_map];exact hl) (fun x6' e=>by
   subst e
   have ih:=ih (i+1) (by omega)
   rw [List.range_succ,List.filter_append,List.map_append] at ih
   have e2:List.map (fun i=>pt av (aa.getD i [])) (List.filter (need av aa) [i])=if need av aa i=true then [pt av (aa.getD i [])] else []:=by
    cases h:need av aa i<;>simp [List.filter_cons,h]
   rw [e2] at ih
   exact ih) aa.length 0 (decide ((pt av (aa.getD i [])).length>0)) (by omega) (by
    unfold need
    have:decide ((pt av (aa.getD i [])).length>0)=decide (0<(pt av (aa.getD i [])).length):=rfl
    rw [this]
    simp only [Nat.zero_add])
  have e3:(decide (((pt av (aa.getD i [])).length:Int)>0))=decide ((pt av (aa.getD i [])).length>0):=decide_eq_decide.2 (by omega)
  rw [e3]
  exact key
end
section
variable {av:List Int} {parts:List (List Int)}
variable (hnb:av.length<=6) (hnp:parts.length<=7) (hr:∀j,(parts.getD j []).length<=1048576)
include hnb hnp hr
theorem b8x (x5:List dz) (i:Nat) (R:Int×Int) (hx5:x5.length<=100) (hi:i<av.length)
 (hend:Ev (fun k=>aG.l2 k (x5++[tL (gO av parts) parts.length false i]) parts av (av.length:Int) ((i+1:Nat):Int)) R):
 ∀m j,j+m=parts.length->Ev (fun k=>aG.l3 k x5 parts (av.getD i 0) av (av.length:Int) (i:Int) parts (parts.length:Int) (j:Int) (places (gO av parts i) j) false 1) R:=by
 intro m
 induction m with
 |zero=>
  intro j hj
  have e:j=parts.length:=by omega
  subst e
  refine Ev.succ ?_
  simp only [aG.l3,dQ (show i<=9223372036854775806 by omega)]
  exact Ev.neg (by omega) (Ev.pos (by omega) hend)
 |succ m ih=>
  intro j hj
  have hlt:j<parts.length:=by omega
  refine Ev.succ ?_
  simp only [aG.l3,qR hlt,dQ (show j<=9223372036854775806 by omega)]
  refine Ev.pos (by omega) (Ev.pos (by omega) (Ev.pos (by omega) (Ev.bind (uF _ _ (hr j)) ?_)))
  have ih:=ih (j+1) (by omega)
  rw [Fj] at ih
  have hp:gO av parts i j=decide (av.getD i 0∈parts.getD j []):=rfl
  have hpl:=Jj (gO av parts i) j
  by_cases h:av.getD i 0∈parts.getD j []
  ·rw [hp,if_pos (decide_eq_true h)] at ih
   refine Ev.pos (decide_eq_true h) (Ev.pos (by omega) ih)
  ·rw [hp,if_neg (by rw [decide_eq_false h];decide)] at ih
   simp only [List.append_nil] at ih
   refine Ev.neg (by rw [decide_eq_false h];decide) ih
theorem b8y (R:Int×Int) (hend:Ev (fun k=>aG.l4 k ((List.range av.length).map (tL (gO av parts) parts.length false)) parts (parts.length:Int) 0) R):
 ∀m i,i+m=av.length->Ev (fun k=>aG.l2 k ((List.range i).map (tL (gO av parts) parts.length false)) parts av (av.length:Int) (i:Int)) R:=by
 intro m
 induction m with
 |zero=>
  intro i hi
  have e:i=av.length:=by omega
  subst e
  refine Ev.succ ?_
  simp only [aG.l2]
  exact Ev.neg (by omega) hend
 |succ m ih=>
  intro i hi
  have hlt:i<av.length:=by omega
  refine Ev.succ ?_
  simp only [aG.l2,qh hlt]
  refine Ev.pos (by omega) (Ev.pos (by omega) (Ev.pos (by omega) ?_))
  rw [RO hlt]
  refine b8x hnb hnp hr _ i R (by rw [List.length_map,List.length_range];omega) hlt ?_ parts.length 0 (by omega)
  have ih:=ih (i+1) (by omega)
  have e1:(List.range (i+1)).map (tL (gO av parts) parts.length false)=(List.range i).map (tL (gO av parts) parts.length false)++[tL (gO av parts) parts.length false i]:=by rw [List.range_succ,List.map_append,List.map_singleton]
  rw [e1] at ih
  exact ih
theorem b8z (x:Nat->Rat) (h0:0<parts.length) (hx:Cm parts.length x) (ho:oC av parts=some x):
 ∀m i,i+m=parts.length->Ev (fun k=>aG.l4 k ((List.range av.length).map (tL (gO av parts) parts.length false)++(List.range i).map xZ) parts (parts.length:Int) (i:Int)) ((S parts.length x).num,((S parts.length x).den:Int)):=by
 intro m
 induction m with
 |zero=>
  intro i hi
  have e:i=parts.length:=by omega
  subst e
  refine Ev.succ ?_
  simp only [aG.l4]
  refine Ev.neg (by omega) ?_
  have e:(List.range av.length).map (tL (gO av parts) parts.length false)++(List.range parts.length).map xZ=sN (gO av parts) parts.length av.length false (fun _=>true):=by
   unfold sN
   rw [List.filter_eq_self.2 (fun _ _=>rfl)]
  rw [e]
  have okC:=LJ (P:=gO av parts) (m:=av.length) (up:=false) (inc:=fun _=>true) hnp
  have lC:=a2u (P:=gO av parts) (n:=parts.length) (m:=av.length) (up:=false) (inc:=fun _=>true)
  exact Ev.bind (a0p h0 hnp (by omega) okC ho) (Ev.bind (Jh hnp hx).1 (Ev.now _))
 |succ m ih=>
  intro i hi
  refine Ev.succ ?_
  simp only [aG.l4,dQ (show i<=9223372036854775806 by omega)]
  have ih:=ih (i+1) (by omega)
  have e1:(List.range (i+1)).map xZ=(List.range i).map xZ++[xZ i]:=by rw [List.range_succ,List.map_append,List.map_singleton]
  rw [e1,<-List.append_assoc] at ih
  exact Ev.pos (by omega) (Ev.pos (by simp only [List.length_append,List.length_map,List.length_range];omega) ih)
end
theorem Bx {aa:List (List Int)} (hr:∀x,x∈aa->x.length<=1048576):∀j,(aa.getD j []).length<=1048576:=fun j=>by
 by_cases hj:j<aa.length
 ·have:aa.getD j []=aa[j]:=by simp [List.getD_eq_getElem?_getD,hj]
  rw [this];exact hr _ (List.getElem_mem hj)
 ·have:aa.getD j []=[]:=by simp [List.getD_eq_getElem?_getD,hj]
  rw [this];simp
theorem a3D {av:List Int} {aa:List (List Int)} (hb:0<av.length) (hg:kT av aa=true) (hc:mH av aa=true) (W:World):Ev (fun k=>aG.f k av aa) ((wid av aa).num,((wid av aa).den:Int)):=by
 obtain ⟨hnb,hne,hrl⟩:=pP hg
 obtain ⟨_,hnp,hrp⟩:=pP (xw hg)
 obtain ⟨x,ex,cx,e⟩:=RT hb (xw hg) (yP hg hc) W
 have hrd:=Bx (aa:=aa) (fun x hx=>by have:=hrl x hx;omega)
 have b1N:=Bx (aa:=gf av aa) (fun x hx=>by have:=hrp x hx;omega)
 rw [<-a0v hb hg hc W,e]
 unfold aG.f
 have k4:=b8z hnb hnp b1N x (a0u hb (yP hg hc)) cx ex (gf av aa).length 0 (by omega)
 have k2:=b8y hnb hnp b1N _ (by simpa using k4) av.length 0 (by omega)
 have k0:=b8w hnb hne hrd _ (by simpa using k2) aa.length 0 (by omega)
 simpa using k0
end Go.Proofs.Ytkckdphjhlbdcaa.PT
namespace Go.Proofs.Ytkckdphjhlbdcaa.PT
open Go.RowKit Go.Proofs.Ytkckdphjhlbdcaa.P Go.Proofs.YtkckdphjhlbdcaaW.PrintWords Go.Proofs.YtkckdphjhlbdcaaW.PrintLast Go.Proofs.Ytkckdphjhlbdcaa.EvKit
set_option linter.all false
theorem FH (A:Option Addr) (c:Nat) (l:List Int) (v:Int) (W:World) (h:Kd.C (Kd.int .i64) W A l.length l) (hc:l.length<=c) (hl:l.length<=1048576):
 Calls Try.prog 49 #[.slice A l.length c,.int .i64 v] W fun e w'=>e= .returned (.bool (decide (v∈l)))/\aW W w':=by
 obtain ⟨k,hk⟩:=Ev.rounds (uF l v hl)
 exact bU.calls k A c l v _ W h hc hk
set_option maxHeartbeats 4000000 in
set_option maxRecDepth 100000 in
theorem Oy {w:World} {au:List (List Int)} {par home:List Int} {bg:tQ} {A0 A1 A2 A3:Option Addr} {c0 c1 c2 c3:Nat} (n d v:Int) (hP:BX w au par home bg A0 A1 A2 A3 c0 c1 c2 c3) (hin:Xd au par) (hn:au.length<=12) (hrow:∀i,(au.getD i []).length<=1048576):
 Calls Try.prog 26 #[.agg #[.slice A0 au.length c0,.slice A1 par.length c1,.slice A2 home.length c2,.slice A3 bg.length c3,.int .i64 n,.int .i64 d],.int .i64 v] w fun e w'=>e= .returned (.bool (pR au par v))/\Below w.heap.size w w':=by
 have HP:=Aside0.mk hP
 have ue:=Aside0.mk hin
 have qg:=Aside0.mk hrow
 have eN:=Aside0.mk (Below.refl w.heap.size w)
 clear hP hin hrow
 go_enter Try.func26,Try.ntmps26
 go_wp2
 have lY:Aside0 ((w.alloc (.cells #[.slice A0 au.length c0,.slice A1 par.length c1,.slice A2 home.length c2,.slice A3 bg.length c3,.int .i64 n,.int .i64 d] 36)).heap[w.heap.size]? =some (.cells #[.slice A0 au.length c0,.slice A1 par.length c1,.slice A2 home.length c2,.slice A3 bg.length c3,.int .i64 n,.int .i64 d] 36 (0,0))):=⟨dn w _⟩
 have di:Aside0 (Below w.heap.size w (w.alloc (.cells #[.slice A0 au.length c0,.slice A1 par.length c1,.slice A2 home.length c2,.slice A3 bg.length c3,.int .i64 n,.int .i64 d] 36))):=⟨aT eN.out _⟩
 replace HP:=Aside0.mk (HP.out.below di.out)
 clear eN
 generalize w.alloc (.cells #[.slice A0 au.length c0,.slice A1 par.length c1,.slice A2 home.length c2,.slice A3 bg.length c3,.int .i64 n,.int .i64 d] 36)=w1 at*
 go_loopw [5,11] (fun rv iv wr=>∃i:Nat,iv= .int .i64 (i:Int)/\rv= .int .i64 (jG au par v i:Nat)/\i<=au.length/\Aside0 (Below w1.heap.size w1 wr)) (fun _ iv _=>au.length -(intOf iv).toNat)
 case atStart=>exact ⟨0,rfl,rfl,by omega,⟨by repeat (first|exact Below.refl _ _|apply aI)⟩⟩
 case round=>
  obtain ⟨i,rfl,rfl,hi,HB⟩:=hrel
  by_cases hlt:i<au.length
  ·obtain ⟨ad,Ai,ci,e,hx,hlx,kA⟩:=mY HP.out.mI hlt
   obtain ⟨RX,e1,hp⟩:=pQ HP.out.wL (show i<par.length by have:=ue.out.1;omega)
   cases e;cases e1
   have HF:Aside0 (∀W,Below w1.heap.size w1 W->W.cell? ⟨w.heap.size,0,none⟩=some (.slice (some ad) au.length c0)/\W.cell? ⟨w.heap.size,1,none⟩=some (.slice (some RX) par.length c1)/\W.cell? (ad.add i)=some (.slice Ai (au.getD i []).length ci)/\W.cell? (RX.add i)=some (.int .i64 (par.getD i 0))):=⟨fun W hW=>by
    obtain ⟨h0,h1,_,_⟩:=RU.of (aj lY.out hW)
    exact ⟨h0,h1,(hW.cell (World.block_lt_of_cell? w1 _ hx)).trans hx,(hW.cell (World.block_lt_of_cell? w1 _ hp)).trans hp⟩⟩
   have hz:=HF.out wr HB.out
   have HI:=Aside0.mk hlt
   have gb:=Aside0.mk (fun W (hW:Below w1.heap.size w1 W)=>FH Ai ci (au.getD i []) v W (Kd.bp kA hW) hlx (qg.out i))
   have hpl:(i:Int)<(par.length:Int):=by have:=ue.out.1;omega
   have fE:Aside0 (wrap64 ((i:Int)+1)=((i+1:Nat):Int)):=⟨dQ (by omega)⟩
   have lS:Aside0 (wrap64 ((jG au par v i:Nat)+1)=((jG au par v i+1:Nat):Int)):=⟨dQ (by have:=UZ au par v i;omega)⟩
   have HT:Aside0 (jG au par v (i+1)=if Dq au par v i=true then jG au par v i+1 else jG au par v i):=⟨NY _ _ _ _⟩
   have vZ:Aside0 (Dq au par v i=(decide (v∈au.getD i [])&&(decide (par.getD i 0<0)|| !decide (v∈au.getD (par.getD i 0).toNat [])))):=⟨rfl⟩
   have Bu:Aside0 (par.getD i 0<0∨(par.getD i 0).toNat<au.length):=⟨ue.out.2 i hlt⟩
   have g0:(0:Int)<=(i:Int):=by omega
   have g1:(i:Int)<(au.length:Int):=by omega
   have oB:decide ((i:Int)<(au.length:Int))=true:=decide_eq_true g1
   have mW:decide (i<au.length)=true:=decide_eq_true hlt
   clear hx hp hlx kA hi hlt
   generalize au.getD i []=row at*
   generalize par.getD i 0=p at*
   generalize decide (v∈row)=b1 at*
   generalize jG au par v i=r at*
   obtain ⟨hz0,hz1,hz2,hz3⟩:=hz
   cases b1 with
   |false=>
    have qH:Aside0 (jG au par v (i+1)=r):=⟨by rw [HT.out,vZ.out];rfl⟩
    clear HT vZ Bu
    go_wp2
    go_quiet (first|(go_at_call 49;(with_reducible refine (gb.out _ (by repeat (first|exact HB.out|refine bu ?_ _|apply aI))).mono ?_);rintro e w' ⟨rfl,⟨nd,rfl⟩⟩;(try first|exact ⟨rfl,_,World.drewN_drewN _ _ _⟩|exact ⟨rfl,_,Eq.trans (World.drewN_drewN _ _ _) (congrArg (World.drewN _) (Nat.add_assoc _ _ _))⟩)))
    go_wp2
    go_roundw
    case rel=>exact ⟨i+1,by first|(rw [fE.out];done)|rfl|(simp;done),by rw [qH.out],HI.out,⟨by repeat (first|exact HB.out|refine bu ?_ _|apply aI)⟩⟩
    case measure=>(try rw [fE.out]);have:=HI.out;simp [intOf];omega
   |true=>
    by_cases p0:p<0
    ·have qH:Aside0 (jG au par v (i+1)=r+1):=⟨by rw [HT.out,vZ.out,decide_eq_true p0];rfl⟩
     have RZ:decide (p<0)=true:=decide_eq_true p0
     clear HT vZ Bu
     go_wp2
     go_quiet (first|(go_at_call 49;(with_reducible refine (gb.out _ (by repeat (first|exact HB.out|refine bu ?_ _|apply aI))).mono ?_);rintro e w' ⟨rfl,⟨nd,rfl⟩⟩;(try first|exact ⟨rfl,_,World.drewN_drewN _ _ _⟩|exact ⟨rfl,_,Eq.trans (World.drewN_drewN _ _ _) (congrArg (World.drewN _) (Nat.add_assoc _ _ _))⟩)))
     go_wp2
     go_roundw
     case rel=>exact ⟨i+1,by first|(rw [fE.out];done)|rfl|(simp;done),by rw [qH.out];first|rfl|(rw [lS.out];done),HI.out,⟨by repeat (first|exact HB.out|refine bu ?_ _|apply aI)⟩⟩
     case measure=>(try rw [fE.out]);have:=HI.out;simp [intOf];omega
    ·have hq:p.toNat<au.length:=Bu.out.resolve_left p0
     obtain ⟨ad',Aq,cq,e,hx,hlx,kA⟩:=mY HP.out.mI hq
     cases e
     have hx3:wr.cell? (ad.add p.toNat)=some (.slice Aq (au.getD p.toNat []).length cq):=(HB.out.cell (World.block_lt_of_cell? w1 _ hx)).trans hx
     have jZ:=Aside0.mk (fun W (hW:Below w1.heap.size w1 W)=>FH Aq cq (au.getD p.toNat []) v W (Kd.bp kA hW) hlx (qg.out _))
     have RZ:decide (p<0)=false:=decide_eq_false p0
     have p1:0<=p:=by omega
     have p2:p<(au.length:Int):=by omega
     clear hx hlx kA hq Bu HF
     generalize au.getD p.toNat []=GK at*
     generalize decide (v∈GK)=b2 at*
     cases b2 with
     |true=>
      have qH:Aside0 (jG au par v (i+1)=r):=⟨by rw [HT.out,vZ.out,RZ];rfl⟩
      clear HT vZ
      go_wp2
      go_quiet (first|(go_at_call 49;(with_reducible refine (gb.out _ (by repeat (first|exact HB.out|refine bu ?_ _|apply aI))).mono ?_);rintro e w' ⟨rfl,⟨nd,rfl⟩⟩;(try first|exact ⟨rfl,_,World.drewN_drewN _ _ _⟩|exact ⟨rfl,_,Eq.trans (World.drewN_drewN _ _ _) (congrArg (World.drewN _) (Nat.add_assoc _ _ _))⟩))|(go_at_call 49;(with_reducible refine (jZ.out _ (by repeat (first|exact HB.out|refine bu ?_ _|apply aI))).mono ?_);rintro e w' ⟨rfl,⟨nd,rfl⟩⟩;(try first|exact ⟨rfl,_,World.drewN_drewN _ _ _⟩|exact ⟨rfl,_,Eq.trans (World.drewN_drewN _ _ _) (congrArg (World.drewN _) (Nat.add_assoc _ _ _))⟩)))
      go_wp2
      go_roundw
      case rel=>exact ⟨i+1,by first|(rw [fE.out];done)|rfl|(simp;done),by rw [qH.out],HI.out,⟨by repeat (first|exact HB.out|refine bu ?_ _|apply aI)⟩⟩
      case measure=>(try rw [fE.out]);have:=HI.out;simp [intOf];omega
     |false=>
      have qH:Aside0 (jG au par v (i+1)=r+1):=⟨by rw [HT.out,vZ.out,RZ];rfl⟩
      clear HT vZ
      go_wp2
      go_quiet (first|(go_at_call 49;(with_reducible refine (gb.out _ (by repeat (first|exact HB.out|refine bu ?_ _|apply aI))).mono ?_);rintro e w' ⟨rfl,⟨nd,rfl⟩⟩;(try first|exact ⟨rfl,_,World.drewN_drewN _ _ _⟩|exact ⟨rfl,_,Eq.trans (World.drewN_drewN _ _ _) (congrArg (World.drewN _) (Nat.add_assoc _ _ _))⟩))|(go_at_call 49;(with_reducible refine (jZ.out _ (by repeat (first|exact HB.out|refine bu ?_ _|apply aI))).mono ?_);rintro e w' ⟨rfl,⟨nd,rfl⟩⟩;(try first|exact ⟨rfl,_,World.drewN_drewN _ _ _⟩|exact ⟨rfl,_,Eq.trans (World.drewN_drewN _ _ _) (congrArg (World.drewN _) (Nat.add_assoc _ _ _))⟩)))
      go_wp2
      go_roundw
      case rel=>exact ⟨i+1,by first|(rw [fE.out];done)|rfl|(simp;done),by rw [qH.out];first|rfl|(rw [lS.out];done),HI.out,⟨by repeat (first|exact HB.out|refine bu ?_ _|apply aI)⟩⟩
      case measure=>(try rw [fE.out]);have:=HI.out;simp [intOf];omega
  ·have sS:i=au.length:=by omega
   subst sS
   have oB:decide ((au.length:Int)<(au.length:Int))=false:=decide_eq_false (by omega)
   have mW:decide (au.length<au.length)=false:=decide_eq_false (by omega)
   have HE:Aside0 (pR au par v=(((jG au par v au.length:Nat):Int)==1)):=⟨by unfold pR;rw [Bool.eq_iff_iff,decide_eq_true_iff,beq_iff_eq];omega⟩
   clear hlt hi
   go_wp2
   go_ret
   exact ⟨by rw [HE.out];rfl,ah di.out HB.out⟩
end Go.Proofs.Ytkckdphjhlbdcaa.PT
namespace Go.Proofs.Ytkckdphjhlbdcaa.P
open Go.RowKit Go.Proofs.YtkckdphjhlbdcaaW.PrintWords Go.Proofs.YtkckdphjhlbdcaaW.PrintLast Go.Proofs.YtkckdphjhlbdcaaW.PrintMore
attribute [local go_sem] max2_int min2_int max_two min_two max_three min_three max_four min_four
set_option linter.all false
theorem a5T (d:Nat) (w:World) (x0 y0:Int) (x1 y1:Int):
 (Op.equalIn (d+2) 34 (.agg #[.int .i64 x0,.int .i64 x1]) (.agg #[.int .i64 y0,.int .i64 y1])).run Try.prog w= .ok (x0==y0&&(x1==y1)) w:=by
 refine a8y Try.underlying34 (by kernel_rfl) ?_
 refine a1s (by rfl) (by go_simp;rfl) (by go_simp;rfl) (by go_simp) ?_
 exact a1r (by rfl) (by go_simp;rfl) (by go_simp;rfl) (by go_simp)
end Go.Proofs.Ytkckdphjhlbdcaa.P
