/-
  Part 7 of the proof of this: The law FnExactPlanOK answers true at every argument.
-/
import Derived.Test.YtkckdphjhlbdcaaKPlanOK2
import Derived.Test.YtkckdphjhlbdcaaKPlanOK4
import Derived.Test.YtkckdphjhlbdcaaKPlanOK6
namespace Go.Proofs.Ytkckdphjhlbdcaa.P
open Go.RowKit Go.Proofs.YtkckdphjhlbdcaaW.PrintWords Go.Proofs.YtkckdphjhlbdcaaW.PrintLast Go.Proofs.YtkckdphjhlbdcaaW.PrintMore
attribute [local go_sem] max2_int min2_int max_two min_two max_three min_three max_four min_four
set_option linter.all false
def br.l0:Nat->List (dm)->List (dm)->Int->Int->Option (Bool)
 |0,_,_,_,_=>none
 |k+1,x0,x1,vU,zV=>if zV<vU then (if 0<=zV then (if zV<(x0.length:Int) then (if zV<(x1.length:Int) then ((cr.f ((aZ x0 zV).f0) ((aZ x0 zV).f1) ((aZ x1 zV).f0) ((aZ x1 zV).f1)).bind fun Wy=>(if Wy=true then (some true) else ((cr.f ((aZ x1 zV).f0) ((aZ x1 zV).f1) ((aZ x0 zV).f0) ((aZ x0 zV).f1)).bind fun t233=>(if t233=true then (some false) else (br.l0 k x0 x1 vU (wrap64 (zV+1))))))) else (none)) else (none)) else (none)) else (some false)
def br.f (k:Nat) (l0:List (dm)) (l1:List (dm)) (a2:Bool):Option (Bool):=(cg.f k l0).bind fun xp=>((cg.f k l1).bind fun qm=>((cr.f xp.1 xp.2 qm.1 qm.2).bind fun t226=>(if t226=true then (some (!a2)) else ((cr.f qm.1 qm.2 xp.1 xp.2).bind fun t227=>(if t227=true then (some a2) else (br.l0 k l0 l1 (l0.length:Int) 0))))))
theorem br.cC:∀k,(∀y0 y1 y2 y3,aR (br.l0 k y0 y1 y2 y3) (br.l0 (k+1) y0 y1 y2 y3))
 |0=>fun _ _ _ _ r h=>by simp [br.l0] at h
 |k+1=>by
  have dN:=br.cC k
  ·intro y0 y1 y2 y3
   unfold br.l0
   repeat' first
   |(with_reducible exact dN _ _ _ _)
   |(with_reducible exact cg.mono _ _)
   |(with_reducible exact aR.refl _)
   |(with_reducible exact aR.none _)
   |(with_reducible refine aR.ite ?_ ?_)
   |(with_reducible refine aR.bind ?_ (fun _=>?_))
theorem br.mono:∀a0 a1 a2 k,aR (br.f k a0 a1 a2) (br.f (k+1) a0 a1 a2):=by
 intro a0 a1 a2 k
 have dN:=br.cC k
 unfold br.f
 repeat' first
  |(with_reducible exact dN _ _ _ _)
  |(with_reducible exact cg.mono _ _)
  |(with_reducible exact aR.refl _)
  |(with_reducible exact aR.none _)
  |(with_reducible refine aR.ite ?_ ?_)
  |(with_reducible refine aR.bind ?_ (fun _=>?_))
def br.T10:Bool×List (List Nat×List Nat):=(true,[([],[]),([],[]),([0,1],[0,1]),([2],[2]),([],[]),([],[]),([4,5],[4,5]),([6],[6]),([3,7],[3,7])])
def br.B10:List Nat:=[0,0,3,7,0,0,48,112,255]
theorem br.Wz:lz .any (opsOf Try.f86 10)=br.T10:=by kernel_rfl
theorem br.QT:rj br.T10.2 br.B10=true:=by kernel_rfl
def br.T12:Bool×List (List Nat×List Nat):=(true,[([],[]),([],[]),([0,1],[0,1]),([2],[2]),([],[]),([],[]),([4,5],[4,5]),([6],[6]),([3,7],[3,7])])
def br.B12:List Nat:=[0,0,3,7,0,0,48,112,255]
theorem br.a4O:lz .any (opsOf Try.f86 12)=br.T12:=by kernel_rfl
theorem br.ZB:rj br.T12.2 br.B12=true:=by kernel_rfl
set_option maxHeartbeats 8000000 in
set_option maxRecDepth 100000 in
theorem br.calls (k:Nat) (A0:Option Addr) (c0:Nat) (l0:List (dm)) (A1:Option Addr) (c1:Nat) (l1:List (dm)) (a2:Bool) (r:Bool) (w:World) (fl:Kd.C gY w A0 l0.length l0) (hc0:l0.length<=c0) (hr1:Kd.C gY w A1 l1.length l1) (hc1:l1.length<=c1) (h:br.f k l0 l1 a2=some r):
 Calls Try.prog 86 #[.slice A0 l0.length c0,.slice A1 l1.length c1,.bool a2] w fun e w'=>e= .returned (.bool r)/\Below w.heap.size w w':=by
 have lB:=Try.underlying34
 have eu:=Aside0.mk fl
 have kr:=Aside0.mk hc0
 clear fl hc0
 have gA:=Aside0.mk hr1
 have gb:=Aside0.mk hc1
 clear hr1 hc1
 have HB:=Aside0.mk (Below.refl w.heap.size w)
 have H:((cg.f k l0).bind fun xp=>((cg.f k l1).bind fun qm=>((cr.f xp.1 xp.2 qm.1 qm.2).bind fun t226=>(if t226=true then (some (!a2)) else ((cr.f qm.1 qm.2 xp.1 xp.2).bind fun t227=>(if t227=true then (some a2) else (br.l0 k l0 l1 (l0.length:Int) 0)))))))=some r:=h
 clear h
 replace H:=Option.bind_eq_some_iff.mp H
 obtain ⟨⟨fM,fT⟩,vE,H⟩:=H
 replace H:((cg.f k l1).bind fun qm=>((cr.f fM fT qm.1 qm.2).bind fun t226=>(if t226=true then (some (!a2)) else ((cr.f qm.1 qm.2 fM fT).bind fun t227=>(if t227=true then (some a2) else (br.l0 k l0 l1 (l0.length:Int) 0))))))=some r:=H
 have A4:=Aside0.mk vE
 clear vE
 replace H:=Option.bind_eq_some_iff.mp H
 obtain ⟨⟨ju,jW⟩,yz,H⟩:=H
 replace H:((cr.f fM fT ju jW).bind fun t226=>(if t226=true then (some (!a2)) else ((cr.f ju jW fM fT).bind fun t227=>(if t227=true then (some a2) else (br.l0 k l0 l1 (l0.length:Int) 0)))))=some r:=H
 have A5:=Aside0.mk yz
 clear yz
 replace H:=Option.bind_eq_some_iff.mp H
 obtain ⟨t226,sW,H⟩:=H
 replace H:(if t226=true then (some (!a2)) else ((cr.f ju jW fM fT).bind fun t227=>(if t227=true then (some a2) else (br.l0 k l0 l1 (l0.length:Int) 0))))=some r:=H
 have A6:=Aside0.mk sW
 clear sW
 by_cases c7:t226=true
 ·subst c7
  have H1:(some (!a2))=some r:=by rw [if_pos rfl] at H;exact H
  clear H
  have H:=H1
  clear H1
  obtain rfl:=Option.some.inj H
  go_enter Try.func86,Try.ntmps86
  go_wp2_with (first|((with_reducible refine aV (f:=69) rfl ?_);refine bH (some 11) rfl rfl Try.func69 (by kernel_rfl) rfl #[.slice A0 l0.length c0] rfl (by (try simp only [List.map_toArray,List.map_cons,List.map_nil]);first|done|rfl|(simp only [List.length_drop,List.length_take];rfl)) ?_;(with_reducible refine (cg.calls k _ _ l0 fM fT _ ?bO ?bP A4.out).mono ?_);(case bO=>repeat (first|exact eu.out|(with_reducible refine Kd.bV ?_ _)|(with_reducible refine Kd.bW ?_ _)|(with_reducible refine Kd.cy ?_)));(case bP=>exact kr.out);rintro e w8 ⟨rfl,hb⟩;refine ⟨_,rfl,?_⟩;have aA:=Aside0.mk (ah ay hb);clear HB;have HB:=aA;clear aA;(try clear hb);(try clear hb2);(try clear hk);(try clear hi))|((with_reducible refine bn (N:=7) rfl ?_);refine bq ?hg (N:=7) ?hd (cs:= #[.int .i64 0,.int .i64 0]) (t:=34) ?hr ?_;(case hd=>rfl);(case hg=>rfl);(case hr=>first|(go_simp;done)|(go_simp;rfl));intro dY hg w9 aU hb;have aA:=Aside0.mk (ah ay hb);have aC:=Aside0.mk (aU);have aD:=Aside0.mk ((by rw [hg];exact (ax ay):w.heap.size<=dY));have aK:=Aside0.mk ((by rw [hg];exact (ax ay):w.heap.size<=dY));clear HB;have HB:=aA;have bQ:=aC;have a4P:=aD;have a4Q:=aK;clear aA aC aD aK;clear hb aU hg;have Lz:w9.cell? ⟨dY,0,none⟩=some (.int .i64 0):=(ag bQ.out 0).trans rfl;have LA:w9.cell? ⟨dY,1,none⟩=some (.int .i64 0):=(ag bQ.out 1).trans rfl;have LB:=af bQ.out 0;have LC:=af bQ.out 1)|((with_reducible refine aV (f:=69) rfl ?_);refine bH (some 13) rfl rfl Try.func69 (by kernel_rfl) rfl #[.slice A1 l1.length c1] rfl (by (try simp only [List.map_toArray,List.map_cons,List.map_nil]);first|done|rfl|(simp only [List.length_drop,List.length_take];rfl)) ?_;(with_reducible refine (cg.calls k _ _ l1 ju jW _ ?bO ?bP A5.out).mono ?_);(case bO=>exact Kd.bp gA.out ay);(case bP=>exact gb.out);rintro e kV ⟨rfl,hb⟩;refine ⟨_,rfl,?_⟩;have aA:=Aside0.mk (aj (g:=dY) (o:= .cells #[.int .i64 fM,.int .i64 fT] 34 (0,0)) (by (with_reducible repeat (first|refine aq ?_ _|refine ak ?_|refine ai ?_ _));refine bh (cs:= #[.int .i64 fM,.int .i64 0]) ?_ 1 _ rfl;(with_reducible repeat (first|refine aq ?_ _|refine ak ?_|refine ai ?_ _));refine bh (cs:= #[.int .i64 0,.int .i64 0]) ?_ 0 _ rfl;(with_reducible repeat (first|refine aq ?_ _|refine ak ?_|refine ai ?_ _));exact bQ.out) hb);have aC:=Aside0.mk (ah ay hb);clear bQ;clear HB;have bQ:=aA;have HB:=aC;clear aA aC;(try clear hb);(try clear hb2);(try clear hk);(try clear hi))|((with_reducible refine bn (N:=8) rfl ?_);refine bq ?hg (N:=8) ?hd (cs:= #[.int .i64 0,.int .i64 0]) (t:=34) ?hr ?_;(case hd=>rfl);(case hg=>rfl);(case hr=>first|(go_simp;done)|(go_simp;rfl));intro gB hg mV aU hb;have aA:=Aside0.mk (aj (g:=dY) (o:= .cells #[.int .i64 fM,.int .i64 fT] 34 (0,0)) (aH bQ) hb);have aC:=Aside0.mk (ah ay hb);have aD:=Aside0.mk (aU);have aK:=Aside0.mk ((by rw [hg];exact (ax ay):w.heap.size<=gB));have bF:=Aside0.mk ((by rw [hg];exact (ax ay):w.heap.size<=gB));have bS:=Aside0.mk ((by rw [hg];exact Nat.ne_of_lt (bf (g:=dY) (o:= .cells #[.int .i64 fM,.int .i64 fT] 34 (0,0)) (aH bQ)):dY≠gB));have bY:=Aside0.mk ((by rw [hg];exact Nat.ne_of_gt (bf (g:=dY) (o:= .cells #[.int .i64 fM,.int .i64 fT] 34 (0,0)) (aH bQ)):gB≠dY));clear bQ;clear HB;have bQ:=aA;have HB:=aC;have cV:=aD;have a4R:=aK;have a4S:=bF;have lI:=bS;have vV:=bY;clear aA aC aD aK bF bS bY;clear hb aU hg;have b3i:=vV.out;have b3j:=lI.out;have zW:mV.cell? ⟨gB,0,none⟩=some (.int .i64 0):=(ag cV.out 0).trans rfl;have zX:mV.cell? ⟨gB,1,none⟩=some (.int .i64 0):=(ag cV.out 1).trans rfl;have zY:=af cV.out 0;have zZ:=af cV.out 1;have KL:mV.cell? ⟨dY,0,none⟩=some (.int .i64 fM):=(ag bQ.out 0).trans rfl;have KM:mV.cell? ⟨dY,1,none⟩=some (.int .i64 fT):=(ag bQ.out 1).trans rfl;have KN:=af bQ.out 0;have KO:=af bQ.out 1)|((with_reducible refine aV (f:=51) rfl ?_);refine bH (some 16) rfl rfl Try.func51 (by kernel_rfl) rfl #[.agg #[.int .i64 fM,.int .i64 fT],.agg #[.int .i64 ju,.int .i64 jW]] rfl (by (try simp only [List.map_toArray,List.map_cons,List.map_nil]);first|done|rfl|(simp only [List.length_drop,List.length_take];rfl)) ?_;(with_reducible refine (cr.calls fM fT ju jW true _ A6.out).mono ?_);rintro e xL ⟨rfl,hb⟩;refine ⟨_,rfl,?_⟩;have aA:=Aside0.mk (aj (g:=dY) (o:= .cells #[.int .i64 fM,.int .i64 fT] 34 (0,0)) (by (with_reducible repeat (first|refine aq ?_ _|refine ak ?_|refine ai ?_ _));refine bM ?_ lI.out _;(with_reducible repeat (first|refine aq ?_ _|refine ak ?_|refine ai ?_ _));refine bM ?_ lI.out _;(with_reducible repeat (first|refine aq ?_ _|refine ak ?_|refine ai ?_ _));exact bQ.out) hb);have aC:=Aside0.mk (aj (g:=gB) (o:= .cells #[.int .i64 ju,.int .i64 jW] 34 (0,0)) (by (with_reducible repeat (first|refine aq ?_ _|refine ak ?_|refine ai ?_ _));refine bh (cs:= #[.int .i64 ju,.int .i64 0]) ?_ 1 _ rfl;(with_reducible repeat (first|refine aq ?_ _|refine ak ?_|refine ai ?_ _));refine bh (cs:= #[.int .i64 0,.int .i64 0]) ?_ 0 _ rfl;(with_reducible repeat (first|refine aq ?_ _|refine ak ?_|refine ai ?_ _));exact cV.out) hb);have aD:=Aside0.mk (ah ay hb);clear bQ;clear cV;clear HB;have bQ:=aA;have cV:=aC;have HB:=aD;clear aA aC aD;(try clear hb);(try clear hb2);(try clear hk);(try clear hi)))
  go_ret
  exact ⟨by first|rfl|(simp [aX,aY]<;>rfl)|(simp [*,aX,aY]<;>rfl),ay⟩
 ·replace c7:=Bool.eq_false_iff.mpr c7
  subst c7
  have H1:((cr.f ju jW fM fT).bind fun t227=>(if t227=true then (some a2) else (br.l0 k l0 l1 (l0.length:Int) 0)))=some r:=by rw [if_neg (show ¬(false=true) by decide)] at H;exact H
  clear H
  have H:=H1
  clear H1
  replace H:=Option.bind_eq_some_iff.mp H
  obtain ⟨t227,CV,H⟩:=H
  replace H:(if t227=true then (some a2) else (br.l0 k l0 l1 (l0.length:Int) 0))=some r:=H
  have Fg:=Aside0.mk CV
  clear CV
  by_cases c18:t227=true
  ·subst c18
   have H1:(some a2)=some r:=by rw [if_pos rfl] at H;exact H
   clear H
   have H:=H1
   clear H1
   obtain rfl:=Option.some.inj H
   go_enter Try.func86,Try.ntmps86
   go_wp2_with (first|((with_reducible refine aV (f:=69) rfl ?_);refine bH (some 11) rfl rfl Try.func69 (by kernel_rfl) rfl #[.slice A0 l0.length c0] rfl (by (try simp only [List.map_toArray,List.map_cons,List.map_nil]);first|done|rfl|(simp only [List.length_drop,List.length_take];rfl)) ?_;(with_reducible refine (cg.calls k _ _ l0 fM fT _ ?bO ?bP A4.out).mono ?_);(case bO=>repeat (first|exact eu.out|(with_reducible refine Kd.bV ?_ _)|(with_reducible refine Kd.bW ?_ _)|(with_reducible refine Kd.cy ?_)));(case bP=>exact kr.out);rintro e BH ⟨rfl,hb⟩;refine ⟨_,rfl,?_⟩;have aA:=Aside0.mk (ah ay hb);clear HB;have HB:=aA;clear aA;(try clear hb);(try clear hb2);(try clear hk);(try clear hi))|((with_reducible refine bn (N:=7) rfl ?_);refine bq ?hg (N:=7) ?hd (cs:= #[.int .i64 0,.int .i64 0]) (t:=34) ?hr ?_;(case hd=>rfl);(case hg=>rfl);(case hr=>first|(go_simp;done)|(go_simp;rfl));intro dY hg BI aU hb;have aA:=Aside0.mk (ah ay hb);have aC:=Aside0.mk (aU);have aD:=Aside0.mk ((by rw [hg];exact (ax ay):w.heap.size<=dY));have aK:=Aside0.mk ((by rw [hg];exact (ax ay):w.heap.size<=dY));clear HB;have HB:=aA;have bQ:=aC;have a4P:=aD;have a4Q:=aK;clear aA aC aD aK;clear hb aU hg;have zJ:BI.cell? ⟨dY,0,none⟩=some (.int .i64 0):=(ag bQ.out 0).trans rfl;have zK:BI.cell? ⟨dY,1,none⟩=some (.int .i64 0):=(ag bQ.out 1).trans rfl;have zL:=af bQ.out 0;have zM:=af bQ.out 1)|((with_reducible refine aV (f:=69) rfl ?_);refine bH (some 13) rfl rfl Try.func69 (by kernel_rfl) rfl #[.slice A1 l1.length c1] rfl (by (try simp only [List.map_toArray,List.map_cons,List.map_nil]);first|done|rfl|(simp only [List.length_drop,List.length_take];rfl)) ?_;(with_reducible refine (cg.calls k _ _ l1 ju jW _ ?bO ?bP A5.out).mono ?_);(case bO=>exact Kd.bp gA.out ay);(case bP=>exact gb.out);rintro e nh ⟨rfl,hb⟩;refine ⟨_,rfl,?_⟩;have aA:=Aside0.mk (aj (g:=dY) (o:= .cells #[.int .i64 fM,.int .i64 fT] 34 (0,0)) (by (with_reducible repeat (first|refine aq ?_ _|refine ak ?_|refine ai ?_ _));refine bh (cs:= #[.int .i64 fM,.int .i64 0]) ?_ 1 _ rfl;(with_reducible repeat (first|refine aq ?_ _|refine ak ?_|refine ai ?_ _));refine bh (cs:= #[.int .i64 0,.int .i64 0]) ?_ 0 _ rfl;(with_reducible repeat (first|refine aq ?_ _|refine ak ?_|refine ai ?_ _));exact bQ.out) hb);have aC:=Aside0.mk (ah ay hb);clear bQ;clear HB;have bQ:=aA;have HB:=aC;clear aA aC;(try clear hb);(try clear hb2);(try clear hk);(try clear hi))|((with_reducible refine bn (N:=8) rfl ?_);refine bq ?hg (N:=8) ?hd (cs:= #[.int .i64 0,.int .i64 0]) (t:=34) ?hr ?_;(case hd=>rfl);(case hg=>rfl);(case hr=>first|(go_simp;done)|(go_simp;rfl));intro gB hg TJ aU hb;have aA:=Aside0.mk (aj (g:=dY) (o:= .cells #[.int .i64 fM,.int .i64 fT] 34 (0,0)) (aH bQ) hb);have aC:=Aside0.mk (ah ay hb);have aD:=Aside0.mk (aU);have aK:=Aside0.mk ((by rw [hg];exact (ax ay):w.heap.size<=gB));have bF:=Aside0.mk ((by rw [hg];exact (ax ay):w.heap.size<=gB));have bS:=Aside0.mk ((by rw [hg];exact Nat.ne_of_lt (bf (g:=dY) (o:= .cells #[.int .i64 fM,.int .i64 fT] 34 (0,0)) (aH bQ)):dY≠gB));have bY:=Aside0.mk ((by rw [hg];exact Nat.ne_of_gt (bf (g:=dY) (o:= .cells #[.int .i64 fM,.int .i64 fT] 34 (0,0)) (aH bQ)):gB≠dY));clear bQ;clear HB;have bQ:=aA;have HB:=aC;have cV:=aD;have a4R:=aK;have a4S:=bF;have lI:=bS;have vV:=bY;clear aA aC aD aK bF bS bY;clear hb aU hg;have a4L:=vV.out;have a4M:=lI.out;have Eh:TJ.cell? ⟨gB,0,none⟩=some (.int .i64 0):=(ag cV.out 0).trans rfl;have Ei:TJ.cell? ⟨gB,1,none⟩=some (.int .i64 0):=(ag cV.out 1).trans rfl;have Ej:=af cV.out 0;have Ek:=af cV.out 1;have Ea:TJ.cell? ⟨dY,0,none⟩=some (.int .i64 fM):=(ag bQ.out 0).trans rfl;have Eb:TJ.cell? ⟨dY,1,none⟩=some (.int .i64 fT):=(ag bQ.out 1).trans rfl;have Ec:=af bQ.out 0;have Ed:=af bQ.out 1)|((with_reducible refine aV (f:=51) rfl ?_);refine bH (some 16) rfl rfl Try.func51 (by kernel_rfl) rfl #[.agg #[.int .i64 fM,.int .i64 fT],.agg #[.int .i64 ju,.int .i64 jW]] rfl (by (try simp only [List.map_toArray,List.map_cons,List.map_nil]);first|done|rfl|(simp only [List.length_drop,List.length_take];rfl)) ?_;(with_reducible refine (cr.calls fM fT ju jW false _ A6.out).mono ?_);rintro e PZ ⟨rfl,hb⟩;refine ⟨_,rfl,?_⟩;have aA:=Aside0.mk (aj (g:=dY) (o:= .cells #[.int .i64 fM,.int .i64 fT] 34 (0,0)) (by (with_reducible repeat (first|refine aq ?_ _|refine ak ?_|refine ai ?_ _));refine bM ?_ lI.out _;(with_reducible repeat (first|refine aq ?_ _|refine ak ?_|refine ai ?_ _));refine bM ?_ lI.out _;(with_reducible repeat (first|refine aq ?_ _|refine ak ?_|refine ai ?_ _));exact bQ.out) hb);have aC:=Aside0.mk (aj (g:=gB) (o:= .cells #[.int .i64 ju,.int .i64 jW] 34 (0,0)) (by (with_reducible repeat (first|refine aq ?_ _|refine ak ?_|refine ai ?_ _));refine bh (cs:= #[.int .i64 ju,.int .i64 0]) ?_ 1 _ rfl;(with_reducible repeat (first|refine aq ?_ _|refine ak ?_|refine ai ?_ _));refine bh (cs:= #[.int .i64 0,.int .i64 0]) ?_ 0 _ rfl;(with_reducible repeat (first|refine aq ?_ _|refine ak ?_|refine ai ?_ _));exact cV.out) hb);have aD:=Aside0.mk (ah ay hb);clear bQ;clear cV;clear HB;have bQ:=aA;have cV:=aC;have HB:=aD;clear aA aC aD;(try clear hb);(try clear hb2);(try clear hk);(try clear hi);have zF:PZ.cell? ⟨gB,0,none⟩=some (.int .i64 ju):=(ag cV.out 0).trans rfl;have zG:PZ.cell? ⟨gB,1,none⟩=some (.int .i64 jW):=(ag cV.out 1).trans rfl;have zH:=af cV.out 0;have zI:=af cV.out 1;have LD:PZ.cell? ⟨dY,0,none⟩=some (.int .i64 fM):=(ag bQ.out 0).trans rfl;have LF:PZ.cell? ⟨dY,1,none⟩=some (.int .i64 fT):=(ag bQ.out 1).trans rfl;have LG:=af bQ.out 0;have LH:=af bQ.out 1)|((with_reducible refine aV (f:=51) rfl ?_);refine bH (some 21) rfl rfl Try.func51 (by kernel_rfl) rfl #[.agg #[.int .i64 ju,.int .i64 jW],.agg #[.int .i64 fM,.int .i64 fT]] rfl (by (try simp only [List.map_toArray,List.map_cons,List.map_nil]);first|done|rfl|(simp only [List.length_drop,List.length_take];rfl)) ?_;(with_reducible refine (cr.calls ju jW fM fT true _ Fg.out).mono ?_);rintro e yM ⟨rfl,hb⟩;refine ⟨_,rfl,?_⟩;have aA:=Aside0.mk (aj (g:=dY) (o:= .cells #[.int .i64 fM,.int .i64 fT] 34 (0,0)) (aH bQ) hb);have aC:=Aside0.mk (aj (g:=gB) (o:= .cells #[.int .i64 ju,.int .i64 jW] 34 (0,0)) (aH cV) hb);have aD:=Aside0.mk (ah ay hb);clear bQ;clear cV;clear HB;have bQ:=aA;have cV:=aC;have HB:=aD;clear aA aC aD;(try clear hb);(try clear hb2);(try clear hk);(try clear hi)))
   go_ret
   exact ⟨by first|rfl|(simp [aX,aY]<;>rfl)|(simp [*,aX,aY]<;>rfl),ay⟩
  ·replace c18:=Bool.eq_false_iff.mpr c18
   subst c18
   have H1:(br.l0 k l0 l1 (l0.length:Int) 0)=some r:=by rw [if_neg (show ¬(false=true) by decide)] at H;exact H
   clear H
   have H:=H1
   clear H1
   have H':=Aside0.mk H
   clear H
   go_enter Try.func86,Try.ntmps86
   go_wp2_with (first|((with_reducible refine aV (f:=69) rfl ?_);refine bH (some 11) rfl rfl Try.func69 (by kernel_rfl) rfl #[.slice A0 l0.length c0] rfl (by (try simp only [List.map_toArray,List.map_cons,List.map_nil]);first|done|rfl|(simp only [List.length_drop,List.length_take];rfl)) ?_;(with_reducible refine (cg.calls k _ _ l0 fM fT _ ?bO ?bP A4.out).mono ?_);(case bO=>repeat (first|exact eu.out|(with_reducible refine Kd.bV ?_ _)|(with_reducible refine Kd.bW ?_ _)|(with_reducible refine Kd.cy ?_)));(case bP=>exact kr.out);rintro e w31 ⟨rfl,hb⟩;refine ⟨_,rfl,?_⟩;have aA:=Aside0.mk (ah ay hb);clear HB;have HB:=aA;clear aA;(try clear hb);(try clear hb2);(try clear hk);(try clear hi))|((with_reducible refine bn (N:=7) rfl ?_);refine bq ?hg (N:=7) ?hd (cs:= #[.int .i64 0,.int .i64 0]) (t:=34) ?hr ?_;(case hd=>rfl);(case hg=>rfl);(case hr=>first|(go_simp;done)|(go_simp;rfl));intro dY hg Cz aU hb;have aA:=Aside0.mk (ah ay hb);have aC:=Aside0.mk (aU);have aD:=Aside0.mk ((by rw [hg];exact (ax ay):w.heap.size<=dY));have aK:=Aside0.mk ((by rw [hg];exact (ax ay):w.heap.size<=dY));clear HB;have HB:=aA;have bQ:=aC;have a4P:=aD;have a4Q:=aK;clear aA aC aD aK;clear hb aU hg;have a6W:Cz.cell? ⟨dY,0,none⟩=some (.int .i64 0):=(ag bQ.out 0).trans rfl;have a6X:Cz.cell? ⟨dY,1,none⟩=some (.int .i64 0):=(ag bQ.out 1).trans rfl;have a6Y:=af bQ.out 0;have a6Z:=af bQ.out 1)|((with_reducible refine aV (f:=69) rfl ?_);refine bH (some 13) rfl rfl Try.func69 (by kernel_rfl) rfl #[.slice A1 l1.length c1] rfl (by (try simp only [List.map_toArray,List.map_cons,List.map_nil]);first|done|rfl|(simp only [List.length_drop,List.length_take];rfl)) ?_;(with_reducible refine (cg.calls k _ _ l1 ju jW _ ?bO ?bP A5.out).mono ?_);(case bO=>exact Kd.bp gA.out ay);(case bP=>exact gb.out);rintro e w34 ⟨rfl,hb⟩;refine ⟨_,rfl,?_⟩;have aA:=Aside0.mk (aj (g:=dY) (o:= .cells #[.int .i64 fM,.int .i64 fT] 34 (0,0)) (by (with_reducible repeat (first|refine aq ?_ _|refine ak ?_|refine ai ?_ _));refine bh (cs:= #[.int .i64 fM,.int .i64 0]) ?_ 1 _ rfl;(with_reducible repeat (first|refine aq ?_ _|refine ak ?_|refine ai ?_ _));refine bh (cs:= #[.int .i64 0,.int .i64 0]) ?_ 0 _ rfl;(with_reducible repeat (first|refine aq ?_ _|refine ak ?_|refine ai ?_ _));exact bQ.out) hb);have aC:=Aside0.mk (ah ay hb);clear bQ;clear HB;have bQ:=aA;have HB:=aC;clear aA aC;(try clear hb);(try clear hb2);(try clear hk);(try clear hi))|((with_reducible refine bn (N:=8) rfl ?_);refine bq ?hg (N:=8) ?hd (cs:= #[.int .i64 0,.int .i64 0]) (t:=34) ?hr ?_;(case hd=>rfl);(case hg=>rfl);(case hr=>first|(go_simp;done)|(go_simp;rfl));intro gB hg BJ aU hb;have aA:=Aside0.mk (aj (g:=dY) (o:= .cells #[.int .i64 fM,.int .i64 fT] 34 (0,0)) (aH bQ) hb);have aC:=Aside0.mk (ah ay hb);have aD:=Aside0.mk (aU);have aK:=Aside0.mk ((by rw [hg];exact (ax ay):w.heap.size<=gB));have bF:=Aside0.mk ((by rw [hg];exact (ax ay):w.heap.size<=gB));have bS:=Aside0.mk ((by rw [hg];exact Nat.ne_of_lt (bf (g:=dY) (o:= .cells #[.int .i64 fM,.int .i64 fT] 34 (0,0)) (aH bQ)):dY≠gB));have bY:=Aside0.mk ((by rw [hg];exact Nat.ne_of_gt (bf (g:=dY) (o:= .cells #[.int .i64 fM,.int .i64 fT] 34 (0,0)) (aH bQ)):gB≠dY));clear bQ;clear HB;have bQ:=aA;have HB:=aC;have cV:=aD;have a4R:=aK;have a4S:=bF;have lI:=bS;have vV:=bY;clear aA aC aD aK bF bS bY;clear hb aU hg;have b2K:=vV.out;have b2L:=lI.out;have Ur:BJ.cell? ⟨gB,0,none⟩=some (.int .i64 0):=(ag cV.out 0).trans rfl;have Us:BJ.cell? ⟨gB,1,none⟩=some (.int .i64 0):=(ag cV.out 1).trans rfl;have Ut:=af cV.out 0;have Uu:=af cV.out 1;have TT:BJ.cell? ⟨dY,0,none⟩=some (.int .i64 fM):=(ag bQ.out 0).trans rfl;have TU:BJ.cell? ⟨dY,1,none⟩=some (.int .i64 fT):=(ag bQ.out 1).trans rfl;have TV:=af bQ.out 0;have TW:=af bQ.out 1)|((with_reducible refine aV (f:=51) rfl ?_);refine bH (some 16) rfl rfl Try.func51 (by kernel_rfl) rfl #[.agg #[.int .i64 fM,.int .i64 fT],.agg #[.int .i64 ju,.int .i64 jW]] rfl (by (try simp only [List.map_toArray,List.map_cons,List.map_nil]);first|done|rfl|(simp only [List.length_drop,List.length_take];rfl)) ?_;(with_reducible refine (cr.calls fM fT ju jW false _ A6.out).mono ?_);rintro e Qb ⟨rfl,hb⟩;refine ⟨_,rfl,?_⟩;have aA:=Aside0.mk (aj (g:=dY) (o:= .cells #[.int .i64 fM,.int .i64 fT] 34 (0,0)) (by (with_reducible repeat (first|refine aq ?_ _|refine ak ?_|refine ai ?_ _));refine bM ?_ lI.out _;(with_reducible repeat (first|refine aq ?_ _|refine ak ?_|refine ai ?_ _));refine bM ?_ lI.out _;(with_reducible repeat (first|refine aq ?_ _|refine ak ?_|refine ai ?_ _));exact bQ.out) hb);have aC:=Aside0.mk (aj (g:=gB) (o:= .cells #[.int .i64 ju,.int .i64 jW] 34 (0,0)) (by (with_reducible repeat (first|refine aq ?_ _|refine ak ?_|refine ai ?_ _));refine bh (cs:= #[.int .i64 ju,.int .i64 0]) ?_ 1 _ rfl;(with_reducible repeat (first|refine aq ?_ _|refine ak ?_|refine ai ?_ _));refine bh (cs:= #[.int .i64 0,.int .i64 0]) ?_ 0 _ rfl;(with_reducible repeat (first|refine aq ?_ _|refine ak ?_|refine ai ?_ _));exact cV.out) hb);have aD:=Aside0.mk (ah ay hb);clear bQ;clear cV;clear HB;have bQ:=aA;have cV:=aC;have HB:=aD;clear aA aC aD;(try clear hb);(try clear hb2);(try clear hk);(try clear hi);have El:Qb.cell? ⟨gB,0,none⟩=some (.int .i64 ju):=(ag cV.out 0).trans rfl;have Em:Qb.cell? ⟨gB,1,none⟩=some (.int .i64 jW):=(ag cV.out 1).trans rfl;have En:=af cV.out 0;have Eo:=af cV.out 1;have KT:Qb.cell? ⟨dY,0,none⟩=some (.int .i64 fM):=(ag bQ.out 0).trans rfl;have KU:Qb.cell? ⟨dY,1,none⟩=some (.int .i64 fT):=(ag bQ.out 1).trans rfl;have KV:=af bQ.out 0;have KW:=af bQ.out 1)|((with_reducible refine aV (f:=51) rfl ?_);refine bH (some 21) rfl rfl Try.func51 (by kernel_rfl) rfl #[.agg #[.int .i64 ju,.int .i64 jW],.agg #[.int .i64 fM,.int .i64 fT]] rfl (by (try simp only [List.map_toArray,List.map_cons,List.map_nil]);first|done|rfl|(simp only [List.length_drop,List.length_take];rfl)) ?_;(with_reducible refine (cr.calls ju jW fM fT false _ Fg.out).mono ?_);rintro e w42 ⟨rfl,hb⟩;refine ⟨_,rfl,?_⟩;have aA:=Aside0.mk (aj (g:=dY) (o:= .cells #[.int .i64 fM,.int .i64 fT] 34 (0,0)) (aH bQ) hb);have aC:=Aside0.mk (aj (g:=gB) (o:= .cells #[.int .i64 ju,.int .i64 jW] 34 (0,0)) (aH cV) hb);have aD:=Aside0.mk (ah ay hb);clear bQ;clear cV;clear HB;have bQ:=aA;have cV:=aC;have HB:=aD;clear aA aC aD;(try clear hb);(try clear hb2);(try clear hk);(try clear hi)))
   go_loopg [25] k (fun kq v25 w'=>∃(bD:Int),v25= .int .i64 bD/\Aside0 (br.l0 kq l0 l1 (l0.length:Int) bD=some r)/\Aside0 (kq<=k)/\Aside0 (w'.heap[dY]? =some (.cells #[.int .i64 fM,.int .i64 fT] 34 (0,0)))/\Aside0 (w'.heap[gB]? =some (.cells #[.int .i64 ju,.int .i64 jW] 34 (0,0)))/\Aside0 (Below w.heap.size w w'))
   case atStart=>exact ⟨(0),(by first|rfl|(simp;done)|(simp [*];done)),H',⟨Nat.le_refl _⟩,⟨by (with_reducible repeat (first|refine aq ?_ _|refine ak ?_|refine ai ?_ _));exact bQ.out⟩,⟨by (with_reducible repeat (first|refine aq ?_ _|refine ak ?_|refine ai ?_ _));exact cV.out⟩,⟨ay⟩⟩
   case round=>
    clear H'
    try clear c1
    try clear c2
    try clear p2
    try clear c3
    try clear c5
    try clear c6
    try clear c7
    try clear c8
    try clear c13
    try clear c18
    try clear c24
    try clear QU
    try clear Lz
    try clear LA
    try clear zW
    try clear zX
    try clear KL
    try clear KM
    try clear zJ
    try clear zK
    try clear Eh
    try clear Ei
    try clear Ea
    try clear Eb
    try clear zF
    try clear zG
    try clear LD
    try clear LF
    try clear a6W
    try clear a6X
    try clear Ur
    try clear Us
    try clear TT
    try clear TU
    try clear El
    try clear Em
    try clear KT
    try clear KU
    try clear LB
    try clear LC
    try clear zY
    try clear zZ
    try clear KN
    try clear KO
    try clear zL
    try clear zM
    try clear Ej
    try clear Ek
    try clear Ec
    try clear Ed
    try clear zH
    try clear zI
    try clear LG
    try clear LH
    try clear a6Y
    try clear a6Z
    try clear Ut
    try clear Uu
    try clear TV
    try clear TW
    try clear En
    try clear Eo
    try clear KV
    try clear KW
    obtain ⟨bD,rfl,HA,dX,bQ,cV,HB⟩:=hrel
    cases gk with
    |zero=>exact absurd HA.out (by simp [br.l0])
    |succ k1=>
     have H:=HA.out
     clear HA
     simp only [br.l0] at H
     by_cases BU:bD<(l0.length:Int)
     ·rw [if_pos BU] at H
      have WA:decide (bD<(l0.length:Int))=true:=decide_eq_true BU
      clear BU
      by_cases Fh:0<=bD
      ·rw [if_pos Fh] at H
       have a4T:decide (0<=bD)=true:=decide_eq_true Fh
       clear Fh
       by_cases c45:bD<(l0.length:Int)
       ·rw [if_pos c45] at H
        have c45b0:decide (bD<(l0.length:Int))=true:=decide_eq_true c45
        clear c45
        by_cases Fi:bD<(l1.length:Int)
        ·rw [if_pos Fi] at H
         have c46b0:decide (bD<(l1.length:Int))=true:=decide_eq_true Fi
         clear Fi
         replace H:=Option.bind_eq_some_iff.mp H
         obtain ⟨Wy,a9H,H⟩:=H
         replace H:(if Wy=true then (some true) else ((cr.f ((aZ l1 bD).f0) ((aZ l1 bD).f1) ((aZ l0 bD).f0) ((aZ l0 bD).f1)).bind fun t233=>(if t233=true then (some false) else (br.l0 k1 l0 l1 (l0.length:Int) (wrap64 (bD+1))))))=some r:=H
         have A47:=Aside0.mk a9H
         clear a9H
         by_cases ZC:Wy=true
         ·subst ZC
          have H1:(some true)=some r:=by rw [if_pos rfl] at H;exact H
          clear H
          have H:=H1
          clear H1
          obtain rfl:=Option.some.inj H
          try go_wp2
          have aA:=Aside0.mk (ak bQ.out)
          have aC:=Aside0.mk (ak cV.out)
          have aD:=Aside0.mk (aI HB.out)
          clear bQ
          clear cV
          clear HB
          have bQ:=aA
          have cV:=aC
          have HB:=aD
          clear aA aC aD
          have xU:0<=(bD:Int):=of_decide_eq_true (by first|(with_reducible assumption)|assumption)
          have xV:bD<(l0.length:Int):=of_decide_eq_true (by first|(with_reducible assumption)|assumption)
          obtain ⟨mE,QV,jO,jP⟩:=kj eu.out bD xU xV
          have lT:=jP
          have lU:=jO
          cases QV
          replace jO:=(HB.out.cell (World.block_lt_of_cell? w _ jO)).trans jO
          replace jP:=(HB.out.cell (World.block_lt_of_cell? w _ jP)).trans jP
          replace xU:=eq_true xU
          replace xV:=eq_true xV
          have xW:0<=(bD:Int):=of_decide_eq_true (by first|(with_reducible assumption)|assumption)
          have xX:bD<(l1.length:Int):=of_decide_eq_true (by first|(with_reducible assumption)|assumption)
          obtain ⟨mF,QW,jQ,jR⟩:=kj gA.out bD xW xX
          have lV:=jR
          have lW:=jQ
          cases QW
          replace jQ:=(HB.out.cell (World.block_lt_of_cell? w _ jQ)).trans jQ
          replace jR:=(HB.out.cell (World.block_lt_of_cell? w _ jR)).trans jR
          replace xW:=eq_true xW
          replace xX:=eq_true xX
          refine fL (n:=9) (S:=fun w'=>w'.cell? (mE.add ((bD).toNat*2))=some (.int .i64 ((aZ l0 bD).f0))/\w'.cell? ⟨(mE.add ((bD).toNat*2)).block,(mE.add ((bD).toNat*2)).off+1,none⟩=some (.int .i64 ((aZ l0 bD).f1))/\w'.cell? (mF.add ((bD).toNat*2))=some (.int .i64 ((aZ l1 bD).f0))/\w'.cell? ⟨(mF.add ((bD).toNat*2)).block,(mF.add ((bD).toNat*2)).off+1,none⟩=some (.int .i64 ((aZ l1 bD).f1))) (ds:=[]) #[false,false,false,false,false,false,false,false,false] (by kernel_rfl) rfl rfl ⟨((HB.out.cell (World.block_lt_of_cell? w _ lU)).trans lU),((HB.out.cell (World.block_lt_of_cell? w _ lT)).trans lT),((HB.out.cell (World.block_lt_of_cell? w _ lW)).trans lW),((HB.out.cell (World.block_lt_of_cell? w _ lV)).trans lV)⟩ (fun hHeld=>?_);refine jK br.Wz br.QT (fun cG oV=>?_)
          generalize wr.drew=w49 at bQ cV HB jO jP jQ jR hHeld⊢
          refine cB cG (i:=0) (N:=some 28) ?_
          refine cB cG (i:=1) (N:=some 29) ?_
          refine cB cG (i:=2) (N:=some 30) ?_
          refine cB cG (i:=4) (N:=some 32) ?_
          refine cB cG (i:=5) (N:=some 33) ?_
          refine cB cG (i:=6) (N:=some 34) ?_
          refine dS (i:=3) (N:=some 31) (v:=?_) (a':=?_) #[true,true,true,true,true,true,true,false,false] rfl rfl (ki cG.out oV.out (by kernel_rfl)) (fun _ _ _ h=>h) (Or.inl ⟨by rfl,?_⟩) hHeld ?_ ?_
          rotate_left
          ·rintro w' ⟨s0,s1,s2,s3⟩
           go_simp
           with_reducible rfl
          rotate_left
          ·exact fj
          refine dS (i:=7) (N:=some 35) (v:=?_) (a':=?_) #[true,true,true,true,true,true,true,true,false] rfl rfl (ki cG.out oV.out (by kernel_rfl)) (fun _ _ _ h=>h) (Or.inl ⟨by rfl,?_⟩) hHeld ?_ ?_
          rotate_left
          ·rintro w' ⟨s0,s1,s2,s3⟩
           go_simp
           with_reducible rfl
          rotate_left
          ·exact fj
          refine gj (i:=8) (N:=some 36) #[true,true,true,true,true,true,true,true,true] rfl rfl (lA cG.out (by kernel_rfl)) (by decide) (fun K hK=>?_)
          refine pg Try.func51 (by kernel_rfl) rfl #[.agg #[.int .i64 ((aZ l0 bD).f0),.int .i64 ((aZ l0 bD).f1)],.agg #[.int .i64 ((aZ l1 bD).f0),.int .i64 ((aZ l1 bD).f1)]] (by rfl) rfl rfl (by (try simp only [List.map_toArray,List.map_cons,List.map_nil]);first|done|rfl|(simp only [List.length_drop,List.length_take];rfl)) ?_
          with_reducible refine (cr.calls ((aZ l0 bD).f0) ((aZ l0 bD).f1) ((aZ l1 bD).f0) ((aZ l1 bD).f1) true _ A47.out).mono ?_
          rintro e w50 ⟨rfl,hb⟩
          refine ⟨_,rfl,?_⟩
          have aA:=Aside0.mk (aj (g:=dY) (o:= .cells #[.int .i64 fM,.int .i64 fT] 34 (0,0)) (aH bQ) hb)
          have aC:=Aside0.mk (aj (g:=gB) (o:= .cells #[.int .i64 ju,.int .i64 jW] 34 (0,0)) (aH cV) hb)
          have aD:=Aside0.mk (ah ay hb)
          clear bQ
          clear cV
          clear HB
          have bQ:=aA
          have cV:=aC
          have HB:=aD
          clear aA aC aD
          (try clear hb)
          (try clear hb2)
          (try clear hk)
          (try clear hi)
          refine hK.out _ _ ⟨((HB.out.cell (World.block_lt_of_cell? w _ lU)).trans lU),((HB.out.cell (World.block_lt_of_cell? w _ lT)).trans lT),((HB.out.cell (World.block_lt_of_cell? w _ lW)).trans lW),((HB.out.cell (World.block_lt_of_cell? w _ lV)).trans lV)⟩ (fun hHeld=>?_)
          clear hK K
          refine fq (a':=?_) ?_ ?_
          rotate_left
          ·show Act.put _ (some 36) _=_
           simp only [Act.put,List.setIfInBounds_toArray,List.set_cons_zero,List.set_cons_succ,dJ,eD]
           rfl
          refine gU (mO cG.out (by kernel_rfl)) ?_
          try go_wp2
          go_ret
          exact ⟨by first|rfl|(simp [aX,aY]<;>rfl)|(simp [*,aX,aY]<;>rfl),ay⟩
         ·replace ZC:=Bool.eq_false_iff.mpr ZC
          subst ZC
          have H1:((cr.f ((aZ l1 bD).f0) ((aZ l1 bD).f1) ((aZ l0 bD).f0) ((aZ l0 bD).f1)).bind fun t233=>(if t233=true then (some false) else (br.l0 k1 l0 l1 (l0.length:Int) (wrap64 (bD+1)))))=some r:=by rw [if_neg (show ¬(false=true) by decide)] at H;exact H
          clear H
          have H:=H1
          clear H1
          replace H:=Option.bind_eq_some_iff.mp H
          obtain ⟨t233,a9J,H⟩:=H
          replace H:(if t233=true then (some false) else (br.l0 k1 l0 l1 (l0.length:Int) (wrap64 (bD+1))))=some r:=H
          have A51:=Aside0.mk a9J
          clear a9J
          by_cases c52:t233=true
          ·subst c52
           have H1:(some false)=some r:=by rw [if_pos rfl] at H;exact H
           clear H
           have H:=H1
           clear H1
           obtain rfl:=Option.some.inj H
           try go_wp2
           have aA:=Aside0.mk (ak bQ.out)
           have aC:=Aside0.mk (ak cV.out)
           have aD:=Aside0.mk (aI HB.out)
           clear bQ
           clear cV
           clear HB
           have bQ:=aA
           have cV:=aC
           have HB:=aD
           clear aA aC aD
           have xU:0<=(bD:Int):=of_decide_eq_true (by first|(with_reducible assumption)|assumption)
           have xV:bD<(l0.length:Int):=of_decide_eq_true (by first|(with_reducible assumption)|assumption)
           obtain ⟨mE,QV,jO,jP⟩:=kj eu.out bD xU xV
           have lT:=jP
           have lU:=jO
           cases QV
           replace jO:=(HB.out.cell (World.block_lt_of_cell? w _ jO)).trans jO
           replace jP:=(HB.out.cell (World.block_lt_of_cell? w _ jP)).trans jP
           replace xU:=eq_true xU
           replace xV:=eq_true xV
           have xW:0<=(bD:Int):=of_decide_eq_true (by first|(with_reducible assumption)|assumption)
           have xX:bD<(l1.length:Int):=of_decide_eq_true (by first|(with_reducible assumption)|assumption)
           obtain ⟨mF,QW,jQ,jR⟩:=kj gA.out bD xW xX
           have lV:=jR
           have lW:=jQ
           cases QW
           replace jQ:=(HB.out.cell (World.block_lt_of_cell? w _ jQ)).trans jQ
           replace jR:=(HB.out.cell (World.block_lt_of_cell? w _ jR)).trans jR
           replace xW:=eq_true xW
           replace xX:=eq_true xX
           refine fL (n:=9) (S:=fun w'=>w'.cell? (mE.add ((bD).toNat*2))=some (.int .i64 ((aZ l0 bD).f0))/\w'.cell? ⟨(mE.add ((bD).toNat*2)).block,(mE.add ((bD).toNat*2)).off+1,none⟩=some (.int .i64 ((aZ l0 bD).f1))/\w'.cell? (mF.add ((bD).toNat*2))=some (.int .i64 ((aZ l1 bD).f0))/\w'.cell? ⟨(mF.add ((bD).toNat*2)).block,(mF.add ((bD).toNat*2)).off+1,none⟩=some (.int .i64 ((aZ l1 bD).f1))) (ds:=[]) #[false,false,false,false,false,false,false,false,false] (by kernel_rfl) rfl rfl ⟨((HB.out.cell (World.block_lt_of_cell? w _ lU)).trans lU),((HB.out.cell (World.block_lt_of_cell? w _ lT)).trans lT),((HB.out.cell (World.block_lt_of_cell? w _ lW)).trans lW),((HB.out.cell (World.block_lt_of_cell? w _ lV)).trans lV)⟩ (fun hHeld=>?_);refine jK br.Wz br.QT (fun cG oV=>?_)
           generalize wr.drew=w53 at bQ cV HB jO jP jQ jR hHeld⊢
           refine cB cG (i:=0) (N:=some 28) ?_
           refine cB cG (i:=1) (N:=some 29) ?_
           refine cB cG (i:=2) (N:=some 30) ?_
           refine cB cG (i:=4) (N:=some 32) ?_
           refine cB cG (i:=5) (N:=some 33) ?_
           refine cB cG (i:=6) (N:=some 34) ?_
           refine dS (i:=3) (N:=some 31) (v:=?_) (a':=?_) #[true,true,true,true,true,true,true,false,false] rfl rfl (ki cG.out oV.out (by kernel_rfl)) (fun _ _ _ h=>h) (Or.inl ⟨by rfl,?_⟩) hHeld ?_ ?_
           rotate_left
           ·rintro w' ⟨s0,s1,s2,s3⟩
            go_simp
            with_reducible rfl
           rotate_left
           ·exact fj
           refine dS (i:=7) (N:=some 35) (v:=?_) (a':=?_) #[true,true,true,true,true,true,true,true,false] rfl rfl (ki cG.out oV.out (by kernel_rfl)) (fun _ _ _ h=>h) (Or.inl ⟨by rfl,?_⟩) hHeld ?_ ?_
           rotate_left
           ·rintro w' ⟨s0,s1,s2,s3⟩
            go_simp
            with_reducible rfl
           rotate_left
           ·exact fj
           refine gj (i:=8) (N:=some 36) #[true,true,true,true,true,true,true,true,true] rfl rfl (lA cG.out (by kernel_rfl)) (by decide) (fun K hK=>?_)
           refine pg Try.func51 (by kernel_rfl) rfl #[.agg #[.int .i64 ((aZ l0 bD).f0),.int .i64 ((aZ l0 bD).f1)],.agg #[.int .i64 ((aZ l1 bD).f0),.int .i64 ((aZ l1 bD).f1)]] (by rfl) rfl rfl (by (try simp only [List.map_toArray,List.map_cons,List.map_nil]);first|done|rfl|(simp only [List.length_drop,List.length_take];rfl)) ?_
           with_reducible refine (cr.calls ((aZ l0 bD).f0) ((aZ l0 bD).f1) ((aZ l1 bD).f0) ((aZ l1 bD).f1) false _ A47.out).mono ?_
           rintro e w54 ⟨rfl,hb⟩
           refine ⟨_,rfl,?_⟩
           have aA:=Aside0.mk (aj (g:=dY) (o:= .cells #[.int .i64 fM,.int .i64 fT] 34 (0,0)) (aH bQ) hb)
           have aC:=Aside0.mk (aj (g:=gB) (o:= .cells #[.int .i64 ju,.int .i64 jW] 34 (0,0)) (aH cV) hb)
           have aD:=Aside0.mk (ah ay hb)
           clear bQ
           clear cV
           clear HB
           have bQ:=aA
           have cV:=aC
           have HB:=aD
           clear aA aC aD
           (try clear hb)
           (try clear hb2)
           (try clear hk)
           (try clear hi)
           refine hK.out _ _ ⟨((HB.out.cell (World.block_lt_of_cell? w _ lU)).trans lU),((HB.out.cell (World.block_lt_of_cell? w _ lT)).trans lT),((HB.out.cell (World.block_lt_of_cell? w _ lW)).trans lW),((HB.out.cell (World.block_lt_of_cell? w _ lV)).trans lV)⟩ (fun hHeld=>?_)
           clear hK K
           refine fq (a':=?_) ?_ ?_
           rotate_left
           ·show Act.put _ (some 36) _=_
            simp only [Act.put,List.setIfInBounds_toArray,List.set_cons_zero,List.set_cons_succ,dJ,eD]
            rfl
           refine gU (mO cG.out (by kernel_rfl)) ?_
           try go_wp2
           have aA:=Aside0.mk (ak bQ.out)
           have aC:=Aside0.mk (ak cV.out)
           have aD:=Aside0.mk (aI HB.out)
           clear bQ
           clear cV
           clear HB
           have bQ:=aA
           have cV:=aC
           have HB:=aD
           clear aA aC aD
           have Gd:0<=(bD:Int):=of_decide_eq_true (by first|(with_reducible assumption)|assumption)
           have Ge:bD<(l1.length:Int):=of_decide_eq_true (by first|(with_reducible assumption)|assumption)
           obtain ⟨WB,a2o,oF,oG⟩:=kj gA.out bD Gd Ge
           have rz:=oG
           have rA:=oF
           obtain rfl:mF=WB:=(by injection a2o)
           replace oF:=(HB.out.cell (World.block_lt_of_cell? w _ oF)).trans oF
           replace oG:=(HB.out.cell (World.block_lt_of_cell? w _ oG)).trans oG
           replace Gd:=eq_true Gd
           replace Ge:=eq_true Ge
           have Gf:0<=(bD:Int):=of_decide_eq_true (by first|(with_reducible assumption)|assumption)
           have Gg:bD<(l0.length:Int):=of_decide_eq_true (by first|(with_reducible assumption)|assumption)
           obtain ⟨WC,a2p,oH,oJ⟩:=kj eu.out bD Gf Gg
           have rB:=oJ
           have rC:=oH
           obtain rfl:mE=WC:=(by injection a2p)
           replace oH:=(HB.out.cell (World.block_lt_of_cell? w _ oH)).trans oH
           replace oJ:=(HB.out.cell (World.block_lt_of_cell? w _ oJ)).trans oJ
           replace Gf:=eq_true Gf
           replace Gg:=eq_true Gg
           refine fL (n:=9) (S:=fun w'=>w'.cell? (mF.add ((bD).toNat*2))=some (.int .i64 ((aZ l1 bD).f0))/\w'.cell? ⟨(mF.add ((bD).toNat*2)).block,(mF.add ((bD).toNat*2)).off+1,none⟩=some (.int .i64 ((aZ l1 bD).f1))/\w'.cell? (mE.add ((bD).toNat*2))=some (.int .i64 ((aZ l0 bD).f0))/\w'.cell? ⟨(mE.add ((bD).toNat*2)).block,(mE.add ((bD).toNat*2)).off+1,none⟩=some (.int .i64 ((aZ l0 bD).f1))) (ds:=[]) #[false,false,false,false,false,false,false,false,false] (by kernel_rfl) rfl rfl ⟨((HB.out.cell (World.block_lt_of_cell? w _ rA)).trans rA),((HB.out.cell (World.block_lt_of_cell? w _ rz)).trans rz),((HB.out.cell (World.block_lt_of_cell? w _ rC)).trans rC),((HB.out.cell (World.block_lt_of_cell? w _ rB)).trans rB)⟩ (fun hHeld=>?_);refine jK br.a4O br.ZB (fun cG oV=>?_)
           generalize w54.drew=w55 at bQ cV HB oF oG oH oJ hHeld⊢
           refine cB cG (i:=0) (N:=some 37) ?_
           refine cB cG (i:=1) (N:=some 38) ?_
           refine cB cG (i:=2) (N:=some 39) ?_
           refine cB cG (i:=4) (N:=some 41) ?_
           refine cB cG (i:=5) (N:=some 42) ?_
           refine cB cG (i:=6) (N:=some 43) ?_
           refine dS (i:=3) (N:=some 40) (v:=?_) (a':=?_) #[true,true,true,true,true,true,true,false,false] rfl rfl (ki cG.out oV.out (by kernel_rfl)) (fun _ _ _ h=>h) (Or.inl ⟨by rfl,?_⟩) hHeld ?_ ?_
           rotate_left
           ·rintro w' ⟨s0,s1,s2,s3⟩
            go_simp
            with_reducible rfl
           rotate_left
           ·exact fj
           refine dS (i:=7) (N:=some 44) (v:=?_) (a':=?_) #[true,true,true,true,true,true,true,true,false] rfl rfl (ki cG.out oV.out (by kernel_rfl)) (fun _ _ _ h=>h) (Or.inl ⟨by rfl,?_⟩) hHeld ?_ ?_
           rotate_left
           ·rintro w' ⟨s0,s1,s2,s3⟩
            go_simp
            with_reducible rfl
           rotate_left
           ·exact fj
           refine gj (i:=8) (N:=some 45) #[true,true,true,true,true,true,true,true,true] rfl rfl (lA cG.out (by kernel_rfl)) (by decide) (fun K hK=>?_)
           refine pg Try.func51 (by kernel_rfl) rfl #[.agg #[.int .i64 ((aZ l1 bD).f0),.int .i64 ((aZ l1 bD).f1)],.agg #[.int .i64 ((aZ l0 bD).f0),.int .i64 ((aZ l0 bD).f1)]] (by rfl) rfl rfl (by (try simp only [List.map_toArray,List.map_cons,List.map_nil]);first|done|rfl|(simp only [List.length_drop,List.length_take];rfl)) ?_
           with_reducible refine (cr.calls ((aZ l1 bD).f0) ((aZ l1 bD).f1) ((aZ l0 bD).f0) ((aZ l0 bD).f1) true _ A51.out).mono ?_
           rintro e w56 ⟨rfl,hb⟩
           refine ⟨_,rfl,?_⟩
           have aA:=Aside0.mk (aj (g:=dY) (o:= .cells #[.int .i64 fM,.int .i64 fT] 34 (0,0)) (aH bQ) hb)
           have aC:=Aside0.mk (aj (g:=gB) (o:= .cells #[.int .i64 ju,.int .i64 jW] 34 (0,0)) (aH cV) hb)
           have aD:=Aside0.mk (ah ay hb)
           clear bQ
           clear cV
           clear HB
           have bQ:=aA
           have cV:=aC
           have HB:=aD
           clear aA aC aD
           (try clear hb)
           (try clear hb2)
           (try clear hk)
           (try clear hi)
           refine hK.out _ _ ⟨((HB.out.cell (World.block_lt_of_cell? w _ rA)).trans rA),((HB.out.cell (World.block_lt_of_cell? w _ rz)).trans rz),((HB.out.cell (World.block_lt_of_cell? w _ rC)).trans rC),((HB.out.cell (World.block_lt_of_cell? w _ rB)).trans rB)⟩ (fun hHeld=>?_)
           clear hK K
           refine fq (a':=?_) ?_ ?_
           rotate_left
           ·show Act.put _ (some 45) _=_
            simp only [Act.put,List.setIfInBounds_toArray,List.set_cons_zero,List.set_cons_succ,dJ,eD]
            rfl
           refine gU (mO cG.out (by kernel_rfl)) ?_
           try go_wp2
           go_ret
           exact ⟨by first|rfl|(simp [aX,aY]<;>rfl)|(simp [*,aX,aY]<;>rfl),ay⟩
          ·replace c52:=Bool.eq_false_iff.mpr c52
           subst c52
           have H1:(br.l0 k1 l0 l1 (l0.length:Int) (wrap64 (bD+1)))=some r:=by rw [if_neg (show ¬(false=true) by decide)] at H;exact H
           clear H
           have H:=H1
           clear H1
           have H':=Aside0.mk H
           clear H
           try go_wp2
           have aA:=Aside0.mk (ak bQ.out)
           have aC:=Aside0.mk (ak cV.out)
           have aD:=Aside0.mk (aI HB.out)
           clear bQ
           clear cV
           clear HB
           have bQ:=aA
           have cV:=aC
           have HB:=aD
           clear aA aC aD
           have xU:0<=(bD:Int):=of_decide_eq_true (by first|(with_reducible assumption)|assumption)
           have xV:bD<(l0.length:Int):=of_decide_eq_true (by first|(with_reducible assumption)|assumption)
           obtain ⟨mE,QV,jO,jP⟩:=kj eu.out bD xU xV
           have lT:=jP
           have lU:=jO
           cases QV
           replace jO:=(HB.out.cell (World.block_lt_of_cell? w _ jO)).trans jO
           replace jP:=(HB.out.cell (World.block_lt_of_cell? w _ jP)).trans jP
           replace xU:=eq_true xU
           replace xV:=eq_true xV
           have xW:0<=(bD:Int):=of_decide_eq_true (by first|(with_reducible assumption)|assumption)
           have xX:bD<(l1.length:Int):=of_decide_eq_true (by first|(with_reducible assumption)|assumption)
           obtain ⟨mF,QW,jQ,jR⟩:=kj gA.out bD xW xX
           have lV:=jR
           have lW:=jQ
           cases QW
           replace jQ:=(HB.out.cell (World.block_lt_of_cell? w _ jQ)).trans jQ
           replace jR:=(HB.out.cell (World.block_lt_of_cell? w _ jR)).trans jR
           replace xW:=eq_true xW
           replace xX:=eq_true xX
           refine fL (n:=9) (S:=fun w'=>w'.cell? (mE.add ((bD).toNat*2))=some (.int .i64 ((aZ l0 bD).f0))/\w'.cell? ⟨(mE.add ((bD).toNat*2)).block,(mE.add ((bD).toNat*2)).off+1,none⟩=some (.int .i64 ((aZ l0 bD).f1))/\w'.cell? (mF.add ((bD).toNat*2))=some (.int .i64 ((aZ l1 bD).f0))/\w'.cell? ⟨(mF.add ((bD).toNat*2)).block,(mF.add ((bD).toNat*2)).off+1,none⟩=some (.int .i64 ((aZ l1 bD).f1))) (ds:=[]) #[false,false,false,false,false,false,false,false,false] (by kernel_rfl) rfl rfl ⟨((HB.out.cell (World.block_lt_of_cell? w _ lU)).trans lU),((HB.out.cell (World.block_lt_of_cell? w _ lT)).trans lT),((HB.out.cell (World.block_lt_of_cell? w _ lW)).trans lW),((HB.out.cell (World.block_lt_of_cell? w _ lV)).trans lV)⟩ (fun hHeld=>?_);refine jK br.Wz br.QT (fun cG oV=>?_)
           generalize wr.drew=w57 at bQ cV HB jO jP jQ jR hHeld⊢
           refine cB cG (i:=0) (N:=some 28) ?_
           refine cB cG (i:=1) (N:=some 29) ?_
           refine cB cG (i:=2) (N:=some 30) ?_
           refine cB cG (i:=4) (N:=some 32) ?_
           refine cB cG (i:=5) (N:=some 33) ?_
           refine cB cG (i:=6) (N:=some 34) ?_
           refine dS (i:=3) (N:=some 31) (v:=?_) (a':=?_) #[true,true,true,true,true,true,true,false,false] rfl rfl (ki cG.out oV.out (by kernel_rfl)) (fun _ _ _ h=>h) (Or.inl ⟨by rfl,?_⟩) hHeld ?_ ?_
           rotate_left
           ·rintro w' ⟨s0,s1,s2,s3⟩
            go_simp
            with_reducible rfl
           rotate_left
           ·exact fj
           refine dS (i:=7) (N:=some 35) (v:=?_) (a':=?_) #[true,true,true,true,true,true,true,true,false] rfl rfl (ki cG.out oV.out (by kernel_rfl)) (fun _ _ _ h=>h) (Or.inl ⟨by rfl,?_⟩) hHeld ?_ ?_
           rotate_left
           ·rintro w' ⟨s0,s1,s2,s3⟩
            go_simp
            with_reducible rfl
           rotate_left
           ·exact fj
           refine gj (i:=8) (N:=some 36) #[true,true,true,true,true,true,true,true,true] rfl rfl (lA cG.out (by kernel_rfl)) (by decide) (fun K hK=>?_)
           refine pg Try.func51 (by kernel_rfl) rfl #[.agg #[.int .i64 ((aZ l0 bD).f0),.int .i64 ((aZ l0 bD).f1)],.agg #[.int .i64 ((aZ l1 bD).f0),.int .i64 ((aZ l1 bD).f1)]] (by rfl) rfl rfl (by (try simp only [List.map_toArray,List.map_cons,List.map_nil]);first|done|rfl|(simp only [List.length_drop,List.length_take];rfl)) ?_
           with_reducible refine (cr.calls ((aZ l0 bD).f0) ((aZ l0 bD).f1) ((aZ l1 bD).f0) ((aZ l1 bD).f1) false _ A47.out).mono ?_
           rintro e w58 ⟨rfl,hb⟩
           refine ⟨_,rfl,?_⟩
           have aA:=Aside0.mk (aj (g:=dY) (o:= .cells #[.int .i64 fM,.int .i64 fT] 34 (0,0)) (aH bQ) hb)
           have aC:=Aside0.mk (aj (g:=gB) (o:= .cells #[.int .i64 ju,.int .i64 jW] 34 (0,0)) (aH cV) hb)
           have aD:=Aside0.mk (ah ay hb)
           clear bQ
           clear cV
           clear HB
           have bQ:=aA
           have cV:=aC
           have HB:=aD
           clear aA aC aD
           (try clear hb)
           (try clear hb2)
           (try clear hk)
           (try clear hi)
           refine hK.out _ _ ⟨((HB.out.cell (World.block_lt_of_cell? w _ lU)).trans lU),((HB.out.cell (World.block_lt_of_cell? w _ lT)).trans lT),((HB.out.cell (World.block_lt_of_cell? w _ lW)).trans lW),((HB.out.cell (World.block_lt_of_cell? w _ lV)).trans lV)⟩ (fun hHeld=>?_)
           clear hK K
           refine fq (a':=?_) ?_ ?_
           rotate_left
           ·show Act.put _ (some 36) _=_
            simp only [Act.put,List.setIfInBounds_toArray,List.set_cons_zero,List.set_cons_succ,dJ,eD]
            rfl
           refine gU (mO cG.out (by kernel_rfl)) ?_
           try go_wp2
           have aA:=Aside0.mk (ak bQ.out)
           have aC:=Aside0.mk (ak cV.out)
           have aD:=Aside0.mk (aI HB.out)
           clear bQ
           clear cV
           clear HB
           have bQ:=aA
           have cV:=aC
           have HB:=aD
           clear aA aC aD
           have Gd:0<=(bD:Int):=of_decide_eq_true (by first|(with_reducible assumption)|assumption)
           have Ge:bD<(l1.length:Int):=of_decide_eq_true (by first|(with_reducible assumption)|assumption)
           obtain ⟨WB,a2o,oF,oG⟩:=kj gA.out bD Gd Ge
           have rz:=oG
           have rA:=oF
           obtain rfl:mF=WB:=(by injection a2o)
           replace oF:=(HB.out.cell (World.block_lt_of_cell? w _ oF)).trans oF
           replace oG:=(HB.out.cell (World.block_lt_of_cell? w _ oG)).trans oG
           replace Gd:=eq_true Gd
           replace Ge:=eq_true Ge
           have Gf:0<=(bD:Int):=of_decide_eq_true (by first|(with_reducible assumption)|assumption)
           have Gg:bD<(l0.length:Int):=of_decide_eq_true (by first|(with_reducible assumption)|assumption)
           obtain ⟨WC,a2p,oH,oJ⟩:=kj eu.out bD Gf Gg
           have rB:=oJ
           have rC:=oH
           obtain rfl:mE=WC:=(by injection a2p)
           replace oH:=(HB.out.cell (World.block_lt_of_cell? w _ oH)).trans oH
           replace oJ:=(HB.out.cell (World.block_lt_of_cell? w _ oJ)).trans oJ
           replace Gf:=eq_true Gf
           replace Gg:=eq_true Gg
           refine fL (n:=9) (S:=fun w'=>w'.cell? (mF.add ((bD).toNat*2))=some (.int .i64 ((aZ l1 bD).f0))/\w'.cell? ⟨(mF.add ((bD).toNat*2)).block,(mF.add ((bD).toNat*2)).off+1,none⟩=some (.int .i64 ((aZ l1 bD).f1))/\w'.cell? (mE.add ((bD).toNat*2))=some (.int .i64 ((aZ l0 bD).f0))/\w'.cell? ⟨(mE.add ((bD).toNat*2)).block,(mE.add ((bD).toNat*2)).off+1,none⟩=some (.int .i64 ((aZ l0 bD).f1))) (ds:=[]) #[false,false,false,false,false,false,false,false,false] (by kernel_rfl) rfl rfl ⟨((HB.out.cell (World.block_lt_of_cell? w _ rA)).trans rA),((HB.out.cell (World.block_lt_of_cell? w _ rz)).trans rz),((HB.out.cell (World.block_lt_of_cell? w _ rC)).trans rC),((HB.out.cell (World.block_lt_of_cell? w _ rB)).trans rB)⟩ (fun hHeld=>?_);refine jK br.a4O br.ZB (fun cG oV=>?_)
           generalize w58.drew=w59 at bQ cV HB oF oG oH oJ hHeld⊢
           refine cB cG (i:=0) (N:=some 37) ?_
           refine cB cG (i:=1) (N:=some 38) ?_
           refine cB cG (i:=2) (N:=some 39) ?_
           refine cB cG (i:=4) (N:=some 41) ?_
           refine cB cG (i:=5) (N:=some 42) ?_
           refine cB cG (i:=6) (N:=some 43) ?_
           refine dS (i:=3) (N:=some 40) (v:=?_) (a':=?_) #[true,true,true,true,true,true,true,false,false] rfl rfl (ki cG.out oV.out (by kernel_rfl)) (fun _ _ _ h=>h) (Or.inl ⟨by rfl,?_⟩) hHeld ?_ ?_
           rotate_left
           ·rintro w' ⟨s0,s1,s2,s3⟩
            go_simp
            with_reducible rfl
           rotate_left
           ·exact fj
           refine dS (i:=7) (N:=some 44) (v:=?_) (a':=?_) #[true,true,true,true,true,true,true,true,false] rfl rfl (ki cG.out oV.out (by kernel_rfl)) (fun _ _ _ h=>h) (Or.inl ⟨by rfl,?_⟩) hHeld ?_ ?_
           rotate_left
           ·rintro w' ⟨s0,s1,s2,s3⟩
            go_simp
            with_reducible rfl
           rotate_left
           ·exact fj
           refine gj (i:=8) (N:=some 45) #[true,true,true,true,true,true,true,true,true] rfl rfl (lA cG.out (by kernel_rfl)) (by decide) (fun K hK=>?_)
           refine pg Try.func51 (by kernel_rfl) rfl #[.agg #[.int .i64 ((aZ l1 bD).f0),.int .i64 ((aZ l1 bD).f1)],.agg #[.int .i64 ((aZ l0 bD).f0),.int .i64 ((aZ l0 bD).f1)]] (by rfl) rfl rfl (by (try simp only [List.map_toArray,List.map_cons,List.map_nil]);first|done|rfl|(simp only [List.length_drop,List.length_take];rfl)) ?_
           with_reducible refine (cr.calls ((aZ l1 bD).f0) ((aZ l1 bD).f1) ((aZ l0 bD).f0) ((aZ l0 bD).f1) false _ A51.out).mono ?_
           rintro e w60 ⟨rfl,hb⟩
           refine ⟨_,rfl,?_⟩
           have aA:=Aside0.mk (aj (g:=dY) (o:= .cells #[.int .i64 fM,.int .i64 fT] 34 (0,0)) (aH bQ) hb)
           have aC:=Aside0.mk (aj (g:=gB) (o:= .cells #[.int .i64 ju,.int .i64 jW] 34 (0,0)) (aH cV) hb)
           have aD:=Aside0.mk (ah ay hb)
           clear bQ
           clear cV
           clear HB
           have bQ:=aA
           have cV:=aC
           have HB:=aD
           clear aA aC aD
           (try clear hb)
           (try clear hb2)
           (try clear hk)
           (try clear hi)
           refine hK.out _ _ ⟨((HB.out.cell (World.block_lt_of_cell? w _ rA)).trans rA),((HB.out.cell (World.block_lt_of_cell? w _ rz)).trans rz),((HB.out.cell (World.block_lt_of_cell? w _ rC)).trans rC),((HB.out.cell (World.block_lt_of_cell? w _ rB)).trans rB)⟩ (fun hHeld=>?_)
           clear hK K
           refine fq (a':=?_) ?_ ?_
           rotate_left
           ·show Act.put _ (some 45) _=_
            simp only [Act.put,List.setIfInBounds_toArray,List.set_cons_zero,List.set_cons_succ,dJ,eD]
            rfl
           refine gU (mO cG.out (by kernel_rfl)) ?_
           try go_wp2
           go_roundg k1
           case measure=>have:=dX.out;omega
           case rel=>exact ⟨(wrap64 (bD+1)),(by first|rfl|(simp;done)|(simp [*];done)),H',⟨by have:=dX.out;omega⟩,⟨by (with_reducible repeat (first|refine aq ?_ _|refine ak ?_|refine ai ?_ _));exact bQ.out⟩,⟨by (with_reducible repeat (first|refine aq ?_ _|refine ak ?_|refine ai ?_ _));exact cV.out⟩,⟨ay⟩⟩
        ·rw [if_neg Fi] at H
         exact absurd H (by simp)
       ·rw [if_neg c45] at H
        exact absurd H (by simp)
      ·rw [if_neg Fh] at H
       exact absurd H (by simp)
     ·rw [if_neg BU] at H
      have WA:decide (bD<(l0.length:Int))=false:=decide_eq_false BU
      clear BU
      obtain rfl:=Option.some.inj H
      go_wp2
      go_ret
      exact ⟨by first|rfl|(simp [aX,aY]<;>rfl)|(simp [*,aX,aY]<;>rfl),ay⟩
end Go.Proofs.Ytkckdphjhlbdcaa.P
namespace Go.Proofs.Ytkckdphjhlbdcaa.PT
open Go.RowKit Go.Proofs.Ytkckdphjhlbdcaa.P Go.Proofs.YtkckdphjhlbdcaaW.PrintWords Go.Proofs.YtkckdphjhlbdcaaW.PrintLast Go.Proofs.Ytkckdphjhlbdcaa.EvKit Go.Proofs.Ytkckdphjhlbdcaa.Num Go.Proofs.Ytkckdphjhlbdcaa.Lp
set_option linter.all false
abbrev q2 (q:Rat):dm:=⟨q.num,(q.den:Int)⟩
def LQ (n:Nat) (x:Nat->Rat):List dm:=(List.range n).map (fun c=>q2 (x c))
theorem xY (n:Nat) (x:Nat->Rat):(LQ n x).length=n:=by simp [LQ]
theorem Ep {n i:Nat} (x:Nat->Rat) (h:i<n):aZ (LQ n x) (i:Int)=q2 (x i):=by
 show (LQ n x).getD (i:Int).toNat _=_
 rw [Int.toNat_natCast,List.getD_eq_getElem?_getD]
 simp [LQ,h]
theorem a2q {n:Nat} {x y:Nat->Rat} (h:∀j,j<n->x j=y j):LQ n x=LQ n y:=
 List.map_congr_left (fun c hc=>by rw [h c (List.mem_range.1 hc)])
theorem tK {n:Nat} {f g:Nat->Rat} (h:∀j,j<n->f j=g j):S n f=S n g:=Lp.dR h
def Cm (n:Nat) (x:Nat->Rat):Prop:=∃d:Int,d≠0/\d.natAbs<=1680/\∀c,c<n->∃a:Int,x c*(d:Rat)=(a:Rat)/\a.natAbs<=1680
def sM (x:Nat->Rat):List Int->Rat->Rat
 | [],s=>s
 |i::r,s=>sM x r (s+x i.toNat)
def js (x:Nat->Rat) (d:dz):Bool:=if d.f1=true then !decide (((d.f2:Int):Rat)<sM x d.f0 0) else !decide (sM x d.f0 0<((d.f2:Int):Rat))
def lexB (x y:Nat->Rat):Nat->Nat->Bool
 |0,_=>false
 |d+1,i=>if x i<y i then true else if y i<x i then false else lexB x y d (i+1)
def iJ (n:Nat) (x y:Nat->Rat) (most:Bool):Bool:=if S n x<S n y then !most else if S n y<S n x then most else lexB x y n 0
theorem b7i {b:Int} (h:b=0∨b=1):((b:Int):Rat).num=b/\((b:Int):Rat).den=1:=by
 rcases h with h|h<;>rw [h]<;>exact ⟨rfl,rfl⟩
theorem yN {d a:Int} {q:Rat} {b:Nat} (hd:d≠0) (hdb:d.natAbs<=1680) (e:q*(d:Rat)=(a:Rat)) (ha:a.natAbs<=b):Sz b 1680 q:=Qu.sz (Qu.Ip hd ha hdb e)
theorem a2r {n:Nat} {x:Nat->Rat} {d:dz} (hd:kz (n:Int) d=true) (hn:n<=7) {D:Int} (hD:D≠0) (Aa:D.natAbs<=1680) (hx:∀c,c<n->∃a:Int,x c*(D:Rat)=(a:Rat)/\a.natAbs<=1680):
 ∀m i,i+m=d.f0.length->∀(s:Rat) (A:Int),s*(D:Rat)=(A:Rat)->A.natAbs<=i*1680->Ev (fun k=>dF.l0 k (LQ n x) d.f0 (d.f0.length:Int) (i:Int) d.f0 d.f1 d.f2 s.num (s.den:Int)) (if d.f1=true then !decide (((d.f2:Int):Rat)<sM x (d.f0.drop i) s) else !decide (sM x (d.f0.drop i) s<((d.f2:Int):Rat))):=by
 obtain ⟨hl,hat,hb⟩:=tJ.1 hd
 intro m
 induction m with
 |zero=>
  intro i hi s A hs hA
  refine Ev.succ ?_
  simp only [dF.l0,if_neg (show ¬((i:Int)<(d.f0.length:Int)) by omega)]
  rw [List.drop_of_length_le (by omega)]
  simp only [sM]
  have hsz:Sz 1761607680 1680 s:=yN hD Aa hs (by omega)
  have hbq:=b7i hb
  have hbz:Sz 1 1 ((d.f2:Int):Rat):=⟨by rw [hbq.1];rcases hb with h|h<;>rw [h]<;>decide,by rw [hbq.2];decide⟩
  have e1:=ux hbz hsz (by decide)
  have e2:=ux hsz hbz (by decide)
  rw [hbq.1,hbq.2] at e1 e2
  by_cases hu:d.f1=true
  ·simp only [if_pos hu]
   exact Ev.congr (fun k=>by
    show (cr.f d.f2 1 s.num (s.den:Int)).bind _=some _
    rw [show (1:Int)=((1:Nat):Int) from rfl,e1];rfl) (Ev.now _)
  ·simp only [if_neg hu]
   exact Ev.congr (fun k=>by
    show (cr.f s.num (s.den:Int) d.f2 1).bind _=some _
    rw [show (1:Int)=((1:Nat):Int) from rfl,e2];rfl) (Ev.now _)
 |succ m ih=>
  intro i hi s A hs hA
  have hlt:i<d.f0.length:=by omega
  have hm:=hat _ (List.getElem_mem hlt)
  have hj:(d.f0[i]).toNat<n:=by omega
  obtain ⟨a,ha1,ha2⟩:=hx _ hj
  have hsz:Sz 1761607680 1680 s:=yN hD Aa hs (by omega)
  have hxz:Sz 1680 1680 (x (d.f0[i]).toNat):=yN hD Aa ha1 ha2
  refine Ev.succ ?_
  have hrd:aZ (LQ n x) (d.f0[i])=q2 (x (d.f0[i]).toNat):=by
   have:=Ep x hj
   rwa [Int.toNat_of_nonneg hm.1] at this
  simp only [dF.l0,if_pos (show ((i:Int)<(d.f0.length:Int)) by omega),if_pos (show (0:Int)<=(i:Int) by omega),qh hlt,if_pos hm.1,xY,if_pos hm.2,hrd,dQ (show i<=9223372036854775806 by omega)]
  rw [ox hlt]
  simp only [sM]
  exact Ev.bind (TX hsz hxz (by decide) (by decide)) (ih (i+1) (by omega) (s+x (d.f0[i]).toNat) (A+a) (by rw [Rat.intCast_add,<-hs,<-ha1];grind) (by omega))
theorem a2s {n:Nat} {x:Nat->Rat} {d:dz} (hd:kz (n:Int) d=true) (hn:n<=7) (hx:Cm n x):Ev (fun k=>dF.f k (LQ n x) d.f0 d.f1 d.f2) (js x d):=by
 obtain ⟨D,hD,Aa,hx⟩:=hx
 have:=a2r hd hn hD Aa hx d.f0.length 0 (by omega) 0 0 (by grind) (by omega)
 rw [List.drop_zero] at this
 exact this
theorem a9K {n:Nat} {x:Nat->Rat} (hn:n<=7) {D:Int} (hD:D≠0) (Aa:D.natAbs<=1680) (hx:∀c,c<n->∃a:Int,x c*(D:Rat)=(a:Rat)/\a.natAbs<=1680):
 ∀m i,i+m=n->∀A:Int,S i x*(D:Rat)=(A:Rat)->A.natAbs<=i*1680->Ev (fun k=>cg.l0 k (LQ n x) (n:Int) (i:Int) (S i x).num ((S i x).den:Int)) ((S n x).num,((S n x).den:Int))/\Sz 11760 1680 (S n x):=by
 intro m
 induction m with
 |zero=>
  intro i hi A hs hA
  have e:i=n:=by omega
  subst e
  refine ⟨?_,yN hD Aa hs (by omega)⟩
  refine Ev.succ ?_
  simp only [cg.l0,if_neg (show ¬((i:Int)<(i:Int)) by omega)]
  exact Ev.now _
 |succ m ih=>
  intro i hi A hs hA
  have hlt:i<n:=by omega
  obtain ⟨a,ha1,ha2⟩:=hx _ hlt
  have hsz:Sz 11760 1680 (S i x):=yN hD Aa hs (by omega)
  have hxz:Sz 1680 1680 (x i):=yN hD Aa ha1 ha2
  have hnext:=ih (i+1) (by omega) (A+a) (by show (S i x+x i)*_=_;rw [Rat.intCast_add,<-hs,<-ha1];grind) (by omega)
  refine ⟨?_,hnext.2⟩
  refine Ev.succ ?_
  simp only [cg.l0,if_pos (show ((i:Int)<(n:Int)) by omega),if_pos (show (0:Int)<=(i:Int) by omega),xY,Ep x hlt,dQ (show i<=9223372036854775806 by omega)]
  exact Ev.bind (TX hsz hxz (by decide) (by decide)) hnext.1
theorem Jh {n:Nat} {x:Nat->Rat} (hn:n<=7) (hx:Cm n x):Ev (fun k=>cg.f k (LQ n x)) ((S n x).num,((S n x).den:Int))/\Sz 11760 1680 (S n x):=by
 obtain ⟨D,hD,Aa,hx⟩:=hx
 have:=a9K hn hD Aa hx n 0 (by omega) 0 (by show (0:Rat)*_=_;grind) (by omega)
 refine ⟨?_,this.2⟩
 unfold cg.f
 rw [xY]
 exact this.1
theorem a9L {n:Nat} {x y:Nat->Rat} (hn:n<=7) (hx:Cm n x) (hy:Cm n y):∀m i,i+m=n->Ev (fun k=>br.l0 k (LQ n x) (LQ n y) (n:Int) (i:Int)) (lexB x y m i):=by
 obtain ⟨D,hD,Aa,hx⟩:=hx
 obtain ⟨E,hE,hEb,hy⟩:=hy
 intro m
 induction m with
 |zero=>
  intro i hi
  refine Ev.succ ?_
  simp only [br.l0,if_neg (show ¬((i:Int)<(n:Int)) by omega),lexB]
  exact Ev.now _
 |succ m ih=>
  intro i hi
  have hlt:i<n:=by omega
  obtain ⟨a,ha1,ha2⟩:=hx _ hlt
  obtain ⟨b,hb1,hb2⟩:=hy _ hlt
  have hxz:Sz 1680 1680 (x i):=yN hD Aa ha1 ha2
  have hyz:Sz 1680 1680 (y i):=yN hE hEb hb1 hb2
  refine Ev.succ ?_
  simp only [br.l0,if_pos (show ((i:Int)<(n:Int)) by omega),if_pos (show (0:Int)<=(i:Int) by omega),xY,Ep x hlt,Ep y hlt,dQ (show i<=9223372036854775806 by omega),ux hxz hyz (by decide),ux hyz hxz (by decide),lexB]
  refine Ev.val rfl ?_
  by_cases h1:x i<y i
  ·simp only [decide_eq_true h1,if_pos h1,if_true];exact Ev.now _
  ·simp only [decide_eq_false h1,if_neg h1,Bool.false_eq_true,if_false]
   refine Ev.val rfl ?_
   by_cases h2:y i<x i
   ·simp only [decide_eq_true h2,if_pos h2,if_true];exact Ev.now _
   ·simp only [decide_eq_false h2,if_neg h2,Bool.false_eq_true,if_false]
    exact ih (i+1) (by omega)
theorem ZE {n:Nat} {x y:Nat->Rat} (hn:n<=7) (hx:Cm n x) (hy:Cm n y) (most:Bool):Ev (fun k=>br.f k (LQ n x) (LQ n y) most) (iJ n x y most):=by
 obtain ⟨e1,z1⟩:=Jh hn hx
 obtain ⟨e2,z2⟩:=Jh hn hy
 unfold br.f iJ
 refine Ev.bind e1 (Ev.bind e2 ?_)
 simp only [ux z1 z2 (by decide),ux z2 z1 (by decide),xY]
 refine Ev.val rfl ?_
 by_cases h1:S n x<S n y
 ·simp only [decide_eq_true h1,if_pos h1,if_true];exact Ev.now _
 ·simp only [decide_eq_false h1,if_neg h1,Bool.false_eq_true,if_false]
  refine Ev.val rfl ?_
  by_cases h2:S n y<S n x
  ·simp only [decide_eq_true h2,if_pos h2,if_true];exact Ev.now _
  ·simp only [decide_eq_false h2,if_neg h2,Bool.false_eq_true,if_false]
   exact a9L hn hx hy n 0 (by omega)
abbrev qd (R:Nat->Nat->Rat) (n:Nat):Nat->Rat:=fun c=>R c n/R c c
def kS (n:Nat) (all:List dz) (most:Bool) (ch:List dz) (best:Option (Nat->Rat)):Option (Nat->Rat):=
 match gH n (iL ch n) n with
 |none=>best
 |some R=>if all.all (js (qd R n))=true then (match best with|none=>some (qd R n)|some b=>if iJ n (qd R n) b most=true then some (qd R n) else some b) else best
def gD (n:Nat) (all:List dz) (most:Bool):Nat->List dz->Option (Nat->Rat)->Option (Nat->Rat)
 |0,ch,best=>if ch.length=n then kS n all most ch best else best
 |d+1,ch,best=>if ch.length=n then kS n all most ch best else if d+1<n - ch.length then best else gD n all most d ch (gD n all most d (ch++[all.getD (all.length -(d+1)) tE]) best)
def Ux (n:Nat) (o:Option (Nat->Rat)):Prop:=∀x,o=some x->Cm n x
def sD (n:Nat) (o:Option (Nat->Rat)):List dm:=match o with|none=>[]|some x=>LQ n x
theorem ZF {n:Nat} {ch:List dz} (hch:ch.all (kz (n:Int))=true) (hl:ch.length=n) (hn:n<=7) {R:Nat->Nat->Rat} (h:gH n (iL ch n) n=some R):Cm n (qd R n):=by
 have hM:∀i j,i<n->j<=n->iL ch n i j=0∨iL ch n i j=1:=by
  intro i j hi hj
  have:=QO hch i j (by omega) (by omega)
  rwa [hl] at this
 exact (Zx hM hn R h).2
theorem Uy {n:Nat} {all ch:List dz} {most:Bool} {best:Option (Nat->Rat)} (hch:ch.all (kz (n:Int))=true) (hl:ch.length=n) (hn:n<=7) (hb:Ux n best):Ux n (kS n all most ch best):=by
 intro x hx
 unfold kS at hx
 cases h:gH n (iL ch n) n with
 |none=>rw [h] at hx;exact hb x hx
 |some R=>
  rw [h] at hx
  have hs:=ZF hch hl hn h
  simp only at hx
  split at hx
  ·cases best with
   |none=>simp only [Option.some.injEq] at hx;rw [<-hx];exact hs
   |some b=>
    simp only at hx
    split at hx
    ·simp only [Option.some.injEq] at hx;rw [<-hx];exact hs
    ·exact hb x hx
  ·exact hb x hx
theorem Er {n:Nat} {all:List dz} {most:Bool} (hall:all.all (kz (n:Int))=true) (hn:n<=7):∀d ch best,d<=all.length->ch.all (kz (n:Int))=true->Ux n best->Ux n (gD n all most d ch best)
 |0,ch,best,_,hch,hb=>by
  simp only [gD]
  split
  ·next h=>exact Uy hch h hn hb
  ·exact hb
 |d+1,ch,best,hd,hch,hb=>by
  simp only [gD]
  split
  ·next h=>exact Uy hch h hn hb
  ·split
   ·exact hb
   ·refine Er hall hn d ch _ (by omega) hch (Er hall hn d _ best (by omega) ?_ hb)
    rw [List.all_append,hch]
    have hlt:all.length -(d+1)<all.length:=by omega
    have:all.getD (all.length -(d+1)) tE=all[all.length -(d+1)]:=by simp [List.getD_eq_getElem?_getD,hlt]
    rw [this]
    simp only [List.all_cons,List.all_nil,Bool.and_true,Bool.true_and]
    exact List.all_eq_true.1 hall _ (List.getElem_mem hlt)
theorem NC (x y:Nat->Rat):∀d i,(lexB x y d i=true↔∃k,i<=k/\k<i+d/\(∀j,i<=j->j<k->x j=y j)/\x k<y k)
 |0,i=>by
  simp only [lexB]
  constructor
  ·intro h;exact absurd h (by decide)
  ·rintro ⟨k,h1,h2,_⟩;omega
 |d+1,i=>by
  simp only [lexB]
  by_cases h1:x i<y i
  ·rw [if_pos h1]
   exact ⟨fun _=>⟨i,Nat.le_refl _,by omega,fun j h2 h3=>by omega,h1⟩,fun _=>rfl⟩
  ·rw [if_neg h1]
   by_cases h2:y i<x i
   ·rw [if_pos h2]
    constructor
    ·intro h;exact absurd h (by decide)
    ·rintro ⟨k,h3,h4,h5,h6⟩
     by_cases e:k=i
     ·rw [e] at h6;exact absurd h6 h1
     ·have:=h5 i (Nat.le_refl _) (by omega);rw [this] at h2;grind
   ·rw [if_neg h2,NC x y d (i+1)]
    constructor
    ·rintro ⟨k,h3,h4,h5,h6⟩
     exact ⟨k,by omega,by omega,fun j h7 h8=>by
      by_cases e:j=i
      ·rw [e];grind
      ·exact h5 j (by omega) h8,h6⟩
    ·rintro ⟨k,h3,h4,h5,h6⟩
     have:k≠i:=fun e=>by rw [e] at h6;exact h1 h6
     exact ⟨k,by omega,by omega,fun j h7 h8=>h5 j (by omega) h8,h6⟩
def iV (most:Bool):Rat:=if most=true then ((-1:Int):Rat) else ((1:Int):Rat)
theorem xu {n:Nat} {x y:Nat->Rat} {most:Bool}:iJ n x y most=true↔fk (n+1) (fun k=>gm n (iV most) x k - gm n (iV most) y k):=by
 have e0:∀u:Nat->Rat,gm n (iV most) u 0=iV most*S n u:=fun u=>by unfold gm;rw [if_pos rfl]
 have e1:∀(u:Nat->Rat) k,gm n (iV most) u (k+1)=u k:=fun u k=>by unfold gm;rw [if_neg (by omega)];rfl
 have hs:(most=true/\iV most= -1)∨(most=false/\iV most=1):=by
  cases most
  ·exact .inr ⟨rfl,rfl⟩
  ·exact .inl ⟨rfl,rfl⟩
 unfold iJ
 by_cases h1:S n x<S n y
 ·rw [if_pos h1]
  rcases hs with ⟨hm,hq⟩|⟨hm,hq⟩
  ·rw [hm]
   constructor
   ·intro h;exact absurd h (by decide)
   ·rintro ⟨k,hk,hz,hn⟩
    exfalso
    by_cases e:k=0
    ·subst e;have hn':gm n (iV most) x 0 - gm n (iV most) y 0<0:=by rw [hm];exact hn
     rw [e0,e0,hq] at hn';grind
    ·have hz':gm n (iV most) x 0 - gm n (iV most) y 0=0:=by rw [hm];exact hz 0 (by omega)
     rw [e0,e0,hq] at hz';grind
  ·rw [hm]
   refine ⟨fun _=>⟨0,by omega,fun i hi=>by omega,?_⟩,fun _=>rfl⟩
   have:gm n (iV most) x 0 - gm n (iV most) y 0<0:=by rw [e0,e0,hq];grind
   rw [hm] at this;exact this
 ·rw [if_neg h1]
  by_cases h2:S n y<S n x
  ·rw [if_pos h2]
   rcases hs with ⟨hm,hq⟩|⟨hm,hq⟩
   ·rw [hm]
    refine ⟨fun _=>⟨0,by omega,fun i hi=>by omega,?_⟩,fun _=>rfl⟩
    have:gm n (iV most) x 0 - gm n (iV most) y 0<0:=by rw [e0,e0,hq];grind
    rw [hm] at this;exact this
   ·rw [hm]
    constructor
    ·intro h;exact absurd h (by decide)
    ·rintro ⟨k,hk,hz,hn⟩
     exfalso
     by_cases e:k=0
     ·subst e;have hn':gm n (iV most) x 0 - gm n (iV most) y 0<0:=by rw [hm];exact hn
      rw [e0,e0,hq] at hn';grind
     ·have hz':gm n (iV most) x 0 - gm n (iV most) y 0=0:=by rw [hm];exact hz 0 (by omega)
      rw [e0,e0,hq] at hz';grind
  ·rw [if_neg h2,NC]
   have hz0:gm n (iV most) x 0 - gm n (iV most) y 0=0:=by rw [e0,e0];have:S n x=S n y:=by grind
                                                          rw [this];grind
   constructor
   ·rintro ⟨k,_,h4,h5,h6⟩
    refine ⟨k+1,by omega,fun i hi=>?_,?_⟩
    ·cases i with
     |zero=>exact hz0
     |succ i=>show gm n (iV most) x (i+1)- gm n (iV most) y (i+1)=0
              rw [e1,e1,h5 i (by omega) (by omega)];grind
    ·show gm n (iV most) x (k+1)- gm n (iV most) y (k+1)<0
     rw [e1,e1];grind
   ·rintro ⟨k,hk,hz,hn⟩
    cases k with
    |zero=>exfalso;have:gm n (iV most) x 0 - gm n (iV most) y 0<0:=hn
           rw [hz0] at this;grind
    |succ k=>
     have hn':gm n (iV most) x (k+1)- gm n (iV most) y (k+1)<0:=hn
     rw [e1,e1] at hn'
     refine ⟨k,Nat.zero_le _,by omega,fun j _ hj=>?_,by grind⟩
     have:gm n (iV most) x (j+1)- gm n (iV most) y (j+1)=0:=hz (j+1) (by omega)
     rw [e1,e1] at this;grind
theorem CW {n:Nat} {x x' y y':Nat->Rat} (hx:∀j,j<n->x j=x' j) (hy:∀j,j<n->y j=y' j) (most:Bool):iJ n x y most=iJ n x' y' most:=by
 have:iJ n x y most=true↔iJ n x' y' most=true:=by
  rw [xu,xu]
  exact ⟨fun h=>h.congr (fun k hk=>by rw [tC hx hk,tC hy hk]),fun h=>h.congr (fun k hk=>by rw [tC hx hk,tC hy hk])⟩
 cases h1:iJ n x y most<;>cases h2:iJ n x' y' most<;>simp_all
def LI (all:List dz) (o:Option (Nat->Rat)):Prop:=∀x,o=some x->all.all (js x)=true
def QX (n:Nat) (B:Nat->Rat) (o:Option (Nat->Rat)):Prop:=∃x,o=some x/\∀j,j<n->x j=B j
def a2t (n:Nat) (B:Nat->Rat) (ch:List dz):Prop:=∃R,gH n (iL ch n) n=some R/\∀j,j<n->qd R n j=B j
structure ZG (n:Nat) (all:List dz) (most:Bool) (B:Nat->Rat):Prop where
 adm:∀x,(∀j,j<n->x j=B j)->all.all (js x)=true
 no:∀x,all.all (js x)=true->iJ n x B most=false
 yes:∀x,all.all (js x)=true->¬(∀j,j<n->x j=B j)->iJ n B x most=true
section
variable {n:Nat} {all:List dz} {most:Bool} {B:Nat->Rat}
theorem QY {ch:List dz} {best:Option (Nat->Rat)} (h:LI all best):LI all (kS n all most ch best):=by
 intro x hx
 unfold kS at hx
 cases hg:gH n (iL ch n) n with
 |none=>rw [hg] at hx;exact h x hx
 |some R=>
  rw [hg] at hx
  simp only at hx
  by_cases hm:all.all (js (qd R n))=true
  ·rw [if_pos hm] at hx
   cases best with
   |none=>simp only [Option.some.injEq] at hx;rw [<-hx];exact hm
   |some b=>
    simp only at hx
    split at hx
    ·simp only [Option.some.injEq] at hx;rw [<-hx];exact hm
    ·exact h x hx
  ·rw [if_neg hm] at hx;exact h x hx
theorem ND (t:ZG n all most B) {ch:List dz} {best:Option (Nat->Rat)} (h:QX n B best):QX n B (kS n all most ch best):=by
 obtain ⟨b,rfl,hb⟩:=h
 unfold kS
 cases hg:gH n (iL ch n) n with
 |none=>exact ⟨b,rfl,hb⟩
 |some R=>
  simp only
  by_cases hm:all.all (js (qd R n))=true
  ·rw [if_pos hm]
   have h1:iJ n (qd R n) b most=false:=by
    rw [CW (fun _ _=>rfl) hb];exact t.no _ hm
   rw [if_neg (by rw [h1];decide)]
   exact ⟨b,rfl,hb⟩
  ·rw [if_neg hm];exact ⟨b,rfl,hb⟩
theorem NF (t:ZG n all most B) {ch:List dz} {best:Option (Nat->Rat)} (hs:a2t n B ch) (h:LI all best):QX n B (kS n all most ch best):=by
 obtain ⟨R,hg,hR⟩:=hs
 unfold kS
 rw [hg]
 simp only
 rw [if_pos (t.adm _ hR)]
 cases best with
 |none=>exact ⟨_,rfl,hR⟩
 |some b=>
  simp only
  by_cases hb:iJ n (qd R n) b most=true
  ·rw [if_pos hb];exact ⟨_,rfl,hR⟩
  ·rw [if_neg hb]
   refine ⟨b,rfl,fun j hj=>?_⟩
   by_cases he:∀j,j<n->b j=B j
   ·exact he j hj
   ·have h1:=t.yes b (h b rfl) he
    rw [CW (fun j hj=>(hR j hj).symm) (fun _ _=>rfl)] at h1
    exact absurd h1 hb
theorem Gh:∀d (ch:List dz) (best:Option (Nat->Rat)),LI all best->LI all (gD n all most d ch best)
 |0,ch,best,h=>by
  simp only [gD];split
  ·exact QY h
  ·exact h
 |d+1,ch,best,h=>by
  simp only [gD];split
  ·exact QY h
  ·split
   ·exact h
   ·exact Gh d _ _ (Gh d _ _ h)
theorem CX (t:ZG n all most B):∀d (ch:List dz) (best:Option (Nat->Rat)),QX n B best->QX n B (gD n all most d ch best)
 |0,ch,best,h=>by
  simp only [gD];split
  ·exact ND t h
  ·exact h
 |d+1,ch,best,h=>by
  simp only [gD];split
  ·exact ND t h
  ·split
   ·exact h
   ·exact CX t d _ _ (CX t d _ _ h)
theorem CY (t:ZG n all most B):∀d (ch:List dz) (best:Option (Nat->Rat)),d<=all.length->LI all best->(∃l,l.Sublist (all.drop (all.length - d))/\ch.length+l.length=n/\a2t n B (ch++l))->QX n B (gD n all most d ch best)
 |0,ch,best,hd,h,⟨l,hl,hn,hs⟩=>by
  rw [Nat.sub_zero,List.drop_length] at hl
  have e:=List.sublist_nil.1 hl
  subst e
  rw [List.append_nil] at hs
  simp only [gD]
  rw [if_pos (by simpa using hn)]
  exact NF t hs h
 |d+1,ch,best,hd,h,⟨l,hl,hn,hs⟩=>by
  simp only [gD]
  by_cases h1:ch.length=n
  ·rw [if_pos h1]
   have e:l=[]:=List.eq_nil_of_length_eq_zero (by omega)
   subst e
   rw [List.append_nil] at hs
   exact NF t hs h
  ·rw [if_neg h1]
   have hlen:=hl.length_le
   rw [List.length_drop] at hlen
   rw [if_neg (by omega)]
   have hlt:all.length -(d+1)<all.length:=by omega
   rw [List.drop_eq_getElem_cons hlt] at hl
   have e2:all.length -(d+1)+1=all.length - d:=by omega
   rw [e2] at hl
   have hge:all.getD (all.length -(d+1)) tE=all[all.length -(d+1)]:=by simp [List.getD_eq_getElem?_getD,hlt]
   rw [hge]
   rcases List.sublist_cons_iff.1 hl with h2|⟨r,rfl,h2⟩
   ·exact CY t d ch _ (by omega) (Gh d _ _ h) ⟨l,h2,hn,hs⟩
   ·exact CX t d ch _ (CY t d _ best (by omega) h ⟨r,h2,by rw [List.length_append];simp at hn⊢;omega,by rw [List.append_assoc];exact hs⟩)
end
theorem QZ {l:List Nat} (p:Nat->Bool):(l.filter p).length+(l.filter (fun x=> !p x)).length=l.length:=by
 induction l with
 |nil=>rfl
 |cons a l ih=>
  cases h:p a with
  |true=>simp [List.filter_cons,h];omega
  |false=>simp [List.filter_cons,h];omega
theorem ZH {m N K:Nat} {t0 T:bA} (v:Valid m N K t0 T) (p:Nat->Bool) (hp:∀j,j<N->(p j=true↔jz m T j)):((List.range N).filter p).length=m:=by
 have Ih:((List.range m).map T.basis).Nodup:=by
  rw [List.nodup_iff_pairwise_ne,List.pairwise_map]
  have h0:(List.range m).Pairwise (fun a b=>a≠b):=List.nodup_range
  refine List.Pairwise.imp_of_mem ?_ h0
  intro a b ha hb hne e
  exact hne (v.inj (List.mem_range.1 ha) (List.mem_range.1 hb) e)
 have h1:=pE _ ((List.range N).filter p) Ih (fun x hx=>by
  obtain ⟨r,hr,rfl⟩:=List.mem_map.1 hx
  have hr':=List.mem_range.1 hr
  exact List.mem_filter.2 ⟨List.mem_range.2 (v.lt r hr'),(hp _ (v.lt r hr')).2 ⟨r,hr',rfl⟩⟩)
 have h2:=pE ((List.range N).filter p) ((List.range m).map T.basis) (List.Pairwise.filter _ List.nodup_range) (fun x hx=>by
  obtain ⟨h3,h4⟩:=List.mem_filter.1 hx
  obtain ⟨r,hr,e⟩:=(hp x (List.mem_range.1 h3)).1 h4
  exact List.mem_map.2 ⟨r,List.mem_range.2 hr,e⟩)
 rw [List.length_map,List.length_range] at h1 h2
 omega
section
variable {n m:Nat} {A:Nat->Nat->Rat} {right:Nat->Rat} {s:Rat}
theorem WD {T:bA} (v:Valid m (n+m) (n+1) (init n m A right s) T) (ud:n<=7) {l:List dz} (hl:l.length=n) (hok:l.all (kz (n:Int))=true)
 (hh:∀(h:Rat) (y:Nat->Rat),(∀k,k<n->S n (fun j=>iL l n k j*y j)=h*iL l n k n)->(∀j,j<n->¬jz m T j->y j=0)/\(∀i,i<m->¬jz m T (n+i)->S n (fun j=>A i j*y j)=h*right i)):
 a2t n (T.X m (n+m)) l:=by
 have hM:∀i j,i<n->j<=n->iL l n i j=0∨iL l n i j=1:=by
  intro i j hi hj
  have:=QO hok i j (by omega) (by omega)
  rwa [hl] at this
 cases hg:gH n (iL l n) n with
 |none=>
  exfalso
  obtain ⟨z,⟨j,hj,hz⟩,hs⟩:=Up hM ud n (Nat.le_refl _) hg
  obtain ⟨h1,h2⟩:=hh 0 z (fun k hk=>by rw [hs k hk];grind)
  obtain ⟨x1,x2⟩:=FU v
  have:=Na v (y:=fun j=>T.X m (n+m) j+z j) (fun j hj hb=>by show _+z j=0;rw [x1 j hj hb,h1 j hj hb];grind) (fun i hi hb=>by
   have e:S n (fun j=>A i j*(T.X m (n+m) j+z j))=S n (fun j=>A i j*T.X m (n+m) j)+S n (fun j=>A i j*z j):=by
    rw [<-AU];exact tK (fun j _=>by grind)
   rw [e,x2 i hi hb,h2 i hi hb];grind) j hj
  have e3:T.X m (n+m) j+z j=T.X m (n+m) j:=this
  exact hz (by grind)
 |some R=>
  refine ⟨R,hg,?_⟩
  obtain ⟨h1,h2⟩:=hh 1 (qd R n) (fun k hk=>by have:=(Zx hM ud R hg).1 k hk;rw [this];grind)
  exact Na v h1 (fun i hi hb=>by rw [h2 i hi hb];grind)
theorem a9M {all:List dz} {most:Bool} {B:Nat->Rat} (hb:PN n m A right (iV most) B) (hm:∀x,all.all (js x)=true↔Cr n m A right x):ZG n all most B:=by
 refine ⟨fun x hx=>(hm x).2 (VV (fun j hj=>(hx j hj).symm) hb.1),fun x hx=>?_,fun x hx hne=>?_⟩
 ·cases h:iJ n x B most with
  |false=>rfl
  |true=>exact absurd (xu.1 h) (hb.2 x ((hm x).1 hx))
 ·rw [xu]
  have h1:=hb.2 x ((hm x).1 hx)
  rcases iO.1 h1 with z|p
  ·exfalso
   apply hne
   intro j hj
   have h2:gm n (iV most) x (j+1)- gm n (iV most) B (j+1)=0:=z (j+1) (by omega)
   have e:∀u:Nat->Rat,gm n (iV most) u (j+1)=u j:=fun u=>by unfold gm;rw [if_neg (by omega)];rfl
   rw [e,e] at h2;grind
  ·exact (p.neg).congr (fun k _=>by grind)
end
def places (p:Nat->Bool) (N:Nat):List Int:=((List.range N).filter p).map (fun (i:Nat)=>(i:Int))
theorem Ji {p:Nat->Bool} {N:Nat} {x:Int}:x∈places p N↔∃j:Nat,j<N/\p j=true/\x=(j:Int):=by
 unfold places
 simp only [List.mem_map,List.mem_filter,List.mem_range]
 constructor
 ·rintro ⟨j,⟨h1,h2⟩,h3⟩;exact ⟨j,h1,h2,h3.symm⟩
 ·rintro ⟨j,h1,h2,h3⟩;exact ⟨j,⟨h1,h2⟩,h3.symm⟩
theorem CZ {p:Nat->Bool} {N j:Nat} (hj:j<N):((j:Int)∈places p N)↔p j=true:=by
 rw [Ji]
 constructor
 ·rintro ⟨i,h1,h2,h3⟩;have:i=j:=by omega
  rw [<-this];exact h2
 ·intro h;exact ⟨j,hj,h,rfl⟩
theorem Jj (p:Nat->Bool) (N:Nat):(places p N).length<=N:=by
 unfold places
 rw [List.length_map]
 have:=List.length_filter_le p (List.range N)
 rwa [List.length_range] at this
theorem Fj (p:Nat->Bool) (N:Nat):places p (N+1)=places p N++(if p N=true then [(N:Int)] else []):=by
 unfold places
 rw [List.range_succ,List.filter_append,List.map_append]
 congr 1
 cases h:p N<;>simp [List.filter_cons,h]
theorem Fk (x:Nat->Rat):∀(a b:List Int) (s:Rat),sM x (a++b) s=sM x b (sM x a s)
 | [],_,_=>rfl
 |_::a,b,s=>by simp only [List.cons_append,sM];exact Fk x a b _
theorem Fl (x:Nat->Rat) (p:Nat->Bool):∀N,sM x (places p N) 0=S N (fun j=>if p j=true then x j else 0)
 |0=>rfl
 |N+1=>by
  rw [Fj,Fk,Fl x p N]
  simp only [S]
  by_cases h:p N=true
  ·rw [if_pos h,if_pos h];simp only [sM];rw [Int.toNat_natCast]
  ·rw [if_neg h,if_neg h];simp only [sM];grind
def tL (P:Nat->Nat->Bool) (n:Nat) (up:Bool) (i:Nat):dz:=⟨places (P i) n,up,1⟩
def xZ (j:Nat):dz:=⟨[(j:Int)],false,0⟩
def sN (P:Nat->Nat->Bool) (n m:Nat) (up:Bool) (inc:Nat->Bool):List dz:=((List.range m).filter inc).map (tL P n up)++(List.range n).map xZ
section
variable {P:Nat->Nat->Bool} {n m:Nat} {up:Bool} {inc:Nat->Bool}
theorem a7a (hn:n<=7) (i:Nat):kz (n:Int) (tL P n up i)=true:=by
 refine tJ.2 ⟨?_,fun x hx=>?_,.inr rfl⟩
 ·have:(places (P i) n).length<=n:=Jj _ _
  show (places (P i) n).length<=_;omega
 ·obtain ⟨j,h1,_,rfl⟩:=Ji.1 hx;omega
theorem a7b {j:Nat} (hj:j<n):kz (n:Int) (xZ j)=true:=by
 refine tJ.2 ⟨by show (1:Nat)<=_;omega,fun x hx=>?_,.inl rfl⟩
 rw [List.mem_singleton.1 hx];omega
theorem LJ (hn:n<=7):(sN P n m up inc).all (kz (n:Int))=true:=by
 unfold sN
 rw [List.all_append,Bool.and_eq_true]
 constructor
 ·rw [List.all_eq_true];intro d hd
  obtain ⟨i,_,rfl⟩:=List.mem_map.1 hd
  exact a7a hn i
 ·rw [List.all_eq_true];intro d hd
  obtain ⟨j,hj,rfl⟩:=List.mem_map.1 hd
  exact a7b (List.mem_range.1 hj)
theorem a2u:(sN P n m up inc).length<=m+n:=by
 unfold sN
 rw [List.length_append,List.length_map,List.length_map,List.length_range]
 have:=List.length_filter_le inc (List.range m)
 rw [List.length_range] at this;omega
def Ac (up:Bool):Rat:=if up=true then ((1:Int):Rat) else ((-1:Int):Rat)
structure Fits (P:Nat->Nat->Bool) (n m:Nat) (up:Bool) (inc:Nat->Bool) (A:Nat->Nat->Rat) (right:Nat->Rat):Prop where
 a:∀i j,i<m->j<n->A i j=Ac up*(if P i j=true then 1 else 0)
 r:∀i,i<m->right i=Ac up
 out:∀i,i<m->inc i=false->up=true/\∀j,j<n->P i j=false
variable {A:Nat->Nat->Rat} {right:Nat->Rat}
theorem xD (f:Fits P n m up inc A right) (x:Nat->Rat) {i:Nat} (hi:i<m):S n (fun j=>A i j*x j)=Ac up*S n (fun j=>if P i j=true then x j else 0):=by
 rw [<-oq]
 refine tK (fun j hj=>?_)
 rw [f.a i j hi hj]
 split<;>grind
theorem NG (x:Nat->Rat) (i:Nat):js x (tL P n up i)=true↔Ac up*S n (fun j=>if P i j=true then x j else 0)<=Ac up:=by
 unfold js tL
 simp only [Fl]
 have e1:(((1:Int)):Rat)=1:=rfl
 cases up with
 |true=>
  rw [if_pos rfl,e1]
  have:Ac true=1:=rfl
  rw [this]
  simp only [Bool.not_eq_true',decide_eq_false_iff_not]
  constructor<;>intro h<;>grind
 |false=>
  rw [if_neg (by decide),e1]
  have:Ac false= -1:=rfl
  rw [this]
  simp only [Bool.not_eq_true',decide_eq_false_iff_not]
  constructor<;>intro h<;>grind
theorem NH (x:Nat->Rat) (j:Nat):js x (xZ j)=true↔0<=x j:=by
 unfold js xZ
 simp only [sM,Int.toNat_natCast]
 have e1:(((0:Int)):Rat)=0:=rfl
 rw [if_neg (by decide),e1]
 simp only [Bool.not_eq_true',decide_eq_false_iff_not]
 constructor<;>intro h<;>grind
theorem ZI (f:Fits P n m up inc A right) (x:Nat->Rat):(sN P n m up inc).all (js x)=true↔Cr n m A right x:=by
 unfold sN
 rw [List.all_append,Bool.and_eq_true,List.all_eq_true,List.all_eq_true]
 constructor
 ·rintro ⟨h1,h2⟩
  refine ⟨fun j hj=>(NH x j).1 (h2 _ (List.mem_map.2 ⟨j,List.mem_range.2 hj,rfl⟩)),fun i hi=>?_⟩
  rw [xD f x hi,f.r i hi]
  cases hc:inc i with
  |true=>exact (NG x i).1 (h1 _ (List.mem_map.2 ⟨i,List.mem_filter.2 ⟨List.mem_range.2 hi,hc⟩,rfl⟩))
  |false=>
   obtain ⟨hu,hz⟩:=f.out i hi hc
   rw [jy (fun j hj=>by rw [hz j hj];exact if_neg (by decide)),hu]
   have:Ac true=1:=rfl
   rw [this];grind
 ·rintro ⟨h1,h2⟩
  constructor
  ·intro d hd
   obtain ⟨i,hi,rfl⟩:=List.mem_map.1 hd
   have xQ:=List.mem_range.1 (List.mem_filter.1 hi).1
   have:=h2 i xQ
   rw [xD f x xQ,f.r i xQ] at this
   exact (NG x i).2 this
  ·intro d hd
   obtain ⟨j,hj,rfl⟩:=List.mem_map.1 hd
   exact (NH x j).2 (h1 j (List.mem_range.1 hj))
theorem ZJ {l:List dz} {d:dz} (h:d∈l):∃k,k<l.length/\l.getD k tE=d:=by
 obtain ⟨k,hk,e⟩:=List.getElem_of_mem h
 exact ⟨k,hk,by simp [List.getD_eq_getElem?_getD,hk,e]⟩
theorem Jk {α:Type} (p q:α->Bool):∀l:List α,(∀x,x∈l->q x=true->p x=true)->((l.filter p).filter q)=l.filter q
 | [],_=>rfl
 |a::l,h=>by
  have ih:=Jk p q l (fun x hx=>h x (List.mem_cons_of_mem _ hx))
  cases hp:p a with
  |true=>cases hq:q a<;>simp [List.filter_cons,hp,hq,ih]
  |false=>
   cases hq:q a with
   |true=>have:=h a (List.mem_cons_self ..) hq;rw [hp] at this;exact absurd this (by decide)
   |false=>simp [List.filter_cons,hp,hq,ih]
theorem ZK {s:Rat} {T:bA} {most:Bool} (f:Fits P n m up inc A right) (ud:n<=7) (v:Valid m (n+m) (n+1) (init n m A right s) T) (hb:PN n m A right (iV most) (T.X m (n+m))):
 sD n (gD n (sN P n m up inc) most (sN P n m up inc).length [] none)=LQ n (T.X m (n+m)):=by
 have key:QX n (T.X m (n+m)) (gD n (sN P n m up inc) most (sN P n m up inc).length [] none):=by
  refine CY (a9M hb (ZI f)) _ [] none (Nat.le_refl _) (fun x hx=>by simp at hx) ?_
  rw [Nat.sub_self,List.drop_zero]
  have ZL:∀i,i<m->inc i=false->jz m T (n+i):=fun i hi hc=>by
   by_cases Da:jz m T (n+i)
   ·exact Da
   ·exfalso
    have h1:=(FU v).2 i hi Da
    obtain ⟨hu,hz⟩:=f.out i hi hc
    rw [xD f _ hi,f.r i hi,jy (fun j hj=>by rw [hz j hj];exact if_neg (by decide)),hu] at h1
    have:Ac true=1:=rfl
    rw [this] at h1;grind
  classical
  let nb:Nat->Bool:=fun c=> !decide (jz m T c)
  have hnb:∀c,nb c=true↔¬jz m T c:=fun c=>by simp [nb]
  let l:=(((List.range m).filter inc).filter (fun i=>nb (n+i))).map (tL P n up)++((List.range n).filter nb).map xZ
  have hsub:l.Sublist (sN P n m up inc):=List.Sublist.append (List.Sublist.map _ List.filter_sublist) (List.Sublist.map _ List.filter_sublist)
  have hlen:l.length=n:=by
   show (_++_:List _).length=n
   rw [List.length_append,List.length_map,List.length_map,Jk inc (fun i=>nb (n+i)) _ (fun i hi hq=>by
    cases hc:inc i with
    |true=>rfl
    |false=>exact absurd (ZL i (List.mem_range.1 hi) hc) ((hnb _).1 hq))]
   have h1:=ZH v (fun c=>decide (jz m T c)) (fun c _=>by simp)
   have h2:=QZ (l:=List.range (n+m)) (fun c=>decide (jz m T c))
   rw [h1,List.length_range] at h2
   have h3:((List.range (n+m)).filter nb).length=((List.range n).filter nb).length+((List.range m).filter (fun i=>nb (n+i))).length:=by
    rw [List.range_add,List.filter_append,List.length_append,List.filter_map,List.length_map];rfl
   have h4:((List.range (n+m)).filter (fun x=> !decide (jz m T x))).length=((List.range (n+m)).filter nb).length:=rfl
   omega
  have hok:l.all (kz (n:Int))=true:=by
   rw [List.all_eq_true];intro d hd
   exact List.all_eq_true.1 (LJ (m:=m) (inc:=inc) (up:=up) (P:=P) ud) d (hsub.subset hd)
  refine ⟨l,hsub,by simpa using hlen,?_⟩
  rw [List.nil_append]
  refine WD v ud hlen hok (fun h y hy=>⟨fun j hj hbj=>?_,fun i hi hbi=>?_⟩)
  ·have hm:xZ j∈l:=List.mem_append_right _ (List.mem_map.2 ⟨j,List.mem_filter.2 ⟨List.mem_range.2 hj,(hnb j).2 hbj⟩,rfl⟩)
   obtain ⟨k,hk,e⟩:=ZJ hm
   have h1:=hy k (by omega)
   have h2:iL l n k n=0:=by unfold iL;rw [if_pos rfl,e];rfl
   have h3:S n (fun q=>iL l n k q*y q)=S n (fun q=>if q=j then y q else 0):=tK (fun q hq=>by
    unfold iL
    rw [if_neg (by omega),e]
    show (if (q:Int)∈[(j:Int)] then (1:Rat) else 0)*y q=_
    by_cases e2:q=j
    ·rw [if_pos e2,if_pos (by rw [e2];exact List.mem_singleton.2 rfl)];grind
    ·rw [if_neg e2,if_neg (fun hm=>e2 (by have:=List.mem_singleton.1 hm;omega))];grind)
   rw [h3,h2,gl hj y] at h1
   rw [h1];grind
  ·have b7j:inc i=true:=by
    cases hc:inc i with
    |true=>rfl
    |false=>exact absurd (ZL i hi hc) hbi
   have hm:tL P n up i∈l:=List.mem_append_left _ (List.mem_map.2 ⟨i,List.mem_filter.2 ⟨List.mem_filter.2 ⟨List.mem_range.2 hi,b7j⟩,(hnb _).2 hbi⟩,rfl⟩)
   obtain ⟨k,hk,e⟩:=ZJ hm
   have h1:=hy k (by omega)
   have h2:iL l n k n=1:=by unfold iL;rw [if_pos rfl,e];rfl
   have h3:S n (fun q=>iL l n k q*y q)=S n (fun q=>if P i q=true then y q else 0):=tK (fun q hq=>by
    unfold iL
    rw [if_neg (by omega),e]
    show (if (q:Int)∈places (P i) n then (1:Rat) else 0)*y q=_
    by_cases e2:P i q=true
    ·rw [if_pos e2,if_pos ((CZ hq).2 e2)];grind
    ·rw [if_neg e2,if_neg (fun hm=>e2 ((CZ hq).1 hm))];grind)
   rw [h3,h2] at h1
   rw [xD f y hi,f.r i hi,h1];grind
 obtain ⟨x,e,hx⟩:=key
 rw [e]
 exact a2q hx
end
end Go.Proofs.Ytkckdphjhlbdcaa.PT
namespace Go.Proofs.Ytkckdphjhlbdcaa.P
open Go.RowKit Go.Proofs.YtkckdphjhlbdcaaW.PrintWords Go.Proofs.YtkckdphjhlbdcaaW.PrintLast Go.Proofs.YtkckdphjhlbdcaaW.PrintMore
attribute [local go_sem] max2_int min2_int max_two min_two max_three min_three max_four min_four
set_option linter.all false
def fH.f (a0:Int) (a1:Int) (a2:Int):Option (Bool):=if a1<=a0 then (some (decide (a0<=a2))) else (some false)
set_option maxHeartbeats 8000000 in
set_option maxRecDepth 100000 in
theorem fH.calls (a0:Int) (a1:Int) (a2:Int) (r:Bool) (w:World) (h:fH.f a0 a1 a2=some r):
 Calls Try.prog 25 #[.int .i64 a0,.int .i64 a1,.int .i64 a2] w fun e w'=>e= .returned (.bool r)/\aW w w':=by
 have H:(if a1<=a0 then (some (decide (a0<=a2))) else (some false))=some r:=h
 clear h
 by_cases c4:a1<=a0
 ·rw [if_pos c4] at H
  have mj:decide (a1<=a0)=true:=decide_eq_true c4
  clear c4
  obtain rfl:=Option.some.inj H
  go_enter Try.func25,Try.ntmps25
  go_wp2
  go_ret
  exact ⟨by first|rfl|(simp;done)|(simp [*];done),by repeat (first|exact aW.refl _|apply aW.step)⟩
 ·rw [if_neg c4] at H
  have mj:decide (a1<=a0)=false:=decide_eq_false c4
  clear c4
  obtain rfl:=Option.some.inj H
  go_enter Try.func25,Try.ntmps25
  go_wp2
  go_ret
  exact ⟨by first|rfl|(simp;done)|(simp [*];done),by repeat (first|exact aW.refl _|apply aW.step)⟩
end Go.Proofs.Ytkckdphjhlbdcaa.P
namespace Go.Proofs.Ytkckdphjhlbdcaa.PT
open Go.RowKit Go.Proofs.Ytkckdphjhlbdcaa.P Go.Proofs.YtkckdphjhlbdcaaW.PrintWords Go.Proofs.YtkckdphjhlbdcaaW.PrintLast Go.Proofs.Ytkckdphjhlbdcaa.EvKit
set_option linter.all false
theorem Db (a b c:Int):fH.f a b c=some (decide (b<=a/\a<=c)):=by
 unfold fH.f
 by_cases h:b<=a
 ·rw [if_pos h];simp [h]
 ·rw [if_neg h];simp [h]
end Go.Proofs.Ytkckdphjhlbdcaa.PT
namespace Go.Proofs.Ytkckdphjhlbdcaa.P
open Go.RowKit Go.Proofs.YtkckdphjhlbdcaaW.PrintWords Go.Proofs.YtkckdphjhlbdcaaW.PrintLast Go.Proofs.YtkckdphjhlbdcaaW.PrintMore
attribute [local go_sem] max2_int min2_int max_two min_two max_three min_three max_four min_four
set_option linter.all false
def dG.l0:Nat->Int->List Int->Int->Int->Option (Bool)
 |0,_,_,_,_=>none
 |k+1,x3,x6,x7,x8=>if x8<x7 then (if 0<=x8 then (if x8<(x6.length:Int) then (if (rd x6 x8)<=x3 then (some false) else (if (rd x6 x8)>=6 then (some false) else (dG.l0 k (rd x6 x8) x6 x7 (wrap64 (x8+1))))) else (none)) else (none)) else (some true)
def dG.f (k:Nat) (l0:List Int):Option (Bool):=dG.l0 k (-1) l0 (l0.length:Int) 0
theorem dG.cC:∀k,(∀y0 y1 y2 y3,aR (dG.l0 k y0 y1 y2 y3) (dG.l0 (k+1) y0 y1 y2 y3))
 |0=>fun _ _ _ _ r h=>by simp [dG.l0] at h
 |k+1=>by
  have dN:=dG.cC k
  ·intro y0 y1 y2 y3
   unfold dG.l0
   repeat' first
   |(with_reducible exact dN _ _ _ _)
   |(with_reducible exact aR.refl _)
   |(with_reducible exact aR.none _)
   |(with_reducible refine aR.ite ?_ ?_)
   |(with_reducible refine aR.bind ?_ (fun _=>?_))
theorem dG.mono:∀a0 k,aR (dG.f k a0) (dG.f (k+1) a0):=by
 intro a0 k
 have dN:=dG.cC k
 unfold dG.f
 repeat' first
  |(with_reducible exact dN _ _ _ _)
  |(with_reducible exact aR.refl _)
  |(with_reducible exact aR.none _)
  |(with_reducible refine aR.ite ?_ ?_)
  |(with_reducible refine aR.bind ?_ (fun _=>?_))
set_option maxHeartbeats 8000000 in
set_option maxRecDepth 100000 in
theorem dG.calls (k:Nat) (A0:Option Addr) (c0:Nat) (l0:List Int) (r:Bool) (w:World) (fl:Kd.C (Kd.int .i64) w A0 l0.length l0) (hc0:l0.length<=c0) (h:dG.f k l0=some r):
 Calls Try.prog 53 #[.slice A0 l0.length c0] w fun e w'=>e= .returned (.bool r)/\aW w w':=by
 have eu:=Aside0.mk fl
 have kr:=Aside0.mk hc0
 clear fl hc0
 have H:(dG.l0 k (-1) l0 (l0.length:Int) 0)=some r:=h
 clear h
 have H':=Aside0.mk H
 clear H
 go_enter Try.func53,Try.ntmps53
 go_wp2
 go_loopg [3,8] k (fun kq v3 v8 w'=>∃(fu:Int) (fN:Int),v3= .int .i64 fu/\v8= .int .i64 fN/\Aside0 (dG.l0 kq fu l0 (l0.length:Int) fN=some r)/\Aside0 (kq<=k)/\aW w w')
 case atStart=>exact ⟨((-1)),(0),(by first|rfl|(simp;done)|(simp [*];done)),(by first|rfl|(simp;done)|(simp [*];done)),H',⟨Nat.le_refl _⟩,by repeat (first|exact aW.refl _|apply aW.step)⟩
 case round=>
  clear H'
  obtain ⟨fu,fN,rfl,rfl,HA,dX,⟨m1,rfl⟩⟩:=hrel
  cases gk with
  |zero=>exact absurd HA.out (by simp [dG.l0])
  |succ k1=>
   have H:=HA.out
   clear HA
   simp only [dG.l0] at H
   by_cases c2:fN<(l0.length:Int)
   ·rw [if_pos c2] at H
    have Bf:decide (fN<(l0.length:Int))=true:=decide_eq_true c2
    clear c2
    by_cases c3:0<=fN
    ·rw [if_pos c3] at H
     have iw:decide (0<=fN)=true:=decide_eq_true c3
     clear c3
     by_cases c4:fN<(l0.length:Int)
     ·rw [if_pos c4] at H
      have mj:decide (fN<(l0.length:Int))=true:=decide_eq_true c4
      clear c4
      by_cases c5:(rd l0 fN)<=fu
      ·rw [if_pos c5] at H
       have wF:decide ((rd l0 fN)<=fu)=true:=decide_eq_true c5
       clear c5
       obtain rfl:=Option.some.inj H
       have ya:0<=(fN:Int):=of_decide_eq_true (by first|(with_reducible assumption)|assumption)
       have yb:fN<(l0.length:Int):=of_decide_eq_true (by first|(with_reducible assumption)|assumption)
       obtain ⟨a4Z,Ra,Uz⟩:=Kd.gL eu.out fN ya yb
       cases Ra
       replace ya:=eq_true ya
       replace yb:=eq_true yb
       go_wp2
       go_ret
       exact ⟨by first|rfl|(simp;done)|(simp [*];done),by repeat (first|exact aW.refl _|apply aW.step)⟩
      ·rw [if_neg c5] at H
       have wF:decide ((rd l0 fN)<=fu)=false:=decide_eq_false c5
       clear c5
       by_cases c6:(rd l0 fN)>=6
       ·rw [if_pos c6] at H
        have oc:decide (6<=(rd l0 fN))=true:=decide_eq_true c6
        clear c6
        obtain rfl:=Option.some.inj H
        have ya:0<=(fN:Int):=of_decide_eq_true (by first|(with_reducible assumption)|assumption)
        have yb:fN<(l0.length:Int):=of_decide_eq_true (by first|(with_reducible assumption)|assumption)
        obtain ⟨a4Z,Ra,Uz⟩:=Kd.gL eu.out fN ya yb
        cases Ra
        replace ya:=eq_true ya
        replace yb:=eq_true yb
        go_wp2
        go_ret
        exact ⟨by first|rfl|(simp;done)|(simp [*];done),by repeat (first|exact aW.refl _|apply aW.step)⟩
       ·rw [if_neg c6] at H
        have oc:decide (6<=(rd l0 fN))=false:=decide_eq_false c6
        clear c6
        have H':=Aside0.mk H
        clear H
        have ya:0<=(fN:Int):=of_decide_eq_true (by first|(with_reducible assumption)|assumption)
        have yb:fN<(l0.length:Int):=of_decide_eq_true (by first|(with_reducible assumption)|assumption)
        obtain ⟨a4Z,Ra,Uz⟩:=Kd.gL eu.out fN ya yb
        cases Ra
        replace ya:=eq_true ya
        replace yb:=eq_true yb
        go_wp2
        go_roundg k1
        case measure=>have:=dX.out;omega
        case rel=>exact ⟨(rd l0 fN),(wrap64 (fN+1)),(by first|rfl|(simp;done)|(simp [*];done)),(by first|rfl|(simp;done)|(simp [*];done)),H',⟨by have:=dX.out;omega⟩,by repeat (first|exact aW.refl _|apply aW.step)⟩
     ·rw [if_neg c4] at H
      exact absurd H (by simp)
    ·rw [if_neg c3] at H
     exact absurd H (by simp)
   ·rw [if_neg c2] at H
    have Bf:decide (fN<(l0.length:Int))=false:=decide_eq_false c2
    clear c2
    obtain rfl:=Option.some.inj H
    go_wp2
    go_ret
    exact ⟨by first|rfl|(simp;done)|(simp [*];done),by repeat (first|exact aW.refl _|apply aW.step)⟩
def bZ.l0:Nat->List Int->Int->List Int->Int->Int->Option (Bool)
 |0,_,_,_,_,_=>none
 |k+1,x0,x1,x7,x8,x9=>if x9<x8 then (if 0<=x9 then (if x9<(x7.length:Int) then ((fH.f (rd x7 x9) 0 (wrap64 (x1 - 1))).bind fun t109=>(if t109=true then (if x9>0 then (if 0<=(wrap64 (x9 - 1)) then (if (wrap64 (x9 - 1))<(x0.length:Int) then (if (rd x7 x9)<=(rd x0 (wrap64 (x9 - 1))) then (some false) else (bZ.l0 k x0 x1 x7 x8 (wrap64 (x9+1)))) else (none)) else (none)) else (bZ.l0 k x0 x1 x7 x8 (wrap64 (x9+1)))) else (some false))) else (none)) else (none)) else (some true)
def bZ.f (k:Nat) (l0:List Int) (a1:Int):Option (Bool):=bZ.l0 k l0 a1 l0 (l0.length:Int) 0
theorem bZ.cC:∀k,(∀y0 y1 y2 y3 y4,aR (bZ.l0 k y0 y1 y2 y3 y4) (bZ.l0 (k+1) y0 y1 y2 y3 y4))
 |0=>fun _ _ _ _ _ r h=>by simp [bZ.l0] at h
 |k+1=>by
  have dN:=bZ.cC k
  ·intro y0 y1 y2 y3 y4
   unfold bZ.l0
   repeat' first
   |(with_reducible exact dN _ _ _ _ _)
   |(with_reducible exact aR.refl _)
   |(with_reducible exact aR.none _)
   |(with_reducible refine aR.ite ?_ ?_)
   |(with_reducible refine aR.bind ?_ (fun _=>?_))
theorem bZ.mono:∀a0 a1 k,aR (bZ.f k a0 a1) (bZ.f (k+1) a0 a1):=by
 intro a0 a1 k
 have dN:=bZ.cC k
 unfold bZ.f
 repeat' first
  |(with_reducible exact dN _ _ _ _ _)
  |(with_reducible exact aR.refl _)
  |(with_reducible exact aR.none _)
  |(with_reducible refine aR.ite ?_ ?_)
  |(with_reducible refine aR.bind ?_ (fun _=>?_))
set_option maxHeartbeats 8000000 in
set_option maxRecDepth 100000 in
theorem bZ.calls (k:Nat) (A0:Option Addr) (c0:Nat) (l0:List Int) (a1:Int) (r:Bool) (w:World) (fl:Kd.C (Kd.int .i64) w A0 l0.length l0) (hc0:l0.length<=c0) (h:bZ.f k l0 a1=some r):
 Calls Try.prog 24 #[.slice A0 l0.length c0,.int .i64 a1] w fun e w'=>e= .returned (.bool r)/\aW w w':=by
 have eu:=Aside0.mk fl
 have kr:=Aside0.mk hc0
 clear fl hc0
 have H:(bZ.l0 k l0 a1 l0 (l0.length:Int) 0)=some r:=h
 clear h
 have H':=Aside0.mk H
 clear H
 go_enter Try.func24,Try.ntmps24
 go_wp2
 go_loopg [9] k (fun kq v9 w'=>∃(bE:Int),v9= .int .i64 bE/\Aside0 (bZ.l0 kq l0 a1 l0 (l0.length:Int) bE=some r)/\Aside0 (kq<=k)/\aW w w')
 case atStart=>exact ⟨(0),(by first|rfl|(simp;done)|(simp [*];done)),H',⟨Nat.le_refl _⟩,by repeat (first|exact aW.refl _|apply aW.step)⟩
 case round=>
  clear H'
  try clear c2
  try clear p2
  obtain ⟨bE,rfl,HA,dX,⟨m1,rfl⟩⟩:=hrel
  cases gk with
  |zero=>exact absurd HA.out (by simp [bZ.l0])
  |succ k1=>
   have H:=HA.out
   clear HA
   simp only [bZ.l0] at H
   by_cases c3:bE<(l0.length:Int)
   ·rw [if_pos c3] at H
    have iw:decide (bE<(l0.length:Int))=true:=decide_eq_true c3
    clear c3
    by_cases c4:0<=bE
    ·rw [if_pos c4] at H
     have mj:decide (0<=bE)=true:=decide_eq_true c4
     clear c4
     by_cases c5:bE<(l0.length:Int)
     ·rw [if_pos c5] at H
      have wF:decide (bE<(l0.length:Int))=true:=decide_eq_true c5
      clear c5
      replace H:=Option.bind_eq_some_iff.mp H
      obtain ⟨t109,sW,H⟩:=H
      replace H:(if t109=true then (if bE>0 then (if 0<=(wrap64 (bE - 1)) then (if (wrap64 (bE - 1))<(l0.length:Int) then (if (rd l0 bE)<=(rd l0 (wrap64 (bE - 1))) then (some false) else (bZ.l0 k1 l0 a1 l0 (l0.length:Int) (wrap64 (bE+1)))) else (none)) else (none)) else (bZ.l0 k1 l0 a1 l0 (l0.length:Int) (wrap64 (bE+1)))) else (some false))=some r:=H
      have A6:=Aside0.mk sW
      clear sW
      by_cases c7:t109=true
      ·subst c7
       have H1:(if bE>0 then (if 0<=(wrap64 (bE - 1)) then (if (wrap64 (bE - 1))<(l0.length:Int) then (if (rd l0 bE)<=(rd l0 (wrap64 (bE - 1))) then (some false) else (bZ.l0 k1 l0 a1 l0 (l0.length:Int) (wrap64 (bE+1)))) else (none)) else (none)) else (bZ.l0 k1 l0 a1 l0 (l0.length:Int) (wrap64 (bE+1))))=some r:=by rw [if_pos rfl] at H;exact H
       clear H
       have H:=H1
       clear H1
       by_cases c8:bE>0
       ·rw [if_pos c8] at H
        have qL:decide (0<bE)=true:=decide_eq_true c8
        clear c8
        obtain ⟨vW,Rb⟩:∃j_:Int,(wrap64 (bE - 1))=j_:=⟨_,rfl⟩
        replace H:(if 0<=(vW) then (if (vW)<(l0.length:Int) then (if (rd l0 bE)<=(rd l0 (vW)) then (some false) else (bZ.l0 k1 l0 a1 l0 (l0.length:Int) (wrap64 (bE+1)))) else (none)) else (none))=some r:=by first|(rw [Rb] at H;exact H)|(simp only [Rb] at H⊢;exact H)
        (try rw [Rb] at A6)
        have hji9w:(IntKind.i64.wrap (bE - 1))=vW:=(dJ _).trans Rb
        by_cases c10:0<=(vW)
        ·rw [if_pos c10] at H
         have xm:decide (0<=(vW))=true:=decide_eq_true c10
         clear c10
         by_cases c11:(vW)<(l0.length:Int)
         ·rw [if_pos c11] at H
          have a4K:decide ((vW)<(l0.length:Int))=true:=decide_eq_true c11
          clear c11
          by_cases c12:(rd l0 bE)<=(rd l0 (vW))
          ·rw [if_pos c12] at H
           have yA:decide ((rd l0 bE)<=(rd l0 (vW)))=true:=decide_eq_true c12
           clear c12
           obtain rfl:=Option.some.inj H
           have sO:0<=(bE:Int):=of_decide_eq_true (by first|(with_reducible assumption)|assumption)
           have sP:bE<(l0.length:Int):=of_decide_eq_true (by first|(with_reducible assumption)|assumption)
           obtain ⟨Jl,Gi,LK⟩:=Kd.gL eu.out bE sO sP
           cases Gi
           replace sO:=eq_true sO
           replace sP:=eq_true sP
           go_wp2_with (first|((with_reducible refine aV (f:=25) rfl ?_);refine bH (some 17) rfl rfl Try.func25 (by kernel_rfl) rfl #[.int .i64 (rd l0 bE),.int .i64 0,.int .i64 (wrap64 (a1 - 1))] rfl (by (try simp only [List.map_toArray,List.map_cons,List.map_nil]);first|done|rfl|(simp only [List.length_drop,List.length_take];rfl)) ?_;(with_reducible refine (fH.calls (rd l0 bE) 0 (wrap64 (a1 - 1)) true _ A6.out).mono ?_);rintro e w' ⟨rfl,⟨nd,rfl⟩⟩;refine ⟨_,rfl,?_⟩;have Gj:0<=((vW):Int):=of_decide_eq_true (by first|(with_reducible assumption)|assumption);have Gk:(vW)<(l0.length:Int):=of_decide_eq_true (by first|(with_reducible assumption)|assumption);obtain ⟨WE,a2v,a7c⟩:=Kd.gL eu.out (vW) Gj Gk;obtain rfl:Jl=WE:=(by injection a2v);replace Gj:=eq_true Gj;replace Gk:=eq_true Gk))
           go_ret
           exact ⟨by first|rfl|(simp;done)|(simp only [<-Rb]<;>(first|rfl|simp))|(simp [*];done),by repeat (first|exact aW.refl _|apply aW.step)⟩
          ·rw [if_neg c12] at H
           have yA:decide ((rd l0 bE)<=(rd l0 (vW)))=false:=decide_eq_false c12
           clear c12
           have H':=Aside0.mk H
           clear H
           have sO:0<=(bE:Int):=of_decide_eq_true (by first|(with_reducible assumption)|assumption)
           have sP:bE<(l0.length:Int):=of_decide_eq_true (by first|(with_reducible assumption)|assumption)
           obtain ⟨Jl,Gi,LK⟩:=Kd.gL eu.out bE sO sP
           cases Gi
           replace sO:=eq_true sO
           replace sP:=eq_true sP
           go_wp2_with (first|((with_reducible refine aV (f:=25) rfl ?_);refine bH (some 17) rfl rfl Try.func25 (by kernel_rfl) rfl #[.int .i64 (rd l0 bE),.int .i64 0,.int .i64 (wrap64 (a1 - 1))] rfl (by (try simp only [List.map_toArray,List.map_cons,List.map_nil]);first|done|rfl|(simp only [List.length_drop,List.length_take];rfl)) ?_;(with_reducible refine (fH.calls (rd l0 bE) 0 (wrap64 (a1 - 1)) true _ A6.out).mono ?_);rintro e w' ⟨rfl,⟨nd,rfl⟩⟩;refine ⟨_,rfl,?_⟩;have Gj:0<=((vW):Int):=of_decide_eq_true (by first|(with_reducible assumption)|assumption);have Gk:(vW)<(l0.length:Int):=of_decide_eq_true (by first|(with_reducible assumption)|assumption);obtain ⟨WE,a2v,a7c⟩:=Kd.gL eu.out (vW) Gj Gk;obtain rfl:Jl=WE:=(by injection a2v);replace Gj:=eq_true Gj;replace Gk:=eq_true Gk))
           go_roundg k1
           case measure=>have:=dX.out;omega
           case rel=>exact ⟨(wrap64 (bE+1)),(by first|rfl|(simp;done)|(simp [*];done)),H',⟨by have:=dX.out;omega⟩,by repeat (first|exact aW.refl _|apply aW.step)⟩
         ·rw [if_neg c11] at H
          exact absurd H (by simp)
        ·rw [if_neg c10] at H
         exact absurd H (by simp)
       ·rw [if_neg c8] at H
        have qL:decide (0<bE)=false:=decide_eq_false c8
        clear c8
        have H':=Aside0.mk H
        clear H
        have sO:0<=(bE:Int):=of_decide_eq_true (by first|(with_reducible assumption)|assumption)
        have sP:bE<(l0.length:Int):=of_decide_eq_true (by first|(with_reducible assumption)|assumption)
        obtain ⟨Jl,Gi,LK⟩:=Kd.gL eu.out bE sO sP
        cases Gi
        replace sO:=eq_true sO
        replace sP:=eq_true sP
        go_wp2_with (first|((with_reducible refine aV (f:=25) rfl ?_);refine bH (some 17) rfl rfl Try.func25 (by kernel_rfl) rfl #[.int .i64 (rd l0 bE),.int .i64 0,.int .i64 (wrap64 (a1 - 1))] rfl (by (try simp only [List.map_toArray,List.map_cons,List.map_nil]);first|done|rfl|(simp only [List.length_drop,List.length_take];rfl)) ?_;(with_reducible refine (fH.calls (rd l0 bE) 0 (wrap64 (a1 - 1)) true _ A6.out).mono ?_);rintro e w' ⟨rfl,⟨nd,rfl⟩⟩;refine ⟨_,rfl,?_⟩))
        go_roundg k1
        case measure=>have:=dX.out;omega
        case rel=>exact ⟨(wrap64 (bE+1)),(by first|rfl|(simp;done)|(simp [*];done)),H',⟨by have:=dX.out;omega⟩,by repeat (first|exact aW.refl _|apply aW.step)⟩
      ·replace c7:=Bool.eq_false_iff.mpr c7
       subst c7
       have H1:(some false)=some r:=by rw [if_neg (show ¬(false=true) by decide)] at H;exact H
       clear H
       have H:=H1
       clear H1
       obtain rfl:=Option.some.inj H
       have sO:0<=(bE:Int):=of_decide_eq_true (by first|(with_reducible assumption)|assumption)
       have sP:bE<(l0.length:Int):=of_decide_eq_true (by first|(with_reducible assumption)|assumption)
       obtain ⟨Jl,Gi,LK⟩:=Kd.gL eu.out bE sO sP
       cases Gi
       replace sO:=eq_true sO
       replace sP:=eq_true sP
       go_wp2_with (first|((with_reducible refine aV (f:=25) rfl ?_);refine bH (some 17) rfl rfl Try.func25 (by kernel_rfl) rfl #[.int .i64 (rd l0 bE),.int .i64 0,.int .i64 (wrap64 (a1 - 1))] rfl (by (try simp only [List.map_toArray,List.map_cons,List.map_nil]);first|done|rfl|(simp only [List.length_drop,List.length_take];rfl)) ?_;(with_reducible refine (fH.calls (rd l0 bE) 0 (wrap64 (a1 - 1)) false _ A6.out).mono ?_);rintro e w' ⟨rfl,⟨nd,rfl⟩⟩;refine ⟨_,rfl,?_⟩))
       go_ret
       exact ⟨by first|rfl|(simp;done)|(simp [*];done),by repeat (first|exact aW.refl _|apply aW.step)⟩
     ·rw [if_neg c5] at H
      exact absurd H (by simp)
    ·rw [if_neg c4] at H
     exact absurd H (by simp)
   ·rw [if_neg c3] at H
    have iw:decide (bE<(l0.length:Int))=false:=decide_eq_false c3
    clear c3
    obtain rfl:=Option.some.inj H
    go_wp2
    go_ret
    exact ⟨by first|rfl|(simp;done)|(simp [*];done),by repeat (first|exact aW.refl _|apply aW.step)⟩
end Go.Proofs.Ytkckdphjhlbdcaa.P
namespace Go.Proofs.Ytkckdphjhlbdcaa.PT
open Go.RowKit Go.Proofs.Ytkckdphjhlbdcaa.P Go.Proofs.YtkckdphjhlbdcaaW.PrintWords Go.Proofs.YtkckdphjhlbdcaaW.PrintLast Go.Proofs.Ytkckdphjhlbdcaa.EvKit
set_option linter.all false
def iA (last:Int):List Int->Bool
 | []=>true
 |v::r=>decide (last<v)&&decide (v<6)&&iA v r
theorem a2w (l:List Int) (hl:l.length<=9223372036854775806):∀d i,i+d=l.length->∀last,Ev (fun k=>dG.l0 k last l (l.length:Int) (i:Int)) (iA last (l.drop i)):=by
 intro d
 induction d with
 |zero=>
  intro i hi last
  refine Ev.succ ?_
  simp only [dG.l0,if_neg (show ¬((i:Int)<(l.length:Int)) by omega)]
  rw [List.drop_of_length_le (by omega)];exact Ev.now _
 |succ d ih=>
  intro i hi last
  have hlt:i<l.length:=by omega
  refine Ev.succ ?_
  simp only [dG.l0,if_pos (show ((i:Int)<(l.length:Int)) by omega),if_pos (show (0:Int)<=(i:Int) by omega),qh hlt,dQ (show i<=9223372036854775806 by omega)]
  rw [ox hlt]
  simp only [iA]
  by_cases h1:l[i]<=last
  ·simp only [if_pos h1,show ¬(last<l[i]) by omega,decide_false,Bool.false_and];exact Ev.now _
  ·by_cases h2:l[i]>=6
   ·simp only [if_neg h1,if_pos h2,show ¬(l[i]<6) by omega,decide_false,Bool.false_and,Bool.and_false];exact Ev.now _
   ·simp only [if_neg h1,if_neg h2,show (last<l[i]) by omega,show (l[i]<6) by omega,decide_true,Bool.true_and]
    exact ih (i+1) (by omega) _
theorem Gl (l:List Int) (hl:l.length<=9223372036854775806):Ev (fun k=>dG.f k l) (iA (-1) l):=by
 unfold dG.f
 have:=a2w l hl l.length 0 (by omega) (-1)
 simpa using this
def before (l:List Int) (i:Nat):Int:=if i=0 then -1 else l.getD (i - 1) 0
end Go.Proofs.Ytkckdphjhlbdcaa.PT
