/-
  Part 9 of the proof of this: The law FnCover answers true at every argument.
-/
import Derived.Test.YtnhknojfpjheoaaKCover2
import Derived.Test.YtnhknojfpjheoaaKCover6
import Derived.Test.YtnhknojfpjheoaaKCover8
namespace Go.Proofs.Ytnhknojfpjheoaa.P
open Go.RowKit Go.Proofs.YtnhknojfpjheoaaW.PrintWords Go.Proofs.YtnhknojfpjheoaaW.PrintLast Go.Proofs.YtnhknojfpjheoaaW.PrintMore
attribute [local go_sem] max2_int min2_int max_two min_two max_three min_three max_four min_four
set_option linter.all false
def bq.l0:Nat->List (bV)->List (bV)->Int->Int->Option (Bool)
 |0,_,_,_,_=>none
 |k+1,x0,x1,x24,zG=>if zG<x24 then (if 0<=zG then (if zG<(x0.length:Int) then (if zG<(x1.length:Int) then ((cw.f ((bh x0 zG).f0) ((bh x0 zG).f1) ((bh x1 zG).f0) ((bh x1 zG).f1)).bind fun t203=>(if t203=true then (some true) else ((cw.f ((bh x1 zG).f0) ((bh x1 zG).f1) ((bh x0 zG).f0) ((bh x0 zG).f1)).bind fun t206=>(if t206=true then (some false) else (bq.l0 k x0 x1 x24 (wrap64 (zG+1))))))) else (none)) else (none)) else (none)) else (some false)
def bq.f (k:Nat) (l0:List (bV)) (l1:List (bV)) (a2:Bool):Option (Bool):=(bM.f k l0).bind fun vV=>((bM.f k l1).bind fun pG=>((cw.f vV.1 vV.2 pG.1 pG.2).bind fun yq=>(if yq=true then (some (!a2)) else ((cw.f pG.1 pG.2 vV.1 vV.2).bind fun sG=>(if sG=true then (some a2) else (bq.l0 k l0 l1 (l0.length:Int) 0))))))
theorem bq.cH:∀k,(∀y0 y1 y2 y3,aW (bq.l0 k y0 y1 y2 y3) (bq.l0 (k+1) y0 y1 y2 y3))
 |0=>fun _ _ _ _ r h=>by simp [bq.l0] at h
 |k+1=>by
  have dP:=bq.cH k
  ·intro y0 y1 y2 y3
   unfold bq.l0
   repeat' first
   |(with_reducible exact dP _ _ _ _)
   |(with_reducible exact bM.mono _ _)
   |(with_reducible exact aW.refl _)
   |(with_reducible exact aW.none _)
   |(with_reducible refine aW.ite ?_ ?_)
   |(with_reducible refine aW.bind ?_ (fun _=>?_))
theorem bq.mono:∀a0 a1 a2 k,aW (bq.f k a0 a1 a2) (bq.f (k+1) a0 a1 a2):=by
 intro a0 a1 a2 k
 have dP:=bq.cH k
 unfold bq.f
 repeat' first
  |(with_reducible exact dP _ _ _ _)
  |(with_reducible exact bM.mono _ _)
  |(with_reducible exact aW.refl _)
  |(with_reducible exact aW.none _)
  |(with_reducible refine aW.ite ?_ ?_)
  |(with_reducible refine aW.bind ?_ (fun _=>?_))
def bq.T10:Bool×List (List Nat×List Nat):=(true,[([],[]),([],[]),([0,1],[0,1]),([2],[2]),([],[]),([],[]),([4,5],[4,5]),([6],[6]),([3,7],[3,7])])
def bq.B10:List Nat:=[0,0,3,7,0,0,48,112,255]
theorem bq.Vi:kF .any (opsOf Try.f50 10)=bq.T10:=by kernel_rfl
theorem bq.PV:pZ bq.T10.2 bq.B10=true:=by kernel_rfl
def bq.T12:Bool×List (List Nat×List Nat):=(true,[([],[]),([],[]),([0,1],[0,1]),([2],[2]),([],[]),([],[]),([4,5],[4,5]),([6],[6]),([3,7],[3,7])])
def bq.B12:List Nat:=[0,0,3,7,0,0,48,112,255]
theorem bq.a4m:kF .any (opsOf Try.f50 12)=bq.T12:=by kernel_rfl
theorem bq.Yw:pZ bq.T12.2 bq.B12=true:=by kernel_rfl
set_option maxHeartbeats 8000000 in
set_option maxRecDepth 100000 in
theorem bq.calls (k:Nat) (A0:Option Addr) (c0:Nat) (l0:List (bV)) (A1:Option Addr) (c1:Nat) (l1:List (bV)) (a2:Bool) (r:Bool) (w:World) (fE:Kd.C fD w A0 l0.length l0) (hc0:l0.length<=c0) (hr1:Kd.C fD w A1 l1.length l1) (hc1:l1.length<=c1) (h:bq.f k l0 l1 a2=some r):
 Calls Try.prog 50 #[.slice A0 l0.length c0,.slice A1 l1.length c1,.bool a2] w fun e w'=>e= .returned (.bool r)/\Below w.heap.size w w':=by
 have lY:=Try.underlying26
 have eL:=Aside0.mk fE
 have kB:=Aside0.mk hc0
 clear fE hc0
 have gV:=Aside0.mk hr1
 have iJ:=Aside0.mk hc1
 clear hr1 hc1
 have HB:=Aside0.mk (Below.refl w.heap.size w)
 have H:((bM.f k l0).bind fun vV=>((bM.f k l1).bind fun pG=>((cw.f vV.1 vV.2 pG.1 pG.2).bind fun yq=>(if yq=true then (some (!a2)) else ((cw.f pG.1 pG.2 vV.1 vV.2).bind fun sG=>(if sG=true then (some a2) else (bq.l0 k l0 l1 (l0.length:Int) 0)))))))=some r:=h
 clear h
 replace H:=Option.bind_eq_some_iff.mp H
 obtain ⟨⟨t193,t194⟩,xE,H⟩:=H
 replace H:((bM.f k l1).bind fun pG=>((cw.f t193 t194 pG.1 pG.2).bind fun yq=>(if yq=true then (some (!a2)) else ((cw.f pG.1 pG.2 t193 t194).bind fun sG=>(if sG=true then (some a2) else (bq.l0 k l0 l1 (l0.length:Int) 0))))))=some r:=H
 have A4:=Aside0.mk xE
 clear xE
 replace H:=Option.bind_eq_some_iff.mp H
 obtain ⟨⟨t196,jB⟩,xM,H⟩:=H
 replace H:((cw.f t193 t194 t196 jB).bind fun yq=>(if yq=true then (some (!a2)) else ((cw.f t196 jB t193 t194).bind fun sG=>(if sG=true then (some a2) else (bq.l0 k l0 l1 (l0.length:Int) 0)))))=some r:=H
 have A5:=Aside0.mk xM
 clear xM
 replace H:=Option.bind_eq_some_iff.mp H
 obtain ⟨yq,rO,H⟩:=H
 replace H:(if yq=true then (some (!a2)) else ((cw.f t196 jB t193 t194).bind fun sG=>(if sG=true then (some a2) else (bq.l0 k l0 l1 (l0.length:Int) 0))))=some r:=H
 have A6:=Aside0.mk rO
 clear rO
 by_cases c7:yq=true
 ·subst c7
  have H1:(some (!a2))=some r:=by rw [if_pos rfl] at H;exact H
  clear H
  have H:=H1
  clear H1
  obtain rfl:=Option.some.inj H
  go_enter Try.func50,Try.ntmps50
  go_wp2_with (first|((with_reducible refine aZ (f:=26) rfl ?_);refine bO (some 11) rfl rfl Try.func26 (by kernel_rfl) rfl #[.slice A0 l0.length c0] rfl (by (try simp only [List.map_toArray,List.map_cons,List.map_nil]);first|done|rfl|(simp only [List.length_drop,List.length_take];rfl)) ?_;(with_reducible refine (bM.calls k _ _ l0 t193 t194 _ ?bX ?bY A4.out).mono ?_);(case bX=>repeat (first|exact eL.out|(with_reducible refine Kd.cO ?_ _)|(with_reducible refine Kd.cP ?_ _)|(with_reducible refine Kd.dw ?_)));(case bY=>exact kB.out);rintro e w8 ⟨rfl,hb⟩;refine ⟨_,rfl,?_⟩;have ay:=Aside0.mk (ai ax hb);clear HB;have HB:=ay;clear ay;(try clear hb);(try clear hb2);(try clear hk);(try clear hi))|((with_reducible refine bk (N:=7) rfl ?_);refine bp ?hg (N:=7) ?hd (cs:= #[.int .i64 0,.int .i64 0]) (t:=26) ?hr ?_;(case hd=>rfl);(case hg=>rfl);(case hr=>first|(go_simp;done)|(go_simp;rfl));intro dQ hg w9 aU hb;have ay:=Aside0.mk (ai ax hb);have aA:=Aside0.mk (aU);have aD:=Aside0.mk ((by rw [hg];exact (av ax):w.heap.size<=dQ));have aR:=Aside0.mk ((by rw [hg];exact (av ax):w.heap.size<=dQ));clear HB;have HB:=ay;have bI:=aA;have a4n:=aD;have a4o:=aR;clear ay aA aD aR;clear hb aU hg;have Kj:w9.cell? ⟨dQ,0,none⟩=some (.int .i64 0):=(ag bI.out 0).trans rfl;have Kk:w9.cell? ⟨dQ,1,none⟩=some (.int .i64 0):=(ag bI.out 1).trans rfl;have Kl:=aa bI.out 0;have Km:=aa bI.out 1)|((with_reducible refine aZ (f:=26) rfl ?_);refine bO (some 13) rfl rfl Try.func26 (by kernel_rfl) rfl #[.slice A1 l1.length c1] rfl (by (try simp only [List.map_toArray,List.map_cons,List.map_nil]);first|done|rfl|(simp only [List.length_drop,List.length_take];rfl)) ?_;(with_reducible refine (bM.calls k _ _ l1 t196 jB _ ?bX ?bY A5.out).mono ?_);(case bX=>exact Kd.bQ gV.out ax);(case bY=>exact iJ.out);rintro e fk ⟨rfl,hb⟩;refine ⟨_,rfl,?_⟩;have ay:=Aside0.mk (ah (g:=dQ) (o:= .cells #[.int .i64 t193,.int .i64 t194] 26 (0,0)) (by (with_reducible repeat (first|refine au ?_ _|refine ak ?_|refine aq ?_ _));refine aX (cs:= #[.int .i64 t193,.int .i64 0]) ?_ 1 _ rfl;(with_reducible repeat (first|refine au ?_ _|refine ak ?_|refine aq ?_ _));refine aX (cs:= #[.int .i64 0,.int .i64 0]) ?_ 0 _ rfl;(with_reducible repeat (first|refine au ?_ _|refine ak ?_|refine aq ?_ _));exact bI.out) hb);have aA:=Aside0.mk (ai ax hb);clear bI;clear HB;have bI:=ay;have HB:=aA;clear ay aA;(try clear hb);(try clear hb2);(try clear hk);(try clear hi))|((with_reducible refine bk (N:=8) rfl ?_);refine bp ?hg (N:=8) ?hd (cs:= #[.int .i64 0,.int .i64 0]) (t:=26) ?hr ?_;(case hd=>rfl);(case hg=>rfl);(case hr=>first|(go_simp;done)|(go_simp;rfl));intro fX hg lD aU hb;have ay:=Aside0.mk (ah (g:=dQ) (o:= .cells #[.int .i64 t193,.int .i64 t194] 26 (0,0)) (aJ bI) hb);have aA:=Aside0.mk (ai ax hb);have aD:=Aside0.mk (aU);have aR:=Aside0.mk ((by rw [hg];exact (av ax):w.heap.size<=fX));have bK:=Aside0.mk ((by rw [hg];exact (av ax):w.heap.size<=fX));have bT:=Aside0.mk ((by rw [hg];exact Nat.ne_of_lt (aY (g:=dQ) (o:= .cells #[.int .i64 t193,.int .i64 t194] 26 (0,0)) (aJ bI)):dQ≠fX));have cm:=Aside0.mk ((by rw [hg];exact Nat.ne_of_gt (aY (g:=dQ) (o:= .cells #[.int .i64 t193,.int .i64 t194] 26 (0,0)) (aJ bI)):fX≠dQ));clear bI;clear HB;have bI:=ay;have HB:=aA;have cG:=aD;have a4p:=aR;have a4q:=bK;have kU:=bT;have uN:=cm;clear ay aA aD aR bK bT cm;clear hb aU hg;have hnb13:=uN.out;have hnc13:=kU.out;have JM:lD.cell? ⟨fX,0,none⟩=some (.int .i64 0):=(ag cG.out 0).trans rfl;have JN:lD.cell? ⟨fX,1,none⟩=some (.int .i64 0):=(ag cG.out 1).trans rfl;have JO:=aa cG.out 0;have JP:=aa cG.out 1;have DC:lD.cell? ⟨dQ,0,none⟩=some (.int .i64 t193):=(ag bI.out 0).trans rfl;have DD:lD.cell? ⟨dQ,1,none⟩=some (.int .i64 t194):=(ag bI.out 1).trans rfl;have DF:=aa bI.out 0;have DG:=aa bI.out 1)|((with_reducible refine aZ (f:=65) rfl ?_);refine bO (some 16) rfl rfl Try.func65 (by kernel_rfl) rfl #[.agg #[.int .i64 t193,.int .i64 t194],.agg #[.int .i64 t196,.int .i64 jB]] rfl (by (try simp only [List.map_toArray,List.map_cons,List.map_nil]);first|done|rfl|(simp only [List.length_drop,List.length_take];rfl)) ?_;(with_reducible refine (cw.calls t193 t194 t196 jB true _ A6.out).mono ?_);rintro e lB ⟨rfl,hb⟩;refine ⟨_,rfl,?_⟩;have ay:=Aside0.mk (ah (g:=dQ) (o:= .cells #[.int .i64 t193,.int .i64 t194] 26 (0,0)) (by (with_reducible repeat (first|refine au ?_ _|refine ak ?_|refine aq ?_ _));refine di ?_ kU.out _;(with_reducible repeat (first|refine au ?_ _|refine ak ?_|refine aq ?_ _));refine di ?_ kU.out _;(with_reducible repeat (first|refine au ?_ _|refine ak ?_|refine aq ?_ _));exact bI.out) hb);have aA:=Aside0.mk (ah (g:=fX) (o:= .cells #[.int .i64 t196,.int .i64 jB] 26 (0,0)) (by (with_reducible repeat (first|refine au ?_ _|refine ak ?_|refine aq ?_ _));refine aX (cs:= #[.int .i64 t196,.int .i64 0]) ?_ 1 _ rfl;(with_reducible repeat (first|refine au ?_ _|refine ak ?_|refine aq ?_ _));refine aX (cs:= #[.int .i64 0,.int .i64 0]) ?_ 0 _ rfl;(with_reducible repeat (first|refine au ?_ _|refine ak ?_|refine aq ?_ _));exact cG.out) hb);have aD:=Aside0.mk (ai ax hb);clear bI;clear cG;clear HB;have bI:=ay;have cG:=aA;have HB:=aD;clear ay aA aD;(try clear hb);(try clear hb2);(try clear hk);(try clear hi)))
  go_ret
  exact ⟨by first|rfl|(simp [aM,aQ]<;>rfl)|(simp [*,aM,aQ]<;>rfl),ax⟩
 ·replace c7:=Bool.eq_false_iff.mpr c7
  subst c7
  have H1:((cw.f t196 jB t193 t194).bind fun sG=>(if sG=true then (some a2) else (bq.l0 k l0 l1 (l0.length:Int) 0)))=some r:=by rw [if_neg (show ¬(false=true) by decide)] at H;exact H
  clear H
  have H:=H1
  clear H1
  replace H:=Option.bind_eq_some_iff.mp H
  obtain ⟨sG,a9W,H⟩:=H
  replace H:(if sG=true then (some a2) else (bq.l0 k l0 l1 (l0.length:Int) 0))=some r:=H
  have A17:=Aside0.mk a9W
  clear a9W
  by_cases c18:sG=true
  ·subst c18
   have H1:(some a2)=some r:=by rw [if_pos rfl] at H;exact H
   clear H
   have H:=H1
   clear H1
   obtain rfl:=Option.some.inj H
   go_enter Try.func50,Try.ntmps50
   go_wp2_with (first|((with_reducible refine aZ (f:=26) rfl ?_);refine bO (some 11) rfl rfl Try.func26 (by kernel_rfl) rfl #[.slice A0 l0.length c0] rfl (by (try simp only [List.map_toArray,List.map_cons,List.map_nil]);first|done|rfl|(simp only [List.length_drop,List.length_take];rfl)) ?_;(with_reducible refine (bM.calls k _ _ l0 t193 t194 _ ?bX ?bY A4.out).mono ?_);(case bX=>repeat (first|exact eL.out|(with_reducible refine Kd.cO ?_ _)|(with_reducible refine Kd.cP ?_ _)|(with_reducible refine Kd.dw ?_)));(case bY=>exact kB.out);rintro e w19 ⟨rfl,hb⟩;refine ⟨_,rfl,?_⟩;have ay:=Aside0.mk (ai ax hb);clear HB;have HB:=ay;clear ay;(try clear hb);(try clear hb2);(try clear hk);(try clear hi))|((with_reducible refine bk (N:=7) rfl ?_);refine bp ?hg (N:=7) ?hd (cs:= #[.int .i64 0,.int .i64 0]) (t:=26) ?hr ?_;(case hd=>rfl);(case hg=>rfl);(case hr=>first|(go_simp;done)|(go_simp;rfl));intro dQ hg sM aU hb;have ay:=Aside0.mk (ai ax hb);have aA:=Aside0.mk (aU);have aD:=Aside0.mk ((by rw [hg];exact (av ax):w.heap.size<=dQ));have aR:=Aside0.mk ((by rw [hg];exact (av ax):w.heap.size<=dQ));clear HB;have HB:=ay;have bI:=aA;have a4n:=aD;have a4o:=aR;clear ay aA aD aR;clear hb aU hg;have yU:sM.cell? ⟨dQ,0,none⟩=some (.int .i64 0):=(ag bI.out 0).trans rfl;have yV:sM.cell? ⟨dQ,1,none⟩=some (.int .i64 0):=(ag bI.out 1).trans rfl;have yX:=aa bI.out 0;have yY:=aa bI.out 1)|((with_reducible refine aZ (f:=26) rfl ?_);refine bO (some 13) rfl rfl Try.func26 (by kernel_rfl) rfl #[.slice A1 l1.length c1] rfl (by (try simp only [List.map_toArray,List.map_cons,List.map_nil]);first|done|rfl|(simp only [List.length_drop,List.length_take];rfl)) ?_;(with_reducible refine (bM.calls k _ _ l1 t196 jB _ ?bX ?bY A5.out).mono ?_);(case bX=>exact Kd.bQ gV.out ax);(case bY=>exact iJ.out);rintro e uB ⟨rfl,hb⟩;refine ⟨_,rfl,?_⟩;have ay:=Aside0.mk (ah (g:=dQ) (o:= .cells #[.int .i64 t193,.int .i64 t194] 26 (0,0)) (by (with_reducible repeat (first|refine au ?_ _|refine ak ?_|refine aq ?_ _));refine aX (cs:= #[.int .i64 t193,.int .i64 0]) ?_ 1 _ rfl;(with_reducible repeat (first|refine au ?_ _|refine ak ?_|refine aq ?_ _));refine aX (cs:= #[.int .i64 0,.int .i64 0]) ?_ 0 _ rfl;(with_reducible repeat (first|refine au ?_ _|refine ak ?_|refine aq ?_ _));exact bI.out) hb);have aA:=Aside0.mk (ai ax hb);clear bI;clear HB;have bI:=ay;have HB:=aA;clear ay aA;(try clear hb);(try clear hb2);(try clear hk);(try clear hi))|((with_reducible refine bk (N:=8) rfl ?_);refine bp ?hg (N:=8) ?hd (cs:= #[.int .i64 0,.int .i64 0]) (t:=26) ?hr ?_;(case hd=>rfl);(case hg=>rfl);(case hr=>first|(go_simp;done)|(go_simp;rfl));intro fX hg vD aU hb;have ay:=Aside0.mk (ah (g:=dQ) (o:= .cells #[.int .i64 t193,.int .i64 t194] 26 (0,0)) (aJ bI) hb);have aA:=Aside0.mk (ai ax hb);have aD:=Aside0.mk (aU);have aR:=Aside0.mk ((by rw [hg];exact (av ax):w.heap.size<=fX));have bK:=Aside0.mk ((by rw [hg];exact (av ax):w.heap.size<=fX));have bT:=Aside0.mk ((by rw [hg];exact Nat.ne_of_lt (aY (g:=dQ) (o:= .cells #[.int .i64 t193,.int .i64 t194] 26 (0,0)) (aJ bI)):dQ≠fX));have cm:=Aside0.mk ((by rw [hg];exact Nat.ne_of_gt (aY (g:=dQ) (o:= .cells #[.int .i64 t193,.int .i64 t194] 26 (0,0)) (aJ bI)):fX≠dQ));clear bI;clear HB;have bI:=ay;have HB:=aA;have cG:=aD;have a4p:=aR;have a4q:=bK;have kU:=bT;have uN:=cm;clear ay aA aD aR bK bT cm;clear hb aU hg;have b3U:=uN.out;have b3V:=kU.out;have JZ:vD.cell? ⟨fX,0,none⟩=some (.int .i64 0):=(ag cG.out 0).trans rfl;have Ka:vD.cell? ⟨fX,1,none⟩=some (.int .i64 0):=(ag cG.out 1).trans rfl;have Kb:=aa cG.out 0;have Ke:=aa cG.out 1;have KD:vD.cell? ⟨dQ,0,none⟩=some (.int .i64 t193):=(ag bI.out 0).trans rfl;have KE:vD.cell? ⟨dQ,1,none⟩=some (.int .i64 t194):=(ag bI.out 1).trans rfl;have KF:=aa bI.out 0;have KG:=aa bI.out 1)|((with_reducible refine aZ (f:=65) rfl ?_);refine bO (some 16) rfl rfl Try.func65 (by kernel_rfl) rfl #[.agg #[.int .i64 t193,.int .i64 t194],.agg #[.int .i64 t196,.int .i64 jB]] rfl (by (try simp only [List.map_toArray,List.map_cons,List.map_nil]);first|done|rfl|(simp only [List.length_drop,List.length_take];rfl)) ?_;(with_reducible refine (cw.calls t193 t194 t196 jB false _ A6.out).mono ?_);rintro e LY ⟨rfl,hb⟩;refine ⟨_,rfl,?_⟩;have ay:=Aside0.mk (ah (g:=dQ) (o:= .cells #[.int .i64 t193,.int .i64 t194] 26 (0,0)) (by (with_reducible repeat (first|refine au ?_ _|refine ak ?_|refine aq ?_ _));refine di ?_ kU.out _;(with_reducible repeat (first|refine au ?_ _|refine ak ?_|refine aq ?_ _));refine di ?_ kU.out _;(with_reducible repeat (first|refine au ?_ _|refine ak ?_|refine aq ?_ _));exact bI.out) hb);have aA:=Aside0.mk (ah (g:=fX) (o:= .cells #[.int .i64 t196,.int .i64 jB] 26 (0,0)) (by (with_reducible repeat (first|refine au ?_ _|refine ak ?_|refine aq ?_ _));refine aX (cs:= #[.int .i64 t196,.int .i64 0]) ?_ 1 _ rfl;(with_reducible repeat (first|refine au ?_ _|refine ak ?_|refine aq ?_ _));refine aX (cs:= #[.int .i64 0,.int .i64 0]) ?_ 0 _ rfl;(with_reducible repeat (first|refine au ?_ _|refine ak ?_|refine aq ?_ _));exact cG.out) hb);have aD:=Aside0.mk (ai ax hb);clear bI;clear cG;clear HB;have bI:=ay;have cG:=aA;have HB:=aD;clear ay aA aD;(try clear hb);(try clear hb2);(try clear hk);(try clear hi);have tJ:LY.cell? ⟨fX,0,none⟩=some (.int .i64 t196):=(ag cG.out 0).trans rfl;have tK:LY.cell? ⟨fX,1,none⟩=some (.int .i64 jB):=(ag cG.out 1).trans rfl;have tL:=aa cG.out 0;have tM:=aa cG.out 1;have a6J:LY.cell? ⟨dQ,0,none⟩=some (.int .i64 t193):=(ag bI.out 0).trans rfl;have a6K:LY.cell? ⟨dQ,1,none⟩=some (.int .i64 t194):=(ag bI.out 1).trans rfl;have a6L:=aa bI.out 0;have a6M:=aa bI.out 1)|((with_reducible refine aZ (f:=65) rfl ?_);refine bO (some 21) rfl rfl Try.func65 (by kernel_rfl) rfl #[.agg #[.int .i64 t196,.int .i64 jB],.agg #[.int .i64 t193,.int .i64 t194]] rfl (by (try simp only [List.map_toArray,List.map_cons,List.map_nil]);first|done|rfl|(simp only [List.length_drop,List.length_take];rfl)) ?_;(with_reducible refine (cw.calls t196 jB t193 t194 true _ A17.out).mono ?_);rintro e w30 ⟨rfl,hb⟩;refine ⟨_,rfl,?_⟩;have ay:=Aside0.mk (ah (g:=dQ) (o:= .cells #[.int .i64 t193,.int .i64 t194] 26 (0,0)) (aJ bI) hb);have aA:=Aside0.mk (ah (g:=fX) (o:= .cells #[.int .i64 t196,.int .i64 jB] 26 (0,0)) (aJ cG) hb);have aD:=Aside0.mk (ai ax hb);clear bI;clear cG;clear HB;have bI:=ay;have cG:=aA;have HB:=aD;clear ay aA aD;(try clear hb);(try clear hb2);(try clear hk);(try clear hi)))
   go_ret
   exact ⟨by first|rfl|(simp [aM,aQ]<;>rfl)|(simp [*,aM,aQ]<;>rfl),ax⟩
  ·replace c18:=Bool.eq_false_iff.mpr c18
   subst c18
   have H1:(bq.l0 k l0 l1 (l0.length:Int) 0)=some r:=by rw [if_neg (show ¬(false=true) by decide)] at H;exact H
   clear H
   have H:=H1
   clear H1
   have H':=Aside0.mk H
   clear H
   go_enter Try.func50,Try.ntmps50
   go_wp2_with (first|((with_reducible refine aZ (f:=26) rfl ?_);refine bO (some 11) rfl rfl Try.func26 (by kernel_rfl) rfl #[.slice A0 l0.length c0] rfl (by (try simp only [List.map_toArray,List.map_cons,List.map_nil]);first|done|rfl|(simp only [List.length_drop,List.length_take];rfl)) ?_;(with_reducible refine (bM.calls k _ _ l0 t193 t194 _ ?bX ?bY A4.out).mono ?_);(case bX=>repeat (first|exact eL.out|(with_reducible refine Kd.cO ?_ _)|(with_reducible refine Kd.cP ?_ _)|(with_reducible refine Kd.dw ?_)));(case bY=>exact kB.out);rintro e w31 ⟨rfl,hb⟩;refine ⟨_,rfl,?_⟩;have ay:=Aside0.mk (ai ax hb);clear HB;have HB:=ay;clear ay;(try clear hb);(try clear hb2);(try clear hk);(try clear hi))|((with_reducible refine bk (N:=7) rfl ?_);refine bp ?hg (N:=7) ?hd (cs:= #[.int .i64 0,.int .i64 0]) (t:=26) ?hr ?_;(case hd=>rfl);(case hg=>rfl);(case hr=>first|(go_simp;done)|(go_simp;rfl));intro dQ hg qw aU hb;have ay:=Aside0.mk (ai ax hb);have aA:=Aside0.mk (aU);have aD:=Aside0.mk ((by rw [hg];exact (av ax):w.heap.size<=dQ));have aR:=Aside0.mk ((by rw [hg];exact (av ax):w.heap.size<=dQ));clear HB;have HB:=ay;have bI:=aA;have a4n:=aD;have a4o:=aR;clear ay aA aD aR;clear hb aU hg;have RN:qw.cell? ⟨dQ,0,none⟩=some (.int .i64 0):=(ag bI.out 0).trans rfl;have RO:qw.cell? ⟨dQ,1,none⟩=some (.int .i64 0):=(ag bI.out 1).trans rfl;have RP:=aa bI.out 0;have RQ:=aa bI.out 1)|((with_reducible refine aZ (f:=26) rfl ?_);refine bO (some 13) rfl rfl Try.func26 (by kernel_rfl) rfl #[.slice A1 l1.length c1] rfl (by (try simp only [List.map_toArray,List.map_cons,List.map_nil]);first|done|rfl|(simp only [List.length_drop,List.length_take];rfl)) ?_;(with_reducible refine (bM.calls k _ _ l1 t196 jB _ ?bX ?bY A5.out).mono ?_);(case bX=>exact Kd.bQ gV.out ax);(case bY=>exact iJ.out);rintro e w34 ⟨rfl,hb⟩;refine ⟨_,rfl,?_⟩;have ay:=Aside0.mk (ah (g:=dQ) (o:= .cells #[.int .i64 t193,.int .i64 t194] 26 (0,0)) (by (with_reducible repeat (first|refine au ?_ _|refine ak ?_|refine aq ?_ _));refine aX (cs:= #[.int .i64 t193,.int .i64 0]) ?_ 1 _ rfl;(with_reducible repeat (first|refine au ?_ _|refine ak ?_|refine aq ?_ _));refine aX (cs:= #[.int .i64 0,.int .i64 0]) ?_ 0 _ rfl;(with_reducible repeat (first|refine au ?_ _|refine ak ?_|refine aq ?_ _));exact bI.out) hb);have aA:=Aside0.mk (ai ax hb);clear bI;clear HB;have bI:=ay;have HB:=aA;clear ay aA;(try clear hb);(try clear hb2);(try clear hk);(try clear hi))|((with_reducible refine bk (N:=8) rfl ?_);refine bp ?hg (N:=8) ?hd (cs:= #[.int .i64 0,.int .i64 0]) (t:=26) ?hr ?_;(case hd=>rfl);(case hg=>rfl);(case hr=>first|(go_simp;done)|(go_simp;rfl));intro fX hg pI aU hb;have ay:=Aside0.mk (ah (g:=dQ) (o:= .cells #[.int .i64 t193,.int .i64 t194] 26 (0,0)) (aJ bI) hb);have aA:=Aside0.mk (ai ax hb);have aD:=Aside0.mk (aU);have aR:=Aside0.mk ((by rw [hg];exact (av ax):w.heap.size<=fX));have bK:=Aside0.mk ((by rw [hg];exact (av ax):w.heap.size<=fX));have bT:=Aside0.mk ((by rw [hg];exact Nat.ne_of_lt (aY (g:=dQ) (o:= .cells #[.int .i64 t193,.int .i64 t194] 26 (0,0)) (aJ bI)):dQ≠fX));have cm:=Aside0.mk ((by rw [hg];exact Nat.ne_of_gt (aY (g:=dQ) (o:= .cells #[.int .i64 t193,.int .i64 t194] 26 (0,0)) (aJ bI)):fX≠dQ));clear bI;clear HB;have bI:=ay;have HB:=aA;have cG:=aD;have a4p:=aR;have a4q:=bK;have kU:=bT;have uN:=cm;clear ay aA aD aR bK bT cm;clear hb aU hg;have b3D:=uN.out;have b3E:=kU.out;have Kf:pI.cell? ⟨fX,0,none⟩=some (.int .i64 0):=(ag cG.out 0).trans rfl;have Kg:pI.cell? ⟨fX,1,none⟩=some (.int .i64 0):=(ag cG.out 1).trans rfl;have Kh:=aa cG.out 0;have Ki:=aa cG.out 1;have Sb:pI.cell? ⟨dQ,0,none⟩=some (.int .i64 t193):=(ag bI.out 0).trans rfl;have Sc:pI.cell? ⟨dQ,1,none⟩=some (.int .i64 t194):=(ag bI.out 1).trans rfl;have Sd:=aa bI.out 0;have Sh:=aa bI.out 1)|((with_reducible refine aZ (f:=65) rfl ?_);refine bO (some 16) rfl rfl Try.func65 (by kernel_rfl) rfl #[.agg #[.int .i64 t193,.int .i64 t194],.agg #[.int .i64 t196,.int .i64 jB]] rfl (by (try simp only [List.map_toArray,List.map_cons,List.map_nil]);first|done|rfl|(simp only [List.length_drop,List.length_take];rfl)) ?_;(with_reducible refine (cw.calls t193 t194 t196 jB false _ A6.out).mono ?_);rintro e LZ ⟨rfl,hb⟩;refine ⟨_,rfl,?_⟩;have ay:=Aside0.mk (ah (g:=dQ) (o:= .cells #[.int .i64 t193,.int .i64 t194] 26 (0,0)) (by (with_reducible repeat (first|refine au ?_ _|refine ak ?_|refine aq ?_ _));refine di ?_ kU.out _;(with_reducible repeat (first|refine au ?_ _|refine ak ?_|refine aq ?_ _));refine di ?_ kU.out _;(with_reducible repeat (first|refine au ?_ _|refine ak ?_|refine aq ?_ _));exact bI.out) hb);have aA:=Aside0.mk (ah (g:=fX) (o:= .cells #[.int .i64 t196,.int .i64 jB] 26 (0,0)) (by (with_reducible repeat (first|refine au ?_ _|refine ak ?_|refine aq ?_ _));refine aX (cs:= #[.int .i64 t196,.int .i64 0]) ?_ 1 _ rfl;(with_reducible repeat (first|refine au ?_ _|refine ak ?_|refine aq ?_ _));refine aX (cs:= #[.int .i64 0,.int .i64 0]) ?_ 0 _ rfl;(with_reducible repeat (first|refine au ?_ _|refine ak ?_|refine aq ?_ _));exact cG.out) hb);have aD:=Aside0.mk (ai ax hb);clear bI;clear cG;clear HB;have bI:=ay;have cG:=aA;have HB:=aD;clear ay aA aD;(try clear hb);(try clear hb2);(try clear hk);(try clear hi);have a6N:LZ.cell? ⟨fX,0,none⟩=some (.int .i64 t196):=(ag cG.out 0).trans rfl;have a6O:LZ.cell? ⟨fX,1,none⟩=some (.int .i64 jB):=(ag cG.out 1).trans rfl;have a6P:=aa cG.out 0;have a6Q:=aa cG.out 1;have KH:LZ.cell? ⟨dQ,0,none⟩=some (.int .i64 t193):=(ag bI.out 0).trans rfl;have KJ:LZ.cell? ⟨dQ,1,none⟩=some (.int .i64 t194):=(ag bI.out 1).trans rfl;have KL:=aa bI.out 0;have KM:=aa bI.out 1)|((with_reducible refine aZ (f:=65) rfl ?_);refine bO (some 21) rfl rfl Try.func65 (by kernel_rfl) rfl #[.agg #[.int .i64 t196,.int .i64 jB],.agg #[.int .i64 t193,.int .i64 t194]] rfl (by (try simp only [List.map_toArray,List.map_cons,List.map_nil]);first|done|rfl|(simp only [List.length_drop,List.length_take];rfl)) ?_;(with_reducible refine (cw.calls t196 jB t193 t194 false _ A17.out).mono ?_);rintro e w42 ⟨rfl,hb⟩;refine ⟨_,rfl,?_⟩;have ay:=Aside0.mk (ah (g:=dQ) (o:= .cells #[.int .i64 t193,.int .i64 t194] 26 (0,0)) (aJ bI) hb);have aA:=Aside0.mk (ah (g:=fX) (o:= .cells #[.int .i64 t196,.int .i64 jB] 26 (0,0)) (aJ cG) hb);have aD:=Aside0.mk (ai ax hb);clear bI;clear cG;clear HB;have bI:=ay;have cG:=aA;have HB:=aD;clear ay aA aD;(try clear hb);(try clear hb2);(try clear hk);(try clear hi)))
   go_loopg [25] k (fun kq v25 w'=>∃(bB:Int),v25= .int .i64 bB/\Aside0 (bq.l0 kq l0 l1 (l0.length:Int) bB=some r)/\Aside0 (kq<=k)/\Aside0 (w'.heap[dQ]? =some (.cells #[.int .i64 t193,.int .i64 t194] 26 (0,0)))/\Aside0 (w'.heap[fX]? =some (.cells #[.int .i64 t196,.int .i64 jB] 26 (0,0)))/\Aside0 (Below w.heap.size w w'))
   case atStart=>exact ⟨(0),(by first|rfl|(simp;done)|(simp [*];done)),H',⟨Nat.le_refl _⟩,⟨by (with_reducible repeat (first|refine au ?_ _|refine ak ?_|refine aq ?_ _));exact bI.out⟩,⟨by (with_reducible repeat (first|refine au ?_ _|refine ak ?_|refine aq ?_ _));exact cG.out⟩,⟨ax⟩⟩
   case round=>
    clear H'
    try clear c1
    try clear c2
    try clear p2
    try clear c3
    try clear c5
    try clear c6
    try clear c7
    try clear c13
    try clear c18
    try clear c24
    try clear MF
    try clear c36
    try clear Kj
    try clear Kk
    try clear JM
    try clear JN
    try clear DC
    try clear DD
    try clear yU
    try clear yV
    try clear JZ
    try clear Ka
    try clear KD
    try clear KE
    try clear tJ
    try clear tK
    try clear a6J
    try clear a6K
    try clear RN
    try clear RO
    try clear Kf
    try clear Kg
    try clear Sb
    try clear Sc
    try clear a6N
    try clear a6O
    try clear KH
    try clear KJ
    try clear Kl
    try clear Km
    try clear JO
    try clear JP
    try clear DF
    try clear DG
    try clear yX
    try clear yY
    try clear Kb
    try clear Ke
    try clear KF
    try clear KG
    try clear tL
    try clear tM
    try clear a6L
    try clear a6M
    try clear RP
    try clear RQ
    try clear Kh
    try clear Ki
    try clear Sd
    try clear Sh
    try clear a6P
    try clear a6Q
    try clear KL
    try clear KM
    obtain ⟨bB,rfl,HA,fI,bI,cG,HB⟩:=hrel
    cases gk with
    |zero=>exact absurd HA.out (by simp [bq.l0])
    |succ k1=>
     have H:=HA.out
     clear HA
     simp only [bq.l0] at H
     by_cases SM:bB<(l0.length:Int)
     ·rw [if_pos SM] at H
      have b3Y:decide (bB<(l0.length:Int))=true:=decide_eq_true SM
      clear SM
      by_cases zH:0<=bB
      ·rw [if_pos zH] at H
       have NG:decide (0<=bB)=true:=decide_eq_true zH
       clear zH
       by_cases Cz:bB<(l0.length:Int)
       ·rw [if_pos Cz] at H
        have Vj:decide (bB<(l0.length:Int))=true:=decide_eq_true Cz
        clear Cz
        by_cases CA:bB<(l1.length:Int)
        ·rw [if_pos CA] at H
         have Vk:decide (bB<(l1.length:Int))=true:=decide_eq_true CA
         clear CA
         replace H:=Option.bind_eq_some_iff.mp H
         obtain ⟨t203,a9X,H⟩:=H
         replace H:(if t203=true then (some true) else ((cw.f ((bh l1 bB).f0) ((bh l1 bB).f1) ((bh l0 bB).f0) ((bh l0 bB).f1)).bind fun t206=>(if t206=true then (some false) else (bq.l0 k1 l0 l1 (l0.length:Int) (wrap64 (bB+1))))))=some r:=H
         have A47:=Aside0.mk a9X
         clear a9X
         by_cases c48:t203=true
         ·subst c48
          have H1:(some true)=some r:=by rw [if_pos rfl] at H;exact H
          clear H
          have H:=H1
          clear H1
          obtain rfl:=Option.some.inj H
          try go_wp2
          have ay:=Aside0.mk (ak bI.out)
          have aA:=Aside0.mk (ak cG.out)
          have aD:=Aside0.mk (bn HB.out)
          clear bI
          clear cG
          clear HB
          have bI:=ay
          have cG:=aA
          have HB:=aD
          clear ay aA aD
          have xg:0<=(bB:Int):=of_decide_eq_true (by first|(with_reducible assumption)|assumption)
          have xh:bB<(l0.length:Int):=of_decide_eq_true (by first|(with_reducible assumption)|assumption)
          obtain ⟨lJ,PW,jq,jr⟩:=iI eL.out bB xg xh
          have lf:=jr
          have lg:=jq
          cases PW
          replace jq:=(HB.out.cell (World.block_lt_of_cell? w _ jq)).trans jq
          replace jr:=(HB.out.cell (World.block_lt_of_cell? w _ jr)).trans jr
          replace xg:=eq_true xg
          replace xh:=eq_true xh
          have xj:0<=(bB:Int):=of_decide_eq_true (by first|(with_reducible assumption)|assumption)
          have xk:bB<(l1.length:Int):=of_decide_eq_true (by first|(with_reducible assumption)|assumption)
          obtain ⟨lK,PX,js,ju⟩:=iI gV.out bB xj xk
          have lp:=ju
          have lq:=js
          cases PX
          replace js:=(HB.out.cell (World.block_lt_of_cell? w _ js)).trans js
          replace ju:=(HB.out.cell (World.block_lt_of_cell? w _ ju)).trans ju
          replace xj:=eq_true xj
          replace xk:=eq_true xk
          refine eG (n:=9) (S:=fun w'=>w'.cell? (lJ.add ((bB).toNat*2))=some (.int .i64 ((bh l0 bB).f0))/\w'.cell? ⟨(lJ.add ((bB).toNat*2)).block,(lJ.add ((bB).toNat*2)).off+1,none⟩=some (.int .i64 ((bh l0 bB).f1))/\w'.cell? (lK.add ((bB).toNat*2))=some (.int .i64 ((bh l1 bB).f0))/\w'.cell? ⟨(lK.add ((bB).toNat*2)).block,(lK.add ((bB).toNat*2)).off+1,none⟩=some (.int .i64 ((bh l1 bB).f1))) (ds:=[]) #[false,false,false,false,false,false,false,false,false] (by kernel_rfl) rfl rfl ⟨((HB.out.cell (World.block_lt_of_cell? w _ lg)).trans lg),((HB.out.cell (World.block_lt_of_cell? w _ lf)).trans lf),((HB.out.cell (World.block_lt_of_cell? w _ lq)).trans lq),((HB.out.cell (World.block_lt_of_cell? w _ lp)).trans lp)⟩ (fun hHeld=>?_);refine jg bq.Vi bq.PV (fun ck nZ=>?_)
          generalize wr.drew=BQ at bI cG HB jq jr js ju hHeld⊢
          refine bZ ck (i:=0) (N:=some 28) ?_
          refine bZ ck (i:=1) (N:=some 29) ?_
          refine bZ ck (i:=2) (N:=some 30) ?_
          refine bZ ck (i:=4) (N:=some 32) ?_
          refine bZ ck (i:=5) (N:=some 33) ?_
          refine bZ ck (i:=6) (N:=some 34) ?_
          refine cE (i:=3) (N:=some 31) (v:=?_) (a':=?_) #[true,true,true,true,true,true,true,false,false] rfl rfl (jF ck.out nZ.out (by kernel_rfl)) (fun _ _ _ h=>h) (Or.inl ⟨by rfl,?_⟩) hHeld ?_ ?_
          rotate_left
          ·rintro w' ⟨s0,s1,s2,s3⟩
           go_simp
           with_reducible rfl
          rotate_left
          ·exact dx
          refine cE (i:=7) (N:=some 35) (v:=?_) (a':=?_) #[true,true,true,true,true,true,true,true,false] rfl rfl (jF ck.out nZ.out (by kernel_rfl)) (fun _ _ _ h=>h) (Or.inl ⟨by rfl,?_⟩) hHeld ?_ ?_
          rotate_left
          ·rintro w' ⟨s0,s1,s2,s3⟩
           go_simp
           with_reducible rfl
          rotate_left
          ·exact dx
          refine fK (i:=8) (N:=some 36) #[true,true,true,true,true,true,true,true,true] rfl rfl (kN ck.out (by kernel_rfl)) (by decide) (fun K hK=>?_)
          refine om Try.func65 (by kernel_rfl) rfl #[.agg #[.int .i64 ((bh l0 bB).f0),.int .i64 ((bh l0 bB).f1)],.agg #[.int .i64 ((bh l1 bB).f0),.int .i64 ((bh l1 bB).f1)]] (by rfl) rfl rfl (by (try simp only [List.map_toArray,List.map_cons,List.map_nil]);first|done|rfl|(simp only [List.length_drop,List.length_take];rfl)) ?_
          with_reducible refine (cw.calls ((bh l0 bB).f0) ((bh l0 bB).f1) ((bh l1 bB).f0) ((bh l1 bB).f1) true _ A47.out).mono ?_
          rintro e w50 ⟨rfl,hb⟩
          refine ⟨_,rfl,?_⟩
          have ay:=Aside0.mk (ah (g:=dQ) (o:= .cells #[.int .i64 t193,.int .i64 t194] 26 (0,0)) (aJ bI) hb)
          have aA:=Aside0.mk (ah (g:=fX) (o:= .cells #[.int .i64 t196,.int .i64 jB] 26 (0,0)) (aJ cG) hb)
          have aD:=Aside0.mk (ai ax hb)
          clear bI
          clear cG
          clear HB
          have bI:=ay
          have cG:=aA
          have HB:=aD
          clear ay aA aD
          (try clear hb)
          (try clear hb2)
          (try clear hk)
          (try clear hi)
          refine hK.out _ _ ⟨((HB.out.cell (World.block_lt_of_cell? w _ lg)).trans lg),((HB.out.cell (World.block_lt_of_cell? w _ lf)).trans lf),((HB.out.cell (World.block_lt_of_cell? w _ lq)).trans lq),((HB.out.cell (World.block_lt_of_cell? w _ lp)).trans lp)⟩ (fun hHeld=>?_)
          clear hK K
          refine eP (a':=?_) ?_ ?_
          rotate_left
          ·show Act.put _ (some 36) _=_
           simp only [Act.put,List.setIfInBounds_toArray,List.set_cons_zero,List.set_cons_succ,cZ,eo]
           rfl
          refine fl (lS ck.out (by kernel_rfl)) ?_
          try go_wp2
          go_ret
          exact ⟨by first|rfl|(simp [aM,aQ]<;>rfl)|(simp [*,aM,aQ]<;>rfl),ax⟩
         ·replace c48:=Bool.eq_false_iff.mpr c48
          subst c48
          have H1:((cw.f ((bh l1 bB).f0) ((bh l1 bB).f1) ((bh l0 bB).f0) ((bh l0 bB).f1)).bind fun t206=>(if t206=true then (some false) else (bq.l0 k1 l0 l1 (l0.length:Int) (wrap64 (bB+1)))))=some r:=by rw [if_neg (show ¬(false=true) by decide)] at H;exact H
          clear H
          have H:=H1
          clear H1
          replace H:=Option.bind_eq_some_iff.mp H
          obtain ⟨t206,a9Z,H⟩:=H
          replace H:(if t206=true then (some false) else (bq.l0 k1 l0 l1 (l0.length:Int) (wrap64 (bB+1))))=some r:=H
          have A51:=Aside0.mk a9Z
          clear a9Z
          by_cases c52:t206=true
          ·subst c52
           have H1:(some false)=some r:=by rw [if_pos rfl] at H;exact H
           clear H
           have H:=H1
           clear H1
           obtain rfl:=Option.some.inj H
           try go_wp2
           have ay:=Aside0.mk (ak bI.out)
           have aA:=Aside0.mk (ak cG.out)
           have aD:=Aside0.mk (bn HB.out)
           clear bI
           clear cG
           clear HB
           have bI:=ay
           have cG:=aA
           have HB:=aD
           clear ay aA aD
           have xg:0<=(bB:Int):=of_decide_eq_true (by first|(with_reducible assumption)|assumption)
           have xh:bB<(l0.length:Int):=of_decide_eq_true (by first|(with_reducible assumption)|assumption)
           obtain ⟨lJ,PW,jq,jr⟩:=iI eL.out bB xg xh
           have lf:=jr
           have lg:=jq
           cases PW
           replace jq:=(HB.out.cell (World.block_lt_of_cell? w _ jq)).trans jq
           replace jr:=(HB.out.cell (World.block_lt_of_cell? w _ jr)).trans jr
           replace xg:=eq_true xg
           replace xh:=eq_true xh
           have xj:0<=(bB:Int):=of_decide_eq_true (by first|(with_reducible assumption)|assumption)
           have xk:bB<(l1.length:Int):=of_decide_eq_true (by first|(with_reducible assumption)|assumption)
           obtain ⟨lK,PX,js,ju⟩:=iI gV.out bB xj xk
           have lp:=ju
           have lq:=js
           cases PX
           replace js:=(HB.out.cell (World.block_lt_of_cell? w _ js)).trans js
           replace ju:=(HB.out.cell (World.block_lt_of_cell? w _ ju)).trans ju
           replace xj:=eq_true xj
           replace xk:=eq_true xk
           refine eG (n:=9) (S:=fun w'=>w'.cell? (lJ.add ((bB).toNat*2))=some (.int .i64 ((bh l0 bB).f0))/\w'.cell? ⟨(lJ.add ((bB).toNat*2)).block,(lJ.add ((bB).toNat*2)).off+1,none⟩=some (.int .i64 ((bh l0 bB).f1))/\w'.cell? (lK.add ((bB).toNat*2))=some (.int .i64 ((bh l1 bB).f0))/\w'.cell? ⟨(lK.add ((bB).toNat*2)).block,(lK.add ((bB).toNat*2)).off+1,none⟩=some (.int .i64 ((bh l1 bB).f1))) (ds:=[]) #[false,false,false,false,false,false,false,false,false] (by kernel_rfl) rfl rfl ⟨((HB.out.cell (World.block_lt_of_cell? w _ lg)).trans lg),((HB.out.cell (World.block_lt_of_cell? w _ lf)).trans lf),((HB.out.cell (World.block_lt_of_cell? w _ lq)).trans lq),((HB.out.cell (World.block_lt_of_cell? w _ lp)).trans lp)⟩ (fun hHeld=>?_);refine jg bq.Vi bq.PV (fun ck nZ=>?_)
           generalize wr.drew=w53 at bI cG HB jq jr js ju hHeld⊢
           refine bZ ck (i:=0) (N:=some 28) ?_
           refine bZ ck (i:=1) (N:=some 29) ?_
           refine bZ ck (i:=2) (N:=some 30) ?_
           refine bZ ck (i:=4) (N:=some 32) ?_
           refine bZ ck (i:=5) (N:=some 33) ?_
           refine bZ ck (i:=6) (N:=some 34) ?_
           refine cE (i:=3) (N:=some 31) (v:=?_) (a':=?_) #[true,true,true,true,true,true,true,false,false] rfl rfl (jF ck.out nZ.out (by kernel_rfl)) (fun _ _ _ h=>h) (Or.inl ⟨by rfl,?_⟩) hHeld ?_ ?_
           rotate_left
           ·rintro w' ⟨s0,s1,s2,s3⟩
            go_simp
            with_reducible rfl
           rotate_left
           ·exact dx
           refine cE (i:=7) (N:=some 35) (v:=?_) (a':=?_) #[true,true,true,true,true,true,true,true,false] rfl rfl (jF ck.out nZ.out (by kernel_rfl)) (fun _ _ _ h=>h) (Or.inl ⟨by rfl,?_⟩) hHeld ?_ ?_
           rotate_left
           ·rintro w' ⟨s0,s1,s2,s3⟩
            go_simp
            with_reducible rfl
           rotate_left
           ·exact dx
           refine fK (i:=8) (N:=some 36) #[true,true,true,true,true,true,true,true,true] rfl rfl (kN ck.out (by kernel_rfl)) (by decide) (fun K hK=>?_)
           refine om Try.func65 (by kernel_rfl) rfl #[.agg #[.int .i64 ((bh l0 bB).f0),.int .i64 ((bh l0 bB).f1)],.agg #[.int .i64 ((bh l1 bB).f0),.int .i64 ((bh l1 bB).f1)]] (by rfl) rfl rfl (by (try simp only [List.map_toArray,List.map_cons,List.map_nil]);first|done|rfl|(simp only [List.length_drop,List.length_take];rfl)) ?_
           with_reducible refine (cw.calls ((bh l0 bB).f0) ((bh l0 bB).f1) ((bh l1 bB).f0) ((bh l1 bB).f1) false _ A47.out).mono ?_
           rintro e w54 ⟨rfl,hb⟩
           refine ⟨_,rfl,?_⟩
           have ay:=Aside0.mk (ah (g:=dQ) (o:= .cells #[.int .i64 t193,.int .i64 t194] 26 (0,0)) (aJ bI) hb)
           have aA:=Aside0.mk (ah (g:=fX) (o:= .cells #[.int .i64 t196,.int .i64 jB] 26 (0,0)) (aJ cG) hb)
           have aD:=Aside0.mk (ai ax hb)
           clear bI
           clear cG
           clear HB
           have bI:=ay
           have cG:=aA
           have HB:=aD
           clear ay aA aD
           (try clear hb)
           (try clear hb2)
           (try clear hk)
           (try clear hi)
           refine hK.out _ _ ⟨((HB.out.cell (World.block_lt_of_cell? w _ lg)).trans lg),((HB.out.cell (World.block_lt_of_cell? w _ lf)).trans lf),((HB.out.cell (World.block_lt_of_cell? w _ lq)).trans lq),((HB.out.cell (World.block_lt_of_cell? w _ lp)).trans lp)⟩ (fun hHeld=>?_)
           clear hK K
           refine eP (a':=?_) ?_ ?_
           rotate_left
           ·show Act.put _ (some 36) _=_
            simp only [Act.put,List.setIfInBounds_toArray,List.set_cons_zero,List.set_cons_succ,cZ,eo]
            rfl
           refine fl (lS ck.out (by kernel_rfl)) ?_
           try go_wp2
           have ay:=Aside0.mk (ak bI.out)
           have aA:=Aside0.mk (ak cG.out)
           have aD:=Aside0.mk (bn HB.out)
           clear bI
           clear cG
           clear HB
           have bI:=ay
           have cG:=aA
           have HB:=aD
           clear ay aA aD
           have FV:0<=(bB:Int):=of_decide_eq_true (by first|(with_reducible assumption)|assumption)
           have FW:bB<(l1.length:Int):=of_decide_eq_true (by first|(with_reducible assumption)|assumption)
           obtain ⟨Vl,a1G,nQ,nR⟩:=iI gV.out bB FV FW
           have ql:=nR
           have qm:=nQ
           obtain rfl:lK=Vl:=(by injection a1G)
           replace nQ:=(HB.out.cell (World.block_lt_of_cell? w _ nQ)).trans nQ
           replace nR:=(HB.out.cell (World.block_lt_of_cell? w _ nR)).trans nR
           replace FV:=eq_true FV
           replace FW:=eq_true FW
           have FX:0<=(bB:Int):=of_decide_eq_true (by first|(with_reducible assumption)|assumption)
           have FY:bB<(l0.length:Int):=of_decide_eq_true (by first|(with_reducible assumption)|assumption)
           obtain ⟨Vm,a1H,nS,nT⟩:=iI eL.out bB FX FY
           have qo:=nT
           have qq:=nS
           obtain rfl:lJ=Vm:=(by injection a1H)
           replace nS:=(HB.out.cell (World.block_lt_of_cell? w _ nS)).trans nS
           replace nT:=(HB.out.cell (World.block_lt_of_cell? w _ nT)).trans nT
           replace FX:=eq_true FX
           replace FY:=eq_true FY
           refine eG (n:=9) (S:=fun w'=>w'.cell? (lK.add ((bB).toNat*2))=some (.int .i64 ((bh l1 bB).f0))/\w'.cell? ⟨(lK.add ((bB).toNat*2)).block,(lK.add ((bB).toNat*2)).off+1,none⟩=some (.int .i64 ((bh l1 bB).f1))/\w'.cell? (lJ.add ((bB).toNat*2))=some (.int .i64 ((bh l0 bB).f0))/\w'.cell? ⟨(lJ.add ((bB).toNat*2)).block,(lJ.add ((bB).toNat*2)).off+1,none⟩=some (.int .i64 ((bh l0 bB).f1))) (ds:=[]) #[false,false,false,false,false,false,false,false,false] (by kernel_rfl) rfl rfl ⟨((HB.out.cell (World.block_lt_of_cell? w _ qm)).trans qm),((HB.out.cell (World.block_lt_of_cell? w _ ql)).trans ql),((HB.out.cell (World.block_lt_of_cell? w _ qq)).trans qq),((HB.out.cell (World.block_lt_of_cell? w _ qo)).trans qo)⟩ (fun hHeld=>?_);refine jg bq.a4m bq.Yw (fun ck nZ=>?_)
           generalize w54.drew=w55 at bI cG HB nQ nR nS nT hHeld⊢
           refine bZ ck (i:=0) (N:=some 37) ?_
           refine bZ ck (i:=1) (N:=some 38) ?_
           refine bZ ck (i:=2) (N:=some 39) ?_
           refine bZ ck (i:=4) (N:=some 41) ?_
           refine bZ ck (i:=5) (N:=some 42) ?_
           refine bZ ck (i:=6) (N:=some 43) ?_
           refine cE (i:=3) (N:=some 40) (v:=?_) (a':=?_) #[true,true,true,true,true,true,true,false,false] rfl rfl (jF ck.out nZ.out (by kernel_rfl)) (fun _ _ _ h=>h) (Or.inl ⟨by rfl,?_⟩) hHeld ?_ ?_
           rotate_left
           ·rintro w' ⟨s0,s1,s2,s3⟩
            go_simp
            with_reducible rfl
           rotate_left
           ·exact dx
           refine cE (i:=7) (N:=some 44) (v:=?_) (a':=?_) #[true,true,true,true,true,true,true,true,false] rfl rfl (jF ck.out nZ.out (by kernel_rfl)) (fun _ _ _ h=>h) (Or.inl ⟨by rfl,?_⟩) hHeld ?_ ?_
           rotate_left
           ·rintro w' ⟨s0,s1,s2,s3⟩
            go_simp
            with_reducible rfl
           rotate_left
           ·exact dx
           refine fK (i:=8) (N:=some 45) #[true,true,true,true,true,true,true,true,true] rfl rfl (kN ck.out (by kernel_rfl)) (by decide) (fun K hK=>?_)
           refine om Try.func65 (by kernel_rfl) rfl #[.agg #[.int .i64 ((bh l1 bB).f0),.int .i64 ((bh l1 bB).f1)],.agg #[.int .i64 ((bh l0 bB).f0),.int .i64 ((bh l0 bB).f1)]] (by rfl) rfl rfl (by (try simp only [List.map_toArray,List.map_cons,List.map_nil]);first|done|rfl|(simp only [List.length_drop,List.length_take];rfl)) ?_
           with_reducible refine (cw.calls ((bh l1 bB).f0) ((bh l1 bB).f1) ((bh l0 bB).f0) ((bh l0 bB).f1) true _ A51.out).mono ?_
           rintro e w56 ⟨rfl,hb⟩
           refine ⟨_,rfl,?_⟩
           have ay:=Aside0.mk (ah (g:=dQ) (o:= .cells #[.int .i64 t193,.int .i64 t194] 26 (0,0)) (aJ bI) hb)
           have aA:=Aside0.mk (ah (g:=fX) (o:= .cells #[.int .i64 t196,.int .i64 jB] 26 (0,0)) (aJ cG) hb)
           have aD:=Aside0.mk (ai ax hb)
           clear bI
           clear cG
           clear HB
           have bI:=ay
           have cG:=aA
           have HB:=aD
           clear ay aA aD
           (try clear hb)
           (try clear hb2)
           (try clear hk)
           (try clear hi)
           refine hK.out _ _ ⟨((HB.out.cell (World.block_lt_of_cell? w _ qm)).trans qm),((HB.out.cell (World.block_lt_of_cell? w _ ql)).trans ql),((HB.out.cell (World.block_lt_of_cell? w _ qq)).trans qq),((HB.out.cell (World.block_lt_of_cell? w _ qo)).trans qo)⟩ (fun hHeld=>?_)
           clear hK K
           refine eP (a':=?_) ?_ ?_
           rotate_left
           ·show Act.put _ (some 45) _=_
            simp only [Act.put,List.setIfInBounds_toArray,List.set_cons_zero,List.set_cons_succ,cZ,eo]
            rfl
           refine fl (lS ck.out (by kernel_rfl)) ?_
           try go_wp2
           go_ret
           exact ⟨by first|rfl|(simp [aM,aQ]<;>rfl)|(simp [*,aM,aQ]<;>rfl),ax⟩
          ·replace c52:=Bool.eq_false_iff.mpr c52
           subst c52
           have H1:(bq.l0 k1 l0 l1 (l0.length:Int) (wrap64 (bB+1)))=some r:=by rw [if_neg (show ¬(false=true) by decide)] at H;exact H
           clear H
           have H:=H1
           clear H1
           have H':=Aside0.mk H
           clear H
           try go_wp2
           have ay:=Aside0.mk (ak bI.out)
           have aA:=Aside0.mk (ak cG.out)
           have aD:=Aside0.mk (bn HB.out)
           clear bI
           clear cG
           clear HB
           have bI:=ay
           have cG:=aA
           have HB:=aD
           clear ay aA aD
           have xg:0<=(bB:Int):=of_decide_eq_true (by first|(with_reducible assumption)|assumption)
           have xh:bB<(l0.length:Int):=of_decide_eq_true (by first|(with_reducible assumption)|assumption)
           obtain ⟨lJ,PW,jq,jr⟩:=iI eL.out bB xg xh
           have lf:=jr
           have lg:=jq
           cases PW
           replace jq:=(HB.out.cell (World.block_lt_of_cell? w _ jq)).trans jq
           replace jr:=(HB.out.cell (World.block_lt_of_cell? w _ jr)).trans jr
           replace xg:=eq_true xg
           replace xh:=eq_true xh
           have xj:0<=(bB:Int):=of_decide_eq_true (by first|(with_reducible assumption)|assumption)
           have xk:bB<(l1.length:Int):=of_decide_eq_true (by first|(with_reducible assumption)|assumption)
           obtain ⟨lK,PX,js,ju⟩:=iI gV.out bB xj xk
           have lp:=ju
           have lq:=js
           cases PX
           replace js:=(HB.out.cell (World.block_lt_of_cell? w _ js)).trans js
           replace ju:=(HB.out.cell (World.block_lt_of_cell? w _ ju)).trans ju
           replace xj:=eq_true xj
           replace xk:=eq_true xk
           refine eG (n:=9) (S:=fun w'=>w'.cell? (lJ.add ((bB).toNat*2))=some (.int .i64 ((bh l0 bB).f0))/\w'.cell? ⟨(lJ.add ((bB).toNat*2)).block,(lJ.add ((bB).toNat*2)).off+1,none⟩=some (.int .i64 ((bh l0 bB).f1))/\w'.cell? (lK.add ((bB).toNat*2))=some (.int .i64 ((bh l1 bB).f0))/\w'.cell? ⟨(lK.add ((bB).toNat*2)).block,(lK.add ((bB).toNat*2)).off+1,none⟩=some (.int .i64 ((bh l1 bB).f1))) (ds:=[]) #[false,false,false,false,false,false,false,false,false] (by kernel_rfl) rfl rfl ⟨((HB.out.cell (World.block_lt_of_cell? w _ lg)).trans lg),((HB.out.cell (World.block_lt_of_cell? w _ lf)).trans lf),((HB.out.cell (World.block_lt_of_cell? w _ lq)).trans lq),((HB.out.cell (World.block_lt_of_cell? w _ lp)).trans lp)⟩ (fun hHeld=>?_);refine jg bq.Vi bq.PV (fun ck nZ=>?_)
           generalize wr.drew=w57 at bI cG HB jq jr js ju hHeld⊢
           refine bZ ck (i:=0) (N:=some 28) ?_
           refine bZ ck (i:=1) (N:=some 29) ?_
           refine bZ ck (i:=2) (N:=some 30) ?_
           refine bZ ck (i:=4) (N:=some 32) ?_
           refine bZ ck (i:=5) (N:=some 33) ?_
           refine bZ ck (i:=6) (N:=some 34) ?_
           refine cE (i:=3) (N:=some 31) (v:=?_) (a':=?_) #[true,true,true,true,true,true,true,false,false] rfl rfl (jF ck.out nZ.out (by kernel_rfl)) (fun _ _ _ h=>h) (Or.inl ⟨by rfl,?_⟩) hHeld ?_ ?_
           rotate_left
           ·rintro w' ⟨s0,s1,s2,s3⟩
            go_simp
            with_reducible rfl
           rotate_left
           ·exact dx
           refine cE (i:=7) (N:=some 35) (v:=?_) (a':=?_) #[true,true,true,true,true,true,true,true,false] rfl rfl (jF ck.out nZ.out (by kernel_rfl)) (fun _ _ _ h=>h) (Or.inl ⟨by rfl,?_⟩) hHeld ?_ ?_
           rotate_left
           ·rintro w' ⟨s0,s1,s2,s3⟩
            go_simp
            with_reducible rfl
           rotate_left
           ·exact dx
           refine fK (i:=8) (N:=some 36) #[true,true,true,true,true,true,true,true,true] rfl rfl (kN ck.out (by kernel_rfl)) (by decide) (fun K hK=>?_)
           refine om Try.func65 (by kernel_rfl) rfl #[.agg #[.int .i64 ((bh l0 bB).f0),.int .i64 ((bh l0 bB).f1)],.agg #[.int .i64 ((bh l1 bB).f0),.int .i64 ((bh l1 bB).f1)]] (by rfl) rfl rfl (by (try simp only [List.map_toArray,List.map_cons,List.map_nil]);first|done|rfl|(simp only [List.length_drop,List.length_take];rfl)) ?_
           with_reducible refine (cw.calls ((bh l0 bB).f0) ((bh l0 bB).f1) ((bh l1 bB).f0) ((bh l1 bB).f1) false _ A47.out).mono ?_
           rintro e w58 ⟨rfl,hb⟩
           refine ⟨_,rfl,?_⟩
           have ay:=Aside0.mk (ah (g:=dQ) (o:= .cells #[.int .i64 t193,.int .i64 t194] 26 (0,0)) (aJ bI) hb)
           have aA:=Aside0.mk (ah (g:=fX) (o:= .cells #[.int .i64 t196,.int .i64 jB] 26 (0,0)) (aJ cG) hb)
           have aD:=Aside0.mk (ai ax hb)
           clear bI
           clear cG
           clear HB
           have bI:=ay
           have cG:=aA
           have HB:=aD
           clear ay aA aD
           (try clear hb)
           (try clear hb2)
           (try clear hk)
           (try clear hi)
           refine hK.out _ _ ⟨((HB.out.cell (World.block_lt_of_cell? w _ lg)).trans lg),((HB.out.cell (World.block_lt_of_cell? w _ lf)).trans lf),((HB.out.cell (World.block_lt_of_cell? w _ lq)).trans lq),((HB.out.cell (World.block_lt_of_cell? w _ lp)).trans lp)⟩ (fun hHeld=>?_)
           clear hK K
           refine eP (a':=?_) ?_ ?_
           rotate_left
           ·show Act.put _ (some 36) _=_
            simp only [Act.put,List.setIfInBounds_toArray,List.set_cons_zero,List.set_cons_succ,cZ,eo]
            rfl
           refine fl (lS ck.out (by kernel_rfl)) ?_
           try go_wp2
           have ay:=Aside0.mk (ak bI.out)
           have aA:=Aside0.mk (ak cG.out)
           have aD:=Aside0.mk (bn HB.out)
           clear bI
           clear cG
           clear HB
           have bI:=ay
           have cG:=aA
           have HB:=aD
           clear ay aA aD
           have FV:0<=(bB:Int):=of_decide_eq_true (by first|(with_reducible assumption)|assumption)
           have FW:bB<(l1.length:Int):=of_decide_eq_true (by first|(with_reducible assumption)|assumption)
           obtain ⟨Vl,a1G,nQ,nR⟩:=iI gV.out bB FV FW
           have ql:=nR
           have qm:=nQ
           obtain rfl:lK=Vl:=(by injection a1G)
           replace nQ:=(HB.out.cell (World.block_lt_of_cell? w _ nQ)).trans nQ
           replace nR:=(HB.out.cell (World.block_lt_of_cell? w _ nR)).trans nR
           replace FV:=eq_true FV
           replace FW:=eq_true FW
           have FX:0<=(bB:Int):=of_decide_eq_true (by first|(with_reducible assumption)|assumption)
           have FY:bB<(l0.length:Int):=of_decide_eq_true (by first|(with_reducible assumption)|assumption)
           obtain ⟨Vm,a1H,nS,nT⟩:=iI eL.out bB FX FY
           have qo:=nT
           have qq:=nS
           obtain rfl:lJ=Vm:=(by injection a1H)
           replace nS:=(HB.out.cell (World.block_lt_of_cell? w _ nS)).trans nS
           replace nT:=(HB.out.cell (World.block_lt_of_cell? w _ nT)).trans nT
           replace FX:=eq_true FX
           replace FY:=eq_true FY
           refine eG (n:=9) (S:=fun w'=>w'.cell? (lK.add ((bB).toNat*2))=some (.int .i64 ((bh l1 bB).f0))/\w'.cell? ⟨(lK.add ((bB).toNat*2)).block,(lK.add ((bB).toNat*2)).off+1,none⟩=some (.int .i64 ((bh l1 bB).f1))/\w'.cell? (lJ.add ((bB).toNat*2))=some (.int .i64 ((bh l0 bB).f0))/\w'.cell? ⟨(lJ.add ((bB).toNat*2)).block,(lJ.add ((bB).toNat*2)).off+1,none⟩=some (.int .i64 ((bh l0 bB).f1))) (ds:=[]) #[false,false,false,false,false,false,false,false,false] (by kernel_rfl) rfl rfl ⟨((HB.out.cell (World.block_lt_of_cell? w _ qm)).trans qm),((HB.out.cell (World.block_lt_of_cell? w _ ql)).trans ql),((HB.out.cell (World.block_lt_of_cell? w _ qq)).trans qq),((HB.out.cell (World.block_lt_of_cell? w _ qo)).trans qo)⟩ (fun hHeld=>?_);refine jg bq.a4m bq.Yw (fun ck nZ=>?_)
           generalize w58.drew=w59 at bI cG HB nQ nR nS nT hHeld⊢
           refine bZ ck (i:=0) (N:=some 37) ?_
           refine bZ ck (i:=1) (N:=some 38) ?_
           refine bZ ck (i:=2) (N:=some 39) ?_
           refine bZ ck (i:=4) (N:=some 41) ?_
           refine bZ ck (i:=5) (N:=some 42) ?_
           refine bZ ck (i:=6) (N:=some 43) ?_
           refine cE (i:=3) (N:=some 40) (v:=?_) (a':=?_) #[true,true,true,true,true,true,true,false,false] rfl rfl (jF ck.out nZ.out (by kernel_rfl)) (fun _ _ _ h=>h) (Or.inl ⟨by rfl,?_⟩) hHeld ?_ ?_
           rotate_left
           ·rintro w' ⟨s0,s1,s2,s3⟩
            go_simp
            with_reducible rfl
           rotate_left
           ·exact dx
           refine cE (i:=7) (N:=some 44) (v:=?_) (a':=?_) #[true,true,true,true,true,true,true,true,false] rfl rfl (jF ck.out nZ.out (by kernel_rfl)) (fun _ _ _ h=>h) (Or.inl ⟨by rfl,?_⟩) hHeld ?_ ?_
           rotate_left
           ·rintro w' ⟨s0,s1,s2,s3⟩
            go_simp
            with_reducible rfl
           rotate_left
           ·exact dx
           refine fK (i:=8) (N:=some 45) #[true,true,true,true,true,true,true,true,true] rfl rfl (kN ck.out (by kernel_rfl)) (by decide) (fun K hK=>?_)
           refine om Try.func65 (by kernel_rfl) rfl #[.agg #[.int .i64 ((bh l1 bB).f0),.int .i64 ((bh l1 bB).f1)],.agg #[.int .i64 ((bh l0 bB).f0),.int .i64 ((bh l0 bB).f1)]] (by rfl) rfl rfl (by (try simp only [List.map_toArray,List.map_cons,List.map_nil]);first|done|rfl|(simp only [List.length_drop,List.length_take];rfl)) ?_
           with_reducible refine (cw.calls ((bh l1 bB).f0) ((bh l1 bB).f1) ((bh l0 bB).f0) ((bh l0 bB).f1) false _ A51.out).mono ?_
           rintro e w60 ⟨rfl,hb⟩
           refine ⟨_,rfl,?_⟩
           have ay:=Aside0.mk (ah (g:=dQ) (o:= .cells #[.int .i64 t193,.int .i64 t194] 26 (0,0)) (aJ bI) hb)
           have aA:=Aside0.mk (ah (g:=fX) (o:= .cells #[.int .i64 t196,.int .i64 jB] 26 (0,0)) (aJ cG) hb)
           have aD:=Aside0.mk (ai ax hb)
           clear bI
           clear cG
           clear HB
           have bI:=ay
           have cG:=aA
           have HB:=aD
           clear ay aA aD
           (try clear hb)
           (try clear hb2)
           (try clear hk)
           (try clear hi)
           refine hK.out _ _ ⟨((HB.out.cell (World.block_lt_of_cell? w _ qm)).trans qm),((HB.out.cell (World.block_lt_of_cell? w _ ql)).trans ql),((HB.out.cell (World.block_lt_of_cell? w _ qq)).trans qq),((HB.out.cell (World.block_lt_of_cell? w _ qo)).trans qo)⟩ (fun hHeld=>?_)
           clear hK K
           refine eP (a':=?_) ?_ ?_
           rotate_left
           ·show Act.put _ (some 45) _=_
            simp only [Act.put,List.setIfInBounds_toArray,List.set_cons_zero,List.set_cons_succ,cZ,eo]
            rfl
           refine fl (lS ck.out (by kernel_rfl)) ?_
           try go_wp2
           go_roundg k1
           case measure=>have:=fI.out;omega
           case rel=>exact ⟨(wrap64 (bB+1)),(by first|rfl|(simp;done)|(simp [*];done)),H',⟨by have:=fI.out;omega⟩,⟨by (with_reducible repeat (first|refine au ?_ _|refine ak ?_|refine aq ?_ _));exact bI.out⟩,⟨by (with_reducible repeat (first|refine au ?_ _|refine ak ?_|refine aq ?_ _));exact cG.out⟩,⟨ax⟩⟩
        ·rw [if_neg CA] at H
         exact absurd H (by simp)
       ·rw [if_neg Cz] at H
        exact absurd H (by simp)
      ·rw [if_neg zH] at H
       exact absurd H (by simp)
     ·rw [if_neg SM] at H
      have b3Y:decide (bB<(l0.length:Int))=false:=decide_eq_false SM
      clear SM
      obtain rfl:=Option.some.inj H
      go_wp2
      go_ret
      exact ⟨by first|rfl|(simp [aM,aQ]<;>rfl)|(simp [*,aM,aQ]<;>rfl),ax⟩
end Go.Proofs.Ytnhknojfpjheoaa.P
namespace Go.Proofs.Ytnhknojfpjheoaa.PT
open Go.RowKit Go.Proofs.Ytnhknojfpjheoaa.P Go.Proofs.YtnhknojfpjheoaaW.PrintWords Go.Proofs.YtnhknojfpjheoaaW.PrintLast Go.Proofs.Ytnhknojfpjheoaa.EvKit Go.Proofs.Ytnhknojfpjheoaa.Num Go.Proofs.Ytnhknojfpjheoaa.Lp
set_option linter.all false
abbrev q2 (q:Rat):bV:=⟨q.num,(q.den:Int)⟩
def LQ (n:Nat) (x:Nat->Rat):List bV:=(List.range n).map (fun c=>q2 (x c))
theorem jw (n:Nat) (x:Nat->Rat):(LQ n x).length=n:=by simp [LQ]
theorem AJ {n i:Nat} (x:Nat->Rat) (h:i<n):bh (LQ n x) (i:Int)=q2 (x i):=by
 show (LQ n x).getD (i:Int).toNat _=_
 rw [Int.toNat_natCast,List.getD_eq_getElem?_getD]
 simp [LQ,h]
theorem a1I {n:Nat} {x y:Nat->Rat} (h:∀j,j<n->x j=y j):LQ n x=LQ n y:=
 List.map_congr_left (fun c hc=>by rw [h c (List.mem_range.1 hc)])
theorem pU {n:Nat} {f g:Nat->Rat} (h:∀j,j<n->f j=g j):S n f=S n g:=Lp.dD h
def Cm (n:Nat) (x:Nat->Rat):Prop:=∃d:Int,d≠0/\d.natAbs<=1680/\∀c,c<n->∃a:Int,x c*(d:Rat)=(a:Rat)/\a.natAbs<=1680
def rF (x:Nat->Rat):List Int->Rat->Rat
 | [],s=>s
 |i::r,s=>rF x r (s+x i.toNat)
def iL (x:Nat->Rat) (d:cC):Bool:=if d.f1=true then !decide (((d.f2:Int):Rat)<rF x d.f0 0) else !decide (rF x d.f0 0<((d.f2:Int):Rat))
def lexB (x y:Nat->Rat):Nat->Nat->Bool
 |0,_=>false
 |d+1,i=>if x i<y i then true else if y i<x i then false else lexB x y d (i+1)
def gN (n:Nat) (x y:Nat->Rat) (most:Bool):Bool:=if S n x<S n y then !most else if S n y<S n x then most else lexB x y n 0
theorem a1J {b:Int} (h:b=0∨b=1):((b:Int):Rat).num=b/\((b:Int):Rat).den=1:=by
 rcases h with h|h<;>rw [h]<;>exact ⟨rfl,rfl⟩
theorem xW {d a:Int} {q:Rat} {b:Nat} (hd:d≠0) (hdb:d.natAbs<=1680) (e:q*(d:Rat)=(a:Rat)) (ha:a.natAbs<=b):Sz b 1680 q:=Qu.sz (Qu.AE hd ha hdb e)
theorem a1K {n:Nat} {x:Nat->Rat} {d:cC} (hd:jN (n:Int) d=true) (hn:n<=7) {D:Int} (hD:D≠0) (uO:D.natAbs<=1680) (hx:∀c,c<n->∃a:Int,x c*(D:Rat)=(a:Rat)/\a.natAbs<=1680):
 ∀m i,i+m=d.f0.length->∀(s:Rat) (A:Int),s*(D:Rat)=(A:Rat)->A.natAbs<=i*1680->Ev (fun k=>dg.l0 k (LQ n x) d.f0 (d.f0.length:Int) (i:Int) d.f0 d.f1 d.f2 s.num (s.den:Int)) (if d.f1=true then !decide (((d.f2:Int):Rat)<rF x (d.f0.drop i) s) else !decide (rF x (d.f0.drop i) s<((d.f2:Int):Rat))):=by
 obtain ⟨hl,hat,hb⟩:=sF.1 hd
 intro m
 induction m with
 |zero=>
  intro i hi s A hs hA
  refine Ev.succ ?_
  simp only [dg.l0,if_neg (show ¬((i:Int)<(d.f0.length:Int)) by omega)]
  rw [List.drop_of_length_le (by omega)]
  simp only [rF]
  have hsz:Sz 1761607680 1680 s:=xW hD uO hs (by omega)
  have hbq:=a1J hb
  have hbz:Sz 1 1 ((d.f2:Int):Rat):=⟨by rw [hbq.1];rcases hb with h|h<;>rw [h]<;>decide,by rw [hbq.2];decide⟩
  have e1:=wq hbz hsz (by decide)
  have e2:=wq hsz hbz (by decide)
  rw [hbq.1,hbq.2] at e1 e2
  by_cases hu:d.f1=true
  ·simp only [if_pos hu]
   exact Ev.congr (fun k=>by
    show (cw.f d.f2 1 s.num (s.den:Int)).bind _=some _
    rw [show (1:Int)=((1:Nat):Int) from rfl,e1];rfl) (Ev.now _)
  ·simp only [if_neg hu]
   exact Ev.congr (fun k=>by
    show (cw.f s.num (s.den:Int) d.f2 1).bind _=some _
    rw [show (1:Int)=((1:Nat):Int) from rfl,e2];rfl) (Ev.now _)
 |succ m ih=>
  intro i hi s A hs hA
  have hlt:i<d.f0.length:=by omega
  have hm:=hat _ (List.getElem_mem hlt)
  have hj:(d.f0[i]).toNat<n:=by omega
  obtain ⟨a,ha1,ha2⟩:=hx _ hj
  have hsz:Sz 1761607680 1680 s:=xW hD uO hs (by omega)
  have hxz:Sz 1680 1680 (x (d.f0[i]).toNat):=xW hD uO ha1 ha2
  refine Ev.succ ?_
  have hrd:bh (LQ n x) (d.f0[i])=q2 (x (d.f0[i]).toNat):=by
   have:=AJ x hj
   rwa [Int.toNat_of_nonneg hm.1] at this
  simp only [dg.l0,if_pos (show ((i:Int)<(d.f0.length:Int)) by omega),if_pos (show (0:Int)<=(i:Int) by omega),qa hlt,if_pos hm.1,jw,if_pos hm.2,hrd,eD (show i<=9223372036854775806 by omega)]
  rw [yK hlt]
  simp only [rF]
  exact Ev.bind (Si hsz hxz (by decide) (by decide)) (ih (i+1) (by omega) (s+x (d.f0[i]).toNat) (A+a) (by rw [Rat.intCast_add,<-hs,<-ha1];grind) (by omega))
theorem a1L {n:Nat} {x:Nat->Rat} {d:cC} (hd:jN (n:Int) d=true) (hn:n<=7) (hx:Cm n x):Ev (fun k=>dg.f k (LQ n x) d.f0 d.f1 d.f2) (iL x d):=by
 obtain ⟨D,hD,uO,hx⟩:=hx
 have:=a1K hd hn hD uO hx d.f0.length 0 (by omega) 0 0 (by grind) (by omega)
 rw [List.drop_zero] at this
 exact this
theorem b0a {n:Nat} {x:Nat->Rat} (hn:n<=7) {D:Int} (hD:D≠0) (uO:D.natAbs<=1680) (hx:∀c,c<n->∃a:Int,x c*(D:Rat)=(a:Rat)/\a.natAbs<=1680):
 ∀m i,i+m=n->∀A:Int,S i x*(D:Rat)=(A:Rat)->A.natAbs<=i*1680->Ev (fun k=>bM.l0 k (LQ n x) (n:Int) (i:Int) (S i x).num ((S i x).den:Int)) ((S n x).num,((S n x).den:Int))/\Sz 11760 1680 (S n x):=by
 intro m
 induction m with
 |zero=>
  intro i hi A hs hA
  have e:i=n:=by omega
  subst e
  refine ⟨?_,xW hD uO hs (by omega)⟩
  refine Ev.succ ?_
  simp only [bM.l0,if_neg (show ¬((i:Int)<(i:Int)) by omega)]
  exact Ev.now _
 |succ m ih=>
  intro i hi A hs hA
  have hlt:i<n:=by omega
  obtain ⟨a,ha1,ha2⟩:=hx _ hlt
  have hsz:Sz 11760 1680 (S i x):=xW hD uO hs (by omega)
  have hxz:Sz 1680 1680 (x i):=xW hD uO ha1 ha2
  have hnext:=ih (i+1) (by omega) (A+a) (by show (S i x+x i)*_=_;rw [Rat.intCast_add,<-hs,<-ha1];grind) (by omega)
  refine ⟨?_,hnext.2⟩
  refine Ev.succ ?_
  simp only [bM.l0,if_pos (show ((i:Int)<(n:Int)) by omega),if_pos (show (0:Int)<=(i:Int) by omega),jw,AJ x hlt,eD (show i<=9223372036854775806 by omega)]
  exact Ev.bind (Si hsz hxz (by decide) (by decide)) hnext.1
theorem PY {n:Nat} {x:Nat->Rat} (hn:n<=7) (hx:Cm n x):Ev (fun k=>bM.f k (LQ n x)) ((S n x).num,((S n x).den:Int))/\Sz 11760 1680 (S n x):=by
 obtain ⟨D,hD,uO,hx⟩:=hx
 have:=b0a hn hD uO hx n 0 (by omega) 0 (by show (0:Rat)*_=_;grind) (by omega)
 refine ⟨?_,this.2⟩
 unfold bM.f
 rw [jw]
 exact this.1
theorem b0b {n:Nat} {x y:Nat->Rat} (hn:n<=7) (hx:Cm n x) (hy:Cm n y):∀m i,i+m=n->Ev (fun k=>bq.l0 k (LQ n x) (LQ n y) (n:Int) (i:Int)) (lexB x y m i):=by
 obtain ⟨D,hD,uO,hx⟩:=hx
 obtain ⟨E,hE,hEb,hy⟩:=hy
 intro m
 induction m with
 |zero=>
  intro i hi
  refine Ev.succ ?_
  simp only [bq.l0,if_neg (show ¬((i:Int)<(n:Int)) by omega),lexB]
  exact Ev.now _
 |succ m ih=>
  intro i hi
  have hlt:i<n:=by omega
  obtain ⟨a,ha1,ha2⟩:=hx _ hlt
  obtain ⟨b,hb1,hb2⟩:=hy _ hlt
  have hxz:Sz 1680 1680 (x i):=xW hD uO ha1 ha2
  have hyz:Sz 1680 1680 (y i):=xW hE hEb hb1 hb2
  refine Ev.succ ?_
  simp only [bq.l0,if_pos (show ((i:Int)<(n:Int)) by omega),if_pos (show (0:Int)<=(i:Int) by omega),jw,AJ x hlt,AJ y hlt,eD (show i<=9223372036854775806 by omega),wq hxz hyz (by decide),wq hyz hxz (by decide),lexB]
  refine Ev.val rfl ?_
  by_cases h1:x i<y i
  ·simp only [decide_eq_true h1,if_pos h1,if_true];exact Ev.now _
  ·simp only [decide_eq_false h1,if_neg h1,Bool.false_eq_true,if_false]
   refine Ev.val rfl ?_
   by_cases h2:y i<x i
   ·simp only [decide_eq_true h2,if_pos h2,if_true];exact Ev.now _
   ·simp only [decide_eq_false h2,if_neg h2,Bool.false_eq_true,if_false]
    exact ih (i+1) (by omega)
theorem Yx {n:Nat} {x y:Nat->Rat} (hn:n<=7) (hx:Cm n x) (hy:Cm n y) (most:Bool):Ev (fun k=>bq.f k (LQ n x) (LQ n y) most) (gN n x y most):=by
 obtain ⟨e1,z1⟩:=PY hn hx
 obtain ⟨e2,z2⟩:=PY hn hy
 unfold bq.f gN
 refine Ev.bind e1 (Ev.bind e2 ?_)
 simp only [wq z1 z2 (by decide),wq z2 z1 (by decide),jw]
 refine Ev.val rfl ?_
 by_cases h1:S n x<S n y
 ·simp only [decide_eq_true h1,if_pos h1,if_true];exact Ev.now _
 ·simp only [decide_eq_false h1,if_neg h1,Bool.false_eq_true,if_false]
  refine Ev.val rfl ?_
  by_cases h2:S n y<S n x
  ·simp only [decide_eq_true h2,if_pos h2,if_true];exact Ev.now _
  ·simp only [decide_eq_false h2,if_neg h2,Bool.false_eq_true,if_false]
   exact b0b hn hx hy n 0 (by omega)
abbrev oU (R:Nat->Nat->Rat) (n:Nat):Nat->Rat:=fun c=>R c n/R c c
def kz (n:Nat) (all:List cC) (most:Bool) (ch:List cC) (best:Option (Nat->Rat)):Option (Nat->Rat):=
 match fZ n (gQ ch n) n with
 |none=>best
 |some R=>if all.all (iL (oU R n))=true then (match best with|none=>some (oU R n)|some b=>if gN n (oU R n) b most=true then some (oU R n) else some b) else best
def fP (n:Nat) (all:List cC) (most:Bool):Nat->List cC->Option (Nat->Rat)->Option (Nat->Rat)
 |0,ch,best=>if ch.length=n then kz n all most ch best else best
 |d+1,ch,best=>if ch.length=n then kz n all most ch best else if d+1<n - ch.length then best else fP n all most d ch (fP n all most d (ch++[all.getD (all.length -(d+1)) z49]) best)
def SN (n:Nat) (o:Option (Nat->Rat)):Prop:=∀x,o=some x->Cm n x
def qu (n:Nat) (o:Option (Nat->Rat)):List bV:=match o with|none=>[]|some x=>LQ n x
theorem Yy {n:Nat} {ch:List cC} (hch:ch.all (jN (n:Int))=true) (hl:ch.length=n) (hn:n<=7) {R:Nat->Nat->Rat} (h:fZ n (gQ ch n) n=some R):Cm n (oU R n):=by
 have hM:∀i j,i<n->j<=n->gQ ch n i j=0∨gQ ch n i j=1:=by
  intro i j hi hj
  have:=PU hch i j (by omega) (by omega)
  rwa [hl] at this
 exact (Yt hM hn R h).2
theorem SP {n:Nat} {all ch:List cC} {most:Bool} {best:Option (Nat->Rat)} (hch:ch.all (jN (n:Int))=true) (hl:ch.length=n) (hn:n<=7) (hb:SN n best):SN n (kz n all most ch best):=by
 intro x hx
 unfold kz at hx
 cases h:fZ n (gQ ch n) n with
 |none=>rw [h] at hx;exact hb x hx
 |some R=>
  rw [h] at hx
  have hs:=Yy hch hl hn h
  simp only at hx
  split at hx
  ·cases best with
   |none=>simp only [Option.some.injEq] at hx;rw [<-hx];exact hs
   |some b=>
    simp only at hx
    split at hx
    ·simp only [Option.some.injEq] at hx;rw [<-hx];exact hs
    ·exact hb x hx
  ·exact hb x hx
theorem DU {n:Nat} {all:List cC} {most:Bool} (hall:all.all (jN (n:Int))=true) (hn:n<=7):∀d ch best,d<=all.length->ch.all (jN (n:Int))=true->SN n best->SN n (fP n all most d ch best)
 |0,ch,best,_,hch,hb=>by
  simp only [fP]
  split
  ·next h=>exact SP hch h hn hb
  ·exact hb
 |d+1,ch,best,hd,hch,hb=>by
  simp only [fP]
  split
  ·next h=>exact SP hch h hn hb
  ·split
   ·exact hb
   ·refine DU hall hn d ch _ (by omega) hch (DU hall hn d _ best (by omega) ?_ hb)
    rw [List.all_append,hch]
    have hlt:all.length -(d+1)<all.length:=by omega
    have:all.getD (all.length -(d+1)) z49=all[all.length -(d+1)]:=by simp [List.getD_eq_getElem?_getD,hlt]
    rw [this]
    simp only [List.all_cons,List.all_nil,Bool.and_true,Bool.true_and]
    exact List.all_eq_true.1 hall _ (List.getElem_mem hlt)
theorem MG (x y:Nat->Rat):∀d i,(lexB x y d i=true↔∃k,i<=k/\k<i+d/\(∀j,i<=j->j<k->x j=y j)/\x k<y k)
 |0,i=>by
  simp only [lexB]
  constructor
  ·intro h;exact absurd h (by decide)
  ·rintro ⟨k,h1,h2,_⟩;omega
 |d+1,i=>by
  simp only [lexB]
  by_cases h1:x i<y i
  ·rw [if_pos h1]
   exact ⟨fun _=>⟨i,Nat.le_refl _,by omega,fun j h2 h3=>by omega,h1⟩,fun _=>rfl⟩
  ·rw [if_neg h1]
   by_cases h2:y i<x i
   ·rw [if_pos h2]
    constructor
    ·intro h;exact absurd h (by decide)
    ·rintro ⟨k,h3,h4,h5,h6⟩
     by_cases e:k=i
     ·rw [e] at h6;exact absurd h6 h1
     ·have:=h5 i (Nat.le_refl _) (by omega);rw [this] at h2;grind
   ·rw [if_neg h2,MG x y d (i+1)]
    constructor
    ·rintro ⟨k,h3,h4,h5,h6⟩
     exact ⟨k,by omega,by omega,fun j h7 h8=>by
      by_cases e:j=i
      ·rw [e];grind
      ·exact h5 j (by omega) h8,h6⟩
    ·rintro ⟨k,h3,h4,h5,h6⟩
     have:k≠i:=fun e=>by rw [e] at h6;exact h1 h6
     exact ⟨k,by omega,by omega,fun j h7 h8=>h5 j (by omega) h8,h6⟩
def ie (most:Bool):Rat:=if most=true then ((-1:Int):Rat) else ((1:Int):Rat)
theorem vW {n:Nat} {x y:Nat->Rat} {most:Bool}:gN n x y most=true↔eW (n+1) (fun k=>fR n (ie most) x k - fR n (ie most) y k):=by
 have e0:∀u:Nat->Rat,fR n (ie most) u 0=ie most*S n u:=fun u=>by unfold fR;rw [if_pos rfl]
 have e1:∀(u:Nat->Rat) k,fR n (ie most) u (k+1)=u k:=fun u k=>by unfold fR;rw [if_neg (by omega)];rfl
 have hs:(most=true/\ie most= -1)∨(most=false/\ie most=1):=by
  cases most
  ·exact .inr ⟨rfl,rfl⟩
  ·exact .inl ⟨rfl,rfl⟩
 unfold gN
 by_cases h1:S n x<S n y
 ·rw [if_pos h1]
  rcases hs with ⟨hm,hq⟩|⟨hm,hq⟩
  ·rw [hm]
   constructor
   ·intro h;exact absurd h (by decide)
   ·rintro ⟨k,hk,hz,hn⟩
    exfalso
    by_cases e:k=0
    ·subst e;have hn':fR n (ie most) x 0 - fR n (ie most) y 0<0:=by rw [hm];exact hn
     rw [e0,e0,hq] at hn';grind
    ·have hz':fR n (ie most) x 0 - fR n (ie most) y 0=0:=by rw [hm];exact hz 0 (by omega)
     rw [e0,e0,hq] at hz';grind
  ·rw [hm]
   refine ⟨fun _=>⟨0,by omega,fun i hi=>by omega,?_⟩,fun _=>rfl⟩
   have:fR n (ie most) x 0 - fR n (ie most) y 0<0:=by rw [e0,e0,hq];grind
   rw [hm] at this;exact this
 ·rw [if_neg h1]
  by_cases h2:S n y<S n x
  ·rw [if_pos h2]
   rcases hs with ⟨hm,hq⟩|⟨hm,hq⟩
   ·rw [hm]
    refine ⟨fun _=>⟨0,by omega,fun i hi=>by omega,?_⟩,fun _=>rfl⟩
    have:fR n (ie most) x 0 - fR n (ie most) y 0<0:=by rw [e0,e0,hq];grind
    rw [hm] at this;exact this
   ·rw [hm]
    constructor
    ·intro h;exact absurd h (by decide)
    ·rintro ⟨k,hk,hz,hn⟩
     exfalso
     by_cases e:k=0
     ·subst e;have hn':fR n (ie most) x 0 - fR n (ie most) y 0<0:=by rw [hm];exact hn
      rw [e0,e0,hq] at hn';grind
     ·have hz':fR n (ie most) x 0 - fR n (ie most) y 0=0:=by rw [hm];exact hz 0 (by omega)
      rw [e0,e0,hq] at hz';grind
  ·rw [if_neg h2,MG]
   have hz0:fR n (ie most) x 0 - fR n (ie most) y 0=0:=by rw [e0,e0];have:S n x=S n y:=by grind
                                                          rw [this];grind
   constructor
   ·rintro ⟨k,_,h4,h5,h6⟩
    refine ⟨k+1,by omega,fun i hi=>?_,?_⟩
    ·cases i with
     |zero=>exact hz0
     |succ i=>show fR n (ie most) x (i+1)- fR n (ie most) y (i+1)=0
              rw [e1,e1,h5 i (by omega) (by omega)];grind
    ·show fR n (ie most) x (k+1)- fR n (ie most) y (k+1)<0
     rw [e1,e1];grind
   ·rintro ⟨k,hk,hz,hn⟩
    cases k with
    |zero=>exfalso;have:fR n (ie most) x 0 - fR n (ie most) y 0<0:=hn
           rw [hz0] at this;grind
    |succ k=>
     have hn':fR n (ie most) x (k+1)- fR n (ie most) y (k+1)<0:=hn
     rw [e1,e1] at hn'
     refine ⟨k,Nat.zero_le _,by omega,fun j _ hj=>?_,by grind⟩
     have:fR n (ie most) x (j+1)- fR n (ie most) y (j+1)=0:=hz (j+1) (by omega)
     rw [e1,e1] at this;grind
theorem CB {n:Nat} {x x' y y':Nat->Rat} (hx:∀j,j<n->x j=x' j) (hy:∀j,j<n->y j=y' j) (most:Bool):gN n x y most=gN n x' y' most:=by
 have:gN n x y most=true↔gN n x' y' most=true:=by
  rw [vW,vW]
  exact ⟨fun h=>h.congr (fun k hk=>by rw [sy hx hk,sy hy hk]),fun h=>h.congr (fun k hk=>by rw [sy hx hk,sy hy hk])⟩
 cases h1:gN n x y most<;>cases h2:gN n x' y' most<;>simp_all
def Le (all:List cC) (o:Option (Nat->Rat)):Prop:=∀x,o=some x->all.all (iL x)=true
def PZ (n:Nat) (B:Nat->Rat) (o:Option (Nat->Rat)):Prop:=∃x,o=some x/\∀j,j<n->x j=B j
def a1M (n:Nat) (B:Nat->Rat) (ch:List cC):Prop:=∃R,fZ n (gQ ch n) n=some R/\∀j,j<n->oU R n j=B j
structure Yz (n:Nat) (all:List cC) (most:Bool) (B:Nat->Rat):Prop where
 adm:∀x,(∀j,j<n->x j=B j)->all.all (iL x)=true
 no:∀x,all.all (iL x)=true->gN n x B most=false
 yes:∀x,all.all (iL x)=true->¬(∀j,j<n->x j=B j)->gN n B x most=true
section
variable {n:Nat} {all:List cC} {most:Bool} {B:Nat->Rat}
theorem Qa {ch:List cC} {best:Option (Nat->Rat)} (h:Le all best):Le all (kz n all most ch best):=by
 intro x hx
 unfold kz at hx
 cases hg:fZ n (gQ ch n) n with
 |none=>rw [hg] at hx;exact h x hx
 |some R=>
  rw [hg] at hx
  simp only at hx
  by_cases hm:all.all (iL (oU R n))=true
  ·rw [if_pos hm] at hx
   cases best with
   |none=>simp only [Option.some.injEq] at hx;rw [<-hx];exact hm
   |some b=>
    simp only at hx
    split at hx
    ·simp only [Option.some.injEq] at hx;rw [<-hx];exact hm
    ·exact h x hx
  ·rw [if_neg hm] at hx;exact h x hx
theorem MH (t:Yz n all most B) {ch:List cC} {best:Option (Nat->Rat)} (h:PZ n B best):PZ n B (kz n all most ch best):=by
 obtain ⟨b,rfl,hb⟩:=h
 unfold kz
 cases hg:fZ n (gQ ch n) n with
 |none=>exact ⟨b,rfl,hb⟩
 |some R=>
  simp only
  by_cases hm:all.all (iL (oU R n))=true
  ·rw [if_pos hm]
   have h1:gN n (oU R n) b most=false:=by
    rw [CB (fun _ _=>rfl) hb];exact t.no _ hm
   rw [if_neg (by rw [h1];decide)]
   exact ⟨b,rfl,hb⟩
  ·rw [if_neg hm];exact ⟨b,rfl,hb⟩
theorem MI (t:Yz n all most B) {ch:List cC} {best:Option (Nat->Rat)} (hs:a1M n B ch) (h:Le all best):PZ n B (kz n all most ch best):=by
 obtain ⟨R,hg,hR⟩:=hs
 unfold kz
 rw [hg]
 simp only
 rw [if_pos (t.adm _ hR)]
 cases best with
 |none=>exact ⟨_,rfl,hR⟩
 |some b=>
  simp only
  by_cases hb:gN n (oU R n) b most=true
  ·rw [if_pos hb];exact ⟨_,rfl,hR⟩
  ·rw [if_neg hb]
   refine ⟨b,rfl,fun j hj=>?_⟩
   by_cases he:∀j,j<n->b j=B j
   ·exact he j hj
   ·have h1:=t.yes b (h b rfl) he
    rw [CB (fun j hj=>(hR j hj).symm) (fun _ _=>rfl)] at h1
    exact absurd h1 hb
theorem FZ:∀d (ch:List cC) (best:Option (Nat->Rat)),Le all best->Le all (fP n all most d ch best)
 |0,ch,best,h=>by
  simp only [fP];split
  ·exact Qa h
  ·exact h
 |d+1,ch,best,h=>by
  simp only [fP];split
  ·exact Qa h
  ·split
   ·exact h
   ·exact FZ d _ _ (FZ d _ _ h)
theorem CC (t:Yz n all most B):∀d (ch:List cC) (best:Option (Nat->Rat)),PZ n B best->PZ n B (fP n all most d ch best)
 |0,ch,best,h=>by
  simp only [fP];split
  ·exact MH t h
  ·exact h
 |d+1,ch,best,h=>by
  simp only [fP];split
  ·exact MH t h
  ·split
   ·exact h
   ·exact CC t d _ _ (CC t d _ _ h)
theorem CD (t:Yz n all most B):∀d (ch:List cC) (best:Option (Nat->Rat)),d<=all.length->Le all best->(∃l,l.Sublist (all.drop (all.length - d))/\ch.length+l.length=n/\a1M n B (ch++l))->PZ n B (fP n all most d ch best)
 |0,ch,best,hd,h,⟨l,hl,hn,hs⟩=>by
  rw [Nat.sub_zero,List.drop_length] at hl
  have e:=List.sublist_nil.1 hl
  subst e
  rw [List.append_nil] at hs
  simp only [fP]
  rw [if_pos (by simpa using hn)]
  exact MI t hs h
 |d+1,ch,best,hd,h,⟨l,hl,hn,hs⟩=>by
  simp only [fP]
  by_cases h1:ch.length=n
  ·rw [if_pos h1]
   have e:l=[]:=List.eq_nil_of_length_eq_zero (by omega)
   subst e
   rw [List.append_nil] at hs
   exact MI t hs h
  ·rw [if_neg h1]
   have hlen:=hl.length_le
   rw [List.length_drop] at hlen
   rw [if_neg (by omega)]
   have hlt:all.length -(d+1)<all.length:=by omega
   rw [List.drop_eq_getElem_cons hlt] at hl
   have e2:all.length -(d+1)+1=all.length - d:=by omega
   rw [e2] at hl
   have hge:all.getD (all.length -(d+1)) z49=all[all.length -(d+1)]:=by simp [List.getD_eq_getElem?_getD,hlt]
   rw [hge]
   rcases List.sublist_cons_iff.1 hl with h2|⟨r,rfl,h2⟩
   ·exact CD t d ch _ (by omega) (FZ d _ _ h) ⟨l,h2,hn,hs⟩
   ·exact CC t d ch _ (CD t d _ best (by omega) h ⟨r,h2,by rw [List.length_append];simp at hn⊢;omega,by rw [List.append_assoc];exact hs⟩)
end
theorem Qb {l:List Nat} (p:Nat->Bool):(l.filter p).length+(l.filter (fun x=> !p x)).length=l.length:=by
 induction l with
 |nil=>rfl
 |cons a l ih=>
  cases h:p a with
  |true=>simp [List.filter_cons,h];omega
  |false=>simp [List.filter_cons,h];omega
theorem YA {m N K:Nat} {t0 T:bw} (v:Valid m N K t0 T) (p:Nat->Bool) (hp:∀j,j<N->(p j=true↔iT m T j)):((List.range N).filter p).length=m:=by
 have RV:((List.range m).map T.basis).Nodup:=by
  rw [List.nodup_iff_pairwise_ne,List.pairwise_map]
  have h0:(List.range m).Pairwise (fun a b=>a≠b):=List.nodup_range
  refine List.Pairwise.imp_of_mem ?_ h0
  intro a b ha hb hne e
  exact hne (v.inj (List.mem_range.1 ha) (List.mem_range.1 hb) e)
 have h1:=wS _ ((List.range N).filter p) RV (fun x hx=>by
  obtain ⟨r,hr,rfl⟩:=List.mem_map.1 hx
  have hr':=List.mem_range.1 hr
  exact List.mem_filter.2 ⟨List.mem_range.2 (v.lt r hr'),(hp _ (v.lt r hr')).2 ⟨r,hr',rfl⟩⟩)
 have h2:=wS ((List.range N).filter p) ((List.range m).map T.basis) (List.Pairwise.filter _ List.nodup_range) (fun x hx=>by
  obtain ⟨h3,h4⟩:=List.mem_filter.1 hx
  obtain ⟨r,hr,e⟩:=(hp x (List.mem_range.1 h3)).1 h4
  exact List.mem_map.2 ⟨r,List.mem_range.2 hr,e⟩)
 rw [List.length_map,List.length_range] at h1 h2
 omega
section
variable {n m:Nat} {A:Nat->Nat->Rat} {right:Nat->Rat} {s:Rat}
theorem Vn {T:bw} (v:Valid m (n+m) (n+1) (init n m A right s) T) (sR:n<=7) {l:List cC} (hl:l.length=n) (hok:l.all (jN (n:Int))=true)
 (hh:∀(h:Rat) (y:Nat->Rat),(∀k,k<n->S n (fun j=>gQ l n k j*y j)=h*gQ l n k n)->(∀j,j<n->¬iT m T j->y j=0)/\(∀i,i<m->¬iT m T (n+i)->S n (fun j=>A i j*y j)=h*right i)):
 a1M n (T.X m (n+m)) l:=by
 have hM:∀i j,i<n->j<=n->gQ l n i j=0∨gQ l n i j=1:=by
  intro i j hi hj
  have:=PU hok i j (by omega) (by omega)
  rwa [hl] at this
 cases hg:fZ n (gQ l n) n with
 |none=>
  exfalso
  obtain ⟨z,⟨j,hj,hz⟩,hs⟩:=SH hM sR n (Nat.le_refl _) hg
  obtain ⟨h1,h2⟩:=hh 0 z (fun k hk=>by rw [hs k hk];grind)
  obtain ⟨x1,x2⟩:=FM v
  have:=Me v (y:=fun j=>T.X m (n+m) j+z j) (fun j hj hb=>by show _+z j=0;rw [x1 j hj hb,h1 j hj hb];grind) (fun i hi hb=>by
   have e:S n (fun j=>A i j*(T.X m (n+m) j+z j))=S n (fun j=>A i j*T.X m (n+m) j)+S n (fun j=>A i j*z j):=by
    rw [<-xF];exact pU (fun j _=>by grind)
   rw [e,x2 i hi hb,h2 i hi hb];grind) j hj
  have e3:T.X m (n+m) j+z j=T.X m (n+m) j:=this
  exact hz (by grind)
 |some R=>
  refine ⟨R,hg,?_⟩
  obtain ⟨h1,h2⟩:=hh 1 (oU R n) (fun k hk=>by have:=(Yt hM sR R hg).1 k hk;rw [this];grind)
  exact Me v h1 (fun i hi hb=>by rw [h2 i hi hb];grind)
theorem b0c {all:List cC} {most:Bool} {B:Nat->Rat} (hb:Pf n m A right (ie most) B) (hm:∀x,all.all (iL x)=true↔Cb n m A right x):Yz n all most B:=by
 refine ⟨fun x hx=>(hm x).2 (UI (fun j hj=>(hx j hj).symm) hb.1),fun x hx=>?_,fun x hx hne=>?_⟩
 ·cases h:gN n x B most with
  |false=>rfl
  |true=>exact absurd (vW.1 h) (hb.2 x ((hm x).1 hx))
 ·rw [vW]
  have h1:=hb.2 x ((hm x).1 hx)
  rcases gY.1 h1 with z|p
  ·exfalso
   apply hne
   intro j hj
   have h2:fR n (ie most) x (j+1)- fR n (ie most) B (j+1)=0:=z (j+1) (by omega)
   have e:∀u:Nat->Rat,fR n (ie most) u (j+1)=u j:=fun u=>by unfold fR;rw [if_neg (by omega)];rfl
   rw [e,e] at h2;grind
  ·exact (p.neg).congr (fun k _=>by grind)
end
def places (p:Nat->Bool) (N:Nat):List Int:=((List.range N).filter p).map (fun (i:Nat)=>(i:Int))
theorem AK {p:Nat->Bool} {N:Nat} {x:Int}:x∈places p N↔∃j:Nat,j<N/\p j=true/\x=(j:Int):=by
 unfold places
 simp only [List.mem_map,List.mem_filter,List.mem_range]
 constructor
 ·rintro ⟨j,⟨h1,h2⟩,h3⟩;exact ⟨j,h1,h2,h3.symm⟩
 ·rintro ⟨j,h1,h2,h3⟩;exact ⟨j,⟨h1,h2⟩,h3.symm⟩
theorem xX {p:Nat->Bool} {N j:Nat} (hj:j<N):((j:Int)∈places p N)↔p j=true:=by
 rw [AK]
 constructor
 ·rintro ⟨i,h1,h2,h3⟩;have:i=j:=by omega
  rw [<-this];exact h2
 ·intro h;exact ⟨j,hj,h,rfl⟩
theorem AL (p:Nat->Bool) (N:Nat):(places p N).length<=N:=by
 unfold places
 rw [List.length_map]
 have:=List.length_filter_le p (List.range N)
 rwa [List.length_range] at this
theorem yt (p:Nat->Bool) (N:Nat):places p (N+1)=places p N++(if p N=true then [(N:Int)] else []):=by
 unfold places
 rw [List.range_succ,List.filter_append,List.map_append]
 congr 1
 cases h:p N<;>simp [List.filter_cons,h]
theorem EJ (x:Nat->Rat):∀(a b:List Int) (s:Rat),rF x (a++b) s=rF x b (rF x a s)
 | [],_,_=>rfl
 |_::a,b,s=>by simp only [List.cons_append,rF];exact EJ x a b _
theorem EK (x:Nat->Rat) (p:Nat->Bool):∀N,rF x (places p N) 0=S N (fun j=>if p j=true then x j else 0)
 |0=>rfl
 |N+1=>by
  rw [yt,EJ,EK x p N]
  simp only [S]
  by_cases h:p N=true
  ·rw [if_pos h,if_pos h];simp only [rF];rw [Int.toNat_natCast]
  ·rw [if_neg h,if_neg h];simp only [rF];grind
def lZ (P:Nat->Nat->Bool) (n:Nat) (up:Bool) (i:Nat):cC:=⟨places (P i) n,up,1⟩
def rG (j:Nat):cC:=⟨[(j:Int)],false,0⟩
def mB (P:Nat->Nat->Bool) (n m:Nat) (up:Bool) (inc:Nat->Bool):List cC:=((List.range m).filter inc).map (lZ P n up)++(List.range n).map rG
section
variable {P:Nat->Nat->Bool} {n m:Nat} {up:Bool} {inc:Nat->Bool}
theorem a6R (hn:n<=7) (i:Nat):jN (n:Int) (lZ P n up i)=true:=by
 refine sF.2 ⟨?_,fun x hx=>?_,.inr rfl⟩
 ·have:(places (P i) n).length<=n:=AL _ _
  show (places (P i) n).length<=_;omega
 ·obtain ⟨j,h1,_,rfl⟩:=AK.1 hx;omega
theorem a6S {j:Nat} (hj:j<n):jN (n:Int) (rG j)=true:=by
 refine sF.2 ⟨by show (1:Nat)<=_;omega,fun x hx=>?_,.inl rfl⟩
 rw [List.mem_singleton.1 hx];omega
theorem Lf (hn:n<=7):(mB P n m up inc).all (jN (n:Int))=true:=by
 unfold mB
 rw [List.all_append,Bool.and_eq_true]
 constructor
 ·rw [List.all_eq_true];intro d hd
  obtain ⟨i,_,rfl⟩:=List.mem_map.1 hd
  exact a6R hn i
 ·rw [List.all_eq_true];intro d hd
  obtain ⟨j,hj,rfl⟩:=List.mem_map.1 hd
  exact a6S (List.mem_range.1 hj)
theorem Qc:(mB P n m up inc).length<=m+n:=by
 unfold mB
 rw [List.length_append,List.length_map,List.length_map,List.length_range]
 have:=List.length_filter_le inc (List.range m)
 rw [List.length_range] at this;omega
def zI (up:Bool):Rat:=if up=true then ((1:Int):Rat) else ((-1:Int):Rat)
structure Fits (P:Nat->Nat->Bool) (n m:Nat) (up:Bool) (inc:Nat->Bool) (A:Nat->Nat->Rat) (right:Nat->Rat):Prop where
 a:∀i j,i<m->j<n->A i j=zI up*(if P i j=true then 1 else 0)
 r:∀i,i<m->right i=zI up
 out:∀i,i<m->inc i=false->up=true/\∀j,j<n->P i j=false
variable {A:Nat->Nat->Rat} {right:Nat->Rat}
theorem wB (f:Fits P n m up inc A right) (x:Nat->Rat) {i:Nat} (hi:i<m):S n (fun j=>A i j*x j)=zI up*S n (fun j=>if P i j=true then x j else 0):=by
 rw [<-nv]
 refine pU (fun j hj=>?_)
 rw [f.a i j hi hj]
 split<;>grind
theorem MJ (x:Nat->Rat) (i:Nat):iL x (lZ P n up i)=true↔zI up*S n (fun j=>if P i j=true then x j else 0)<=zI up:=by
 unfold iL lZ
 simp only [EK]
 have e1:(((1:Int)):Rat)=1:=rfl
 cases up with
 |true=>
  rw [if_pos rfl,e1]
  have:zI true=1:=rfl
  rw [this]
  simp only [Bool.not_eq_true',decide_eq_false_iff_not]
  constructor<;>intro h<;>grind
 |false=>
  rw [if_neg (by decide),e1]
  have:zI false= -1:=rfl
  rw [this]
  simp only [Bool.not_eq_true',decide_eq_false_iff_not]
  constructor<;>intro h<;>grind
theorem MK (x:Nat->Rat) (j:Nat):iL x (rG j)=true↔0<=x j:=by
 unfold iL rG
 simp only [rF,Int.toNat_natCast]
 have e1:(((0:Int)):Rat)=0:=rfl
 rw [if_neg (by decide),e1]
 simp only [Bool.not_eq_true',decide_eq_false_iff_not]
 constructor<;>intro h<;>grind
theorem YB (f:Fits P n m up inc A right) (x:Nat->Rat):(mB P n m up inc).all (iL x)=true↔Cb n m A right x:=by
 unfold mB
 rw [List.all_append,Bool.and_eq_true,List.all_eq_true,List.all_eq_true]
 constructor
 ·rintro ⟨h1,h2⟩
  refine ⟨fun j hj=>(MK x j).1 (h2 _ (List.mem_map.2 ⟨j,List.mem_range.2 hj,rfl⟩)),fun i hi=>?_⟩
  rw [wB f x hi,f.r i hi]
  cases hc:inc i with
  |true=>exact (MJ x i).1 (h1 _ (List.mem_map.2 ⟨i,List.mem_filter.2 ⟨List.mem_range.2 hi,hc⟩,rfl⟩))
  |false=>
   obtain ⟨hu,hz⟩:=f.out i hi hc
   rw [ig (fun j hj=>by rw [hz j hj];exact if_neg (by decide)),hu]
   have:zI true=1:=rfl
   rw [this];grind
 ·rintro ⟨h1,h2⟩
  constructor
  ·intro d hd
   obtain ⟨i,hi,rfl⟩:=List.mem_map.1 hd
   have wY:=List.mem_range.1 (List.mem_filter.1 hi).1
   have:=h2 i wY
   rw [wB f x wY,f.r i wY] at this
   exact (MJ x i).2 this
  ·intro d hd
   obtain ⟨j,hj,rfl⟩:=List.mem_map.1 hd
   exact (MK x j).2 (h1 j (List.mem_range.1 hj))
theorem YC {l:List cC} {d:cC} (h:d∈l):∃k,k<l.length/\l.getD k z49=d:=by
 obtain ⟨k,hk,e⟩:=List.getElem_of_mem h
 exact ⟨k,hk,by simp [List.getD_eq_getElem?_getD,hk,e]⟩
theorem II {α:Type} (p q:α->Bool):∀l:List α,(∀x,x∈l->q x=true->p x=true)->((l.filter p).filter q)=l.filter q
 | [],_=>rfl
 |a::l,h=>by
  have ih:=II p q l (fun x hx=>h x (List.mem_cons_of_mem _ hx))
  cases hp:p a with
  |true=>cases hq:q a<;>simp [List.filter_cons,hp,hq,ih]
  |false=>
   cases hq:q a with
   |true=>have:=h a (List.mem_cons_self ..) hq;rw [hp] at this;exact absurd this (by decide)
   |false=>simp [List.filter_cons,hp,hq,ih]
theorem ML {s:Rat} {T:bw} {most:Bool} (f:Fits P n m up inc A right) (sR:n<=7) (v:Valid m (n+m) (n+1) (init n m A right s) T) (hb:Pf n m A right (ie most) (T.X m (n+m))):
 qu n (fP n (mB P n m up inc) most (mB P n m up inc).length [] none)=LQ n (T.X m (n+m)):=by
 have key:PZ n (T.X m (n+m)) (fP n (mB P n m up inc) most (mB P n m up inc).length [] none):=by
  refine CD (b0c hb (YB f)) _ [] none (Nat.le_refl _) (fun x hx=>by simp at hx) ?_
  rw [Nat.sub_self,List.drop_zero]
  have YD:∀i,i<m->inc i=false->iT m T (n+i):=fun i hi hc=>by
   by_cases xm:iT m T (n+i)
   ·exact xm
   ·exfalso
    have h1:=(FM v).2 i hi xm
    obtain ⟨hu,hz⟩:=f.out i hi hc
    rw [wB f _ hi,f.r i hi,ig (fun j hj=>by rw [hz j hj];exact if_neg (by decide)),hu] at h1
    have:zI true=1:=rfl
    rw [this] at h1;grind
  classical
  let nb:Nat->Bool:=fun c=> !decide (iT m T c)
  have hnb:∀c,nb c=true↔¬iT m T c:=fun c=>by simp [nb]
  let l:=(((List.range m).filter inc).filter (fun i=>nb (n+i))).map (lZ P n up)++((List.range n).filter nb).map rG
  have hsub:l.Sublist (mB P n m up inc):=List.Sublist.append (List.Sublist.map _ List.filter_sublist) (List.Sublist.map _ List.filter_sublist)
  have hlen:l.length=n:=by
   show (_++_:List _).length=n
   rw [List.length_append,List.length_map,List.length_map,II inc (fun i=>nb (n+i)) _ (fun i hi hq=>by
    cases hc:inc i with
    |true=>rfl
    |false=>exact absurd (YD i (List.mem_range.1 hi) hc) ((hnb _).1 hq))]
   have h1:=YA v (fun c=>decide (iT m T c)) (fun c _=>by simp)
   have h2:=Qb (l:=List.range (n+m)) (fun c=>decide (iT m T c))
   rw [h1,List.length_range] at h2
   have h3:((List.range (n+m)).filter nb).length=((List.range n).filter nb).length+((List.range m).filter (fun i=>nb (n+i))).length:=by
    rw [List.range_add,List.filter_append,List.length_append,List.filter_map,List.length_map];rfl
   have h4:((List.range (n+m)).filter (fun x=> !decide (iT m T x))).length=((List.range (n+m)).filter nb).length:=rfl
   omega
  have hok:l.all (jN (n:Int))=true:=by
   rw [List.all_eq_true];intro d hd
   exact List.all_eq_true.1 (Lf (m:=m) (inc:=inc) (up:=up) (P:=P) sR) d (hsub.subset hd)
  refine ⟨l,hsub,by simpa using hlen,?_⟩
  rw [List.nil_append]
  refine Vn v sR hlen hok (fun h y hy=>⟨fun j hj LW=>?_,fun i hi hbi=>?_⟩)
  ·have hm:rG j∈l:=List.mem_append_right _ (List.mem_map.2 ⟨j,List.mem_filter.2 ⟨List.mem_range.2 hj,(hnb j).2 LW⟩,rfl⟩)
   obtain ⟨k,hk,e⟩:=YC hm
   have h1:=hy k (by omega)
   have h2:gQ l n k n=0:=by unfold gQ;rw [if_pos rfl,e];rfl
   have h3:S n (fun q=>gQ l n k q*y q)=S n (fun q=>if q=j then y q else 0):=pU (fun q hq=>by
    unfold gQ
    rw [if_neg (by omega),e]
    show (if (q:Int)∈[(j:Int)] then (1:Rat) else 0)*y q=_
    by_cases e2:q=j
    ·rw [if_pos e2,if_pos (by rw [e2];exact List.mem_singleton.2 rfl)];grind
    ·rw [if_neg e2,if_neg (fun hm=>e2 (by have:=List.mem_singleton.1 hm;omega))];grind)
   rw [h3,h2,fF hj y] at h1
   rw [h1];grind
  ·have b8b:inc i=true:=by
    cases hc:inc i with
    |true=>rfl
    |false=>exact absurd (YD i hi hc) hbi
   have hm:lZ P n up i∈l:=List.mem_append_left _ (List.mem_map.2 ⟨i,List.mem_filter.2 ⟨List.mem_filter.2 ⟨List.mem_range.2 hi,b8b⟩,(hnb _).2 hbi⟩,rfl⟩)
   obtain ⟨k,hk,e⟩:=YC hm
   have h1:=hy k (by omega)
   have h2:gQ l n k n=1:=by unfold gQ;rw [if_pos rfl,e];rfl
   have h3:S n (fun q=>gQ l n k q*y q)=S n (fun q=>if P i q=true then y q else 0):=pU (fun q hq=>by
    unfold gQ
    rw [if_neg (by omega),e]
    show (if (q:Int)∈places (P i) n then (1:Rat) else 0)*y q=_
    by_cases e2:P i q=true
    ·rw [if_pos e2,if_pos ((xX hq).2 e2)];grind
    ·rw [if_neg e2,if_neg (fun hm=>e2 ((xX hq).1 hm))];grind)
   rw [h3,h2] at h1
   rw [wB f y hi,f.r i hi,h1];grind
 obtain ⟨x,e,hx⟩:=key
 rw [e]
 exact a1I hx
end
end Go.Proofs.Ytnhknojfpjheoaa.PT
