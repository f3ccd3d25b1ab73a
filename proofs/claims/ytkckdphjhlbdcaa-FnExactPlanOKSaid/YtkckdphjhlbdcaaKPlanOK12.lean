/-
  Part 12 of the proof of this: The law FnExactPlanOK answers true at every argument.
-/
import Derived.Test.YtkckdphjhlbdcaaKPlanOK2
import Derived.Test.YtkckdphjhlbdcaaKPlanOK6
import Derived.Test.YtkckdphjhlbdcaaKPlanOK10
import Derived.Test.YtkckdphjhlbdcaaKPlanOK11
namespace Go.Proofs.Ytkckdphjhlbdcaa.P
open Go.RowKit Go.Proofs.YtkckdphjhlbdcaaW.PrintWords Go.Proofs.YtkckdphjhlbdcaaW.PrintLast Go.Proofs.YtkckdphjhlbdcaaW.PrintMore
attribute [local go_sem] max2_int min2_int max_two min_two max_three min_three max_four min_four
set_option linter.all false
mutual
def aG.l0:Nat->List Int->List (List Int)->List (dz)->List (List Int)->List (List Int)->Int->Int->Option (Int×Int)
 |0,_,_,_,_,_,_,_=>none
 |k+1,x0,x1,x5,x6,Du,FD,vU=>if vU<FD then (if 0<=vU then (if vU<(Du.length:Int) then ((bG.f k (cZ Du vU) x0).bind fun gI=>(aG.l1 k x0 x1 x5 x6 vU gI (decide ((gI.length:Int)>0)) Du FD vU x1 (x1.length:Int) 0)) else (none)) else (none)) else (aG.l2 k x5 x6 x0 (x0.length:Int) 0)
def aG.l1:Nat->List Int->List (List Int)->List (dz)->List (List Int)->Int->List Int->Bool->List (List Int)->Int->Int->List (List Int)->Int->Int->Option (Int×Int)
 |0,_,_,_,_,_,_,_,_,_,_,_,_,_=>none
 |k+1,x0,x1,x5,x6,x7,x9,Oe,Du,FD,vU,Ca,FC,ug=>if ug<FC then (if 0<=ug then (if ug<(Ca.length:Int) then ((bG.f k (cZ Ca ug) x0).bind fun oo=>(if ug=x7 then (aG.l1 k x0 x1 x5 x6 x7 x9 Oe Du FD vU Ca FC (wrap64 (ug+1))) else ((bT.f k x9 oo).bind fun Mk=>(if Mk=true then (if (x9.length:Int)<(oo.length:Int) then (aG.l1 k x0 x1 x5 x6 x7 x9 false Du FD vU Ca FC (wrap64 (ug+1))) else (if ug<x7 then (aG.l1 k x0 x1 x5 x6 x7 x9 false Du FD vU Ca FC (wrap64 (ug+1))) else (aG.l1 k x0 x1 x5 x6 x7 x9 Oe Du FD vU Ca FC (wrap64 (ug+1))))) else (aG.l1 k x0 x1 x5 x6 x7 x9 Oe Du FD vU Ca FC (wrap64 (ug+1))))))) else (none)) else (none)) else (if Oe=true then (if x6.length<5864062014805 then (aG.l0 k x0 x1 x5 (x6++[x9]) Du FD (wrap64 (vU+1))) else (none)) else (aG.l0 k x0 x1 x5 x6 Du FD (wrap64 (vU+1))))
def aG.l2:Nat->List (dz)->List (List Int)->List Int->Int->Int->Option (Int×Int)
 |0,_,_,_,_,_=>none
 |k+1,x5,x6,Sj,Vm,JH=>if JH<Vm then (if 0<=JH then (if JH<(Sj.length:Int) then (aG.l3 k x5 x6 (rd Sj JH) Sj Vm JH x6 (x6.length:Int) 0 ([]:List Int) false 1) else (none)) else (none)) else (aG.l4 k x5 x6 (x6.length:Int) 0)
def aG.l3:Nat->List (dz)->List (List Int)->Int->List Int->Int->Int->List (List Int)->Int->Int->List Int->Bool->Int->Option (Int×Int)
 |0,_,_,_,_,_,_,_,_,_,_,_,_=>none
 |k+1,x5,x6,FE,Sj,Vm,JH,x79,x80,Sk,EB,Ml,Mm=>if Sk<x80 then (if 0<=Sk then (if Sk<(x79.length:Int) then ((bU.f k (cZ x79 Sk) FE).bind fun Xi=>(if Xi=true then (if EB.length<17592186044416 then (aG.l3 k x5 x6 FE Sj Vm JH x79 x80 (wrap64 (Sk+1)) (EB++[Sk]) Ml Mm) else (none)) else (aG.l3 k x5 x6 FE Sj Vm JH x79 x80 (wrap64 (Sk+1)) EB Ml Mm))) else (none)) else (none)) else (if x5.length<3518437208883 then (aG.l2 k (x5++[(⟨EB,Ml,Mm⟩:dz)]) x6 Sj Vm (wrap64 (JH+1))) else (none))
def aG.l4:Nat->List (dz)->List (List Int)->Int->Int->Option (Int×Int)
 |0,_,_,_,_=>none
 |k+1,x5,x6,b1r,a3y=>if a3y<b1r then (if x5.length<3518437208883 then (aG.l4 k (x5++[(⟨(([a3y]:List Int)),false,0⟩:dz)]) x6 b1r (wrap64 (a3y+1))) else (none)) else ((fo.f k (x6.length:Int) x5 0 ([]:List (dz)) ([]:List (dm)) false).bind fun Mn=>((cg.f k Mn).bind fun JI=>(some (JI.1,JI.2))))
end
def aG.f (k:Nat) (l0:List Int) (l1:List (List Int)):Option (Int×Int):=aG.l0 k l0 l1 (([]:List (dz))) (([]:List (List Int))) l1 (l1.length:Int) 0
theorem aG.cC:∀k,(∀y0 y1 y2 y3 y4 y5 y6,aR (aG.l0 k y0 y1 y2 y3 y4 y5 y6) (aG.l0 (k+1) y0 y1 y2 y3 y4 y5 y6))/\(∀y0 y1 y2 y3 y4 y5 y6 y7 y8 y9 Sl Sm y12,aR (aG.l1 k y0 y1 y2 y3 y4 y5 y6 y7 y8 y9 Sl Sm y12) (aG.l1 (k+1) y0 y1 y2 y3 y4 y5 y6 y7 y8 y9 Sl Sm y12))/\(∀y0 y1 y2 y3 y4,aR (aG.l2 k y0 y1 y2 y3 y4) (aG.l2 (k+1) y0 y1 y2 y3 y4))/\(∀y0 y1 y2 y3 y4 y5 y6 y7 y8 y9 Sl Sm,aR (aG.l3 k y0 y1 y2 y3 y4 y5 y6 y7 y8 y9 Sl Sm) (aG.l3 (k+1) y0 y1 y2 y3 y4 y5 y6 y7 y8 y9 Sl Sm))/\(∀y0 y1 y2 y3,aR (aG.l4 k y0 y1 y2 y3) (aG.l4 (k+1) y0 y1 y2 y3))
 |0=>⟨fun _ _ _ _ _ _ _ r h=>by simp [aG.l0] at h,fun _ _ _ _ _ _ _ _ _ _ _ _ _ r h=>by simp [aG.l1] at h,fun _ _ _ _ _ r h=>by simp [aG.l2] at h,fun _ _ _ _ _ _ _ _ _ _ _ _ r h=>by simp [aG.l3] at h,fun _ _ _ _ r h=>by simp [aG.l4] at h⟩
 |k+1=>by
  obtain ⟨dN,ih1,ih2,ih3,ih4⟩:=aG.cC k
  refine ⟨?_,?_,?_,?_,?_⟩
  ·intro y0 y1 y2 y3 y4 y5 y6
   unfold aG.l0
   repeat' first
   |(with_reducible exact dN _ _ _ _ _ _ _)
   |(with_reducible exact ih1 _ _ _ _ _ _ _ _ _ _ _ _ _)
   |(with_reducible exact ih2 _ _ _ _ _)
   |(with_reducible exact ih3 _ _ _ _ _ _ _ _ _ _ _ _)
   |(with_reducible exact ih4 _ _ _ _)
   |(with_reducible exact fo.mono _ _ _ _ _ _ _)
   |(with_reducible exact bU.mono _ _ _)
   |(with_reducible exact cg.mono _ _)
   |(with_reducible exact bG.mono _ _ _)
   |(with_reducible exact bT.mono _ _ _)
   |(with_reducible exact aR.refl _)
   |(with_reducible exact aR.none _)
   |(with_reducible refine aR.ite ?_ ?_)
   |(with_reducible refine aR.bind ?_ (fun _=>?_))
  ·intro y0 y1 y2 y3 y4 y5 y6 y7 y8 y9 Sl Sm y12
   unfold aG.l1
   repeat' first
   |(with_reducible exact dN _ _ _ _ _ _ _)
   |(with_reducible exact ih1 _ _ _ _ _ _ _ _ _ _ _ _ _)
   |(with_reducible exact ih2 _ _ _ _ _)
   |(with_reducible exact ih3 _ _ _ _ _ _ _ _ _ _ _ _)
   |(with_reducible exact ih4 _ _ _ _)
   |(with_reducible exact fo.mono _ _ _ _ _ _ _)
   |(with_reducible exact bU.mono _ _ _)
   |(with_reducible exact cg.mono _ _)
   |(with_reducible exact bG.mono _ _ _)
   |(with_reducible exact bT.mono _ _ _)
   |(with_reducible exact aR.refl _)
   |(with_reducible exact aR.none _)
   |(with_reducible refine aR.ite ?_ ?_)
   |(with_reducible refine aR.bind ?_ (fun _=>?_))
  ·intro y0 y1 y2 y3 y4
   unfold aG.l2
   repeat' first
   |(with_reducible exact dN _ _ _ _ _ _ _)
   |(with_reducible exact ih1 _ _ _ _ _ _ _ _ _ _ _ _ _)
   |(with_reducible exact ih2 _ _ _ _ _)
   |(with_reducible exact ih3 _ _ _ _ _ _ _ _ _ _ _ _)
   |(with_reducible exact ih4 _ _ _ _)
   |(with_reducible exact fo.mono _ _ _ _ _ _ _)
   |(with_reducible exact bU.mono _ _ _)
   |(with_reducible exact cg.mono _ _)
   |(with_reducible exact bG.mono _ _ _)
   |(with_reducible exact bT.mono _ _ _)
   |(with_reducible exact aR.refl _)
   |(with_reducible exact aR.none _)
   |(with_reducible refine aR.ite ?_ ?_)
   |(with_reducible refine aR.bind ?_ (fun _=>?_))
  ·intro y0 y1 y2 y3 y4 y5 y6 y7 y8 y9 Sl Sm
   unfold aG.l3
   repeat' first
   |(with_reducible exact dN _ _ _ _ _ _ _)
   |(with_reducible exact ih1 _ _ _ _ _ _ _ _ _ _ _ _ _)
   |(with_reducible exact ih2 _ _ _ _ _)
   |(with_reducible exact ih3 _ _ _ _ _ _ _ _ _ _ _ _)
   |(with_reducible exact ih4 _ _ _ _)
   |(with_reducible exact fo.mono _ _ _ _ _ _ _)
   |(with_reducible exact bU.mono _ _ _)
   |(with_reducible exact cg.mono _ _)
   |(with_reducible exact bG.mono _ _ _)
   |(with_reducible exact bT.mono _ _ _)
   |(with_reducible exact aR.refl _)
   |(with_reducible exact aR.none _)
   |(with_reducible refine aR.ite ?_ ?_)
   |(with_reducible refine aR.bind ?_ (fun _=>?_))
  ·intro y0 y1 y2 y3
   unfold aG.l4
   repeat' first
   |(with_reducible exact dN _ _ _ _ _ _ _)
   |(with_reducible exact ih1 _ _ _ _ _ _ _ _ _ _ _ _ _)
   |(with_reducible exact ih2 _ _ _ _ _)
   |(with_reducible exact ih3 _ _ _ _ _ _ _ _ _ _ _ _)
   |(with_reducible exact ih4 _ _ _ _)
   |(with_reducible exact fo.mono _ _ _ _ _ _ _)
   |(with_reducible exact bU.mono _ _ _)
   |(with_reducible exact cg.mono _ _)
   |(with_reducible exact bG.mono _ _ _)
   |(with_reducible exact bT.mono _ _ _)
   |(with_reducible exact aR.refl _)
   |(with_reducible exact aR.none _)
   |(with_reducible refine aR.ite ?_ ?_)
   |(with_reducible refine aR.bind ?_ (fun _=>?_))
theorem aG.mono:∀a0 a1 k,aR (aG.f k a0 a1) (aG.f (k+1) a0 a1):=by
 intro a0 a1 k
 obtain ⟨dN,ih1,ih2,ih3,ih4⟩:=aG.cC k
 unfold aG.f
 repeat' first
  |(with_reducible exact dN _ _ _ _ _ _ _)
  |(with_reducible exact ih1 _ _ _ _ _ _ _ _ _ _ _ _ _)
  |(with_reducible exact ih2 _ _ _ _ _)
  |(with_reducible exact ih3 _ _ _ _ _ _ _ _ _ _ _ _)
  |(with_reducible exact ih4 _ _ _ _)
  |(with_reducible exact fo.mono _ _ _ _ _ _ _)
  |(with_reducible exact bU.mono _ _ _)
  |(with_reducible exact cg.mono _ _)
  |(with_reducible exact bG.mono _ _ _)
  |(with_reducible exact bT.mono _ _ _)
  |(with_reducible exact aR.refl _)
  |(with_reducible exact aR.none _)
  |(with_reducible refine aR.ite ?_ ?_)
  |(with_reducible refine aR.bind ?_ (fun _=>?_))
set_option maxHeartbeats 8000000 in
set_option maxRecDepth 100000 in
theorem aG.calls (k:Nat) (A0:Option Addr) (c0:Nat) (l0:List Int) (A1:Option Addr) (c1:Nat) (l1:List (List Int)) (r1:Int) (r2:Int) (w:World) (fl:Kd.C (Kd.int .i64) w A0 l0.length l0) (hc0:l0.length<=c0) (hr1:Kd.C (Kd.slice 3 (Kd.int .i64)) w A1 l1.length l1) (hc1:l1.length<=c1) (h:aG.f k l0 l1=some (r1,r2)):
 Calls Try.prog 50 #[.slice A0 l0.length c0,.slice A1 l1.length c1] w fun e w'=>e= .returned (.agg #[.int .i64 r1,.int .i64 r2])/\Below w.heap.size w w':=by
 have lB:=Try.underlying34
 have b7c:=Try.underlying96
 have eu:=Aside0.mk fl
 have kr:=Aside0.mk hc0
 clear fl hc0
 have gA:=Aside0.mk hr1
 have gb:=Aside0.mk hc1
 clear hr1 hc1
 have HB:=Aside0.mk (Below.refl w.heap.size w)
 have H:(aG.l0 k l0 l1 (([]:List (dz))) (([]:List (List Int))) l1 (l1.length:Int) 0)=some (r1,r2):=h
 clear h
 obtain ⟨mJ,JJ⟩:∃y_:List (dz),y_=(([]:List (dz))):=⟨_,rfl⟩
 replace H:(aG.l0 k l0 l1 mJ (([]:List (List Int))) l1 (l1.length:Int) 0)=some (r1,r2):=by first|(rw [JJ];with_reducible exact H)|(have eF:=(Option.bind_some _ _).symm.trans H;rw [JJ];with_reducible exact eF)|(have eF:=(Option.bind_some _ _).symm.trans H;with_reducible exact eF)|with_reducible exact H|(rw [JJ];exact H)|exact H
 have a5B:=Aside0.mk JJ
 clear JJ
 obtain ⟨b1t,JK⟩:∃y_:List (List Int),y_=(([]:List (List Int))):=⟨_,rfl⟩
 replace H:(aG.l0 k l0 l1 mJ b1t l1 (l1.length:Int) 0)=some (r1,r2):=by first|(rw [JK];with_reducible exact H)|(have eF:=(Option.bind_some _ _).symm.trans H;rw [JK];with_reducible exact eF)|(have eF:=(Option.bind_some _ _).symm.trans H;with_reducible exact eF)|with_reducible exact H|(rw [JK];exact H)|exact H
 have a5C:=Aside0.mk JK
 clear JK
 have H':=Aside0.mk H
 clear H
 go_enter Try.func50,Try.ntmps50
 go_wp2_with (first|((with_reducible refine bn (N:=4) rfl ?_);(try (refine mA (by rfl) ?_;dsimp only));refine bq ?hg (N:=4) ?hd (cs:= #[.int .i64 0,.int .i64 0]) (t:=34) ?hr ?_;(case hd=>rfl);(case hg=>rfl);(case hr=>first|(go_simp;done)|(go_simp;rfl));intro ia hg w3 aU hb;have aA:=Aside0.mk (ah ay hb);have aC:=Aside0.mk (aU);have aD:=Aside0.mk ((by rw [hg];exact (ax ay):w.heap.size<=ia));have aK:=Aside0.mk ((by rw [hg];exact (ax ay):w.heap.size<=ia));clear HB;have HB:=aA;have cH:=aC;have GW234:=aD;have GE234:=aK;clear aA aC aD aK;clear hb aU hg)|((with_reducible refine bn (N:=20) rfl ?_);(try (refine mA (by rfl) ?_;dsimp only));refine Kd.a3W mm _ 96 ?hg (N:=20) ?hd (xs:=([]:List (dz))) (inner:=[]) (ok:=fun _=>True) (gK:=fun _=>True) ?hr ?hp (fun _ hk=>hk) trivial (Below.refl _ _) (Nat.le_refl _) (by simp) ?_;(case hd=>rfl);(case hg=>rfl);(case hr=>first|(go_simp;done)|(go_simp;rfl));(case hp=>exact (dD.none _ _));intro v236 w4 lJ hb vR nQ;clear vR nQ;(first|rw [<-a5B.out] at lJ|(simp only [Int.reduceToNat] at lJ;rw [<-a5B.out] at lJ));have aA:=Aside0.mk (Kd.DO lJ (ax ay));have aC:=Aside0.mk (aj (g:=ia) (o:= .cells #[.int .i64 0,.int .i64 0] 34 (0,0)) (aH cH) hb);have aD:=Aside0.mk (ah ay hb);clear cH;clear HB;have OP:=aA;have cH:=aC;have HB:=aD;clear aA aC aD;clear hb lJ)|((with_reducible refine bn (N:=21) rfl ?_);(try (refine mA (by rfl) ?_;dsimp only));refine Kd.a3W (Kd.slice 3 (Kd.int .i64)) _ 23 ?hg (N:=21) ?hd (xs:=([]:List (List Int))) (inner:=[]) (ok:=fun _=>True) (gK:=fun _=>True) ?hr ?hp (fun _ hk=>hk) trivial (Below.refl _ _) (Nat.le_refl _) (by simp) ?_;(case hd=>rfl);(case hg=>rfl);(case hr=>first|(go_simp;done)|(go_simp;rfl));(case hp=>exact (dD.none _ _));intro v239 w6 ho7 hb vR nQ;clear vR nQ;(first|rw [<-a5C.out] at ho7|(simp only [Int.reduceToNat] at ho7;rw [<-a5C.out] at ho7));have aA:=Aside0.mk (Kd.ny (by (with_reducible repeat (first|apply Kd.bK|apply Kd.bL|apply Kd.bX));exact OP.out) hb);have aC:=Aside0.mk (Kd.DO ho7 (ax ay));have aD:=Aside0.mk (aj (g:=ia) (o:= .cells #[.int .i64 0,.int .i64 0] 34 (0,0)) (aH cH) hb);have aK:=Aside0.mk (ah ay hb);clear OP;clear cH;clear HB;have OP:=aA;have b3N:=aC;have cH:=aD;have HB:=aK;clear aA aC aD aK;clear hb ho7))
 go_loopg [6,24] k (fun kq v6 v24 w'=>∃(cS:List (List Int)) (dK:Int),v24= .int .i64 dK/\Aside0 (aG.l0 kq l0 l1 mJ cS l1 (l1.length:Int) dK=some (r1,r2))/\Aside0 (kq<=k)/\Aside0 (Kd.S mm 96 w' w.heap.size (fun _=>True) v236 mJ)/\Aside0 (Kd.S (Kd.slice 3 (Kd.int .i64)) 23 w' w.heap.size (fun _=>True) v6 cS)/\Aside0 (w'.heap[ia]? =some (.cells #[.int .i64 0,.int .i64 0] 34 (0,0)))/\Aside0 (Below w.heap.size w w'))
 case atStart=>exact ⟨(b1t),(0),(by first|rfl|(simp;done)|(simp [*];done)),H',⟨Nat.le_refl _⟩,⟨by (with_reducible repeat (first|apply Kd.bK|apply Kd.bL|apply Kd.bX));exact OP.out⟩,⟨by (with_reducible repeat (first|apply Kd.bK|apply Kd.bL|apply Kd.bX));exact b3N.out⟩,⟨by (with_reducible repeat (first|refine aq ?_ _|refine ak ?_|refine ai ?_ _));exact cH.out⟩,⟨ay⟩⟩
 case round=>
  clear H'
  try clear c1
  try clear p2
  try clear c5
  obtain ⟨cS,dK,rfl,HA,dX,dI,cT,cH,HB⟩:=hrel
  cases gk with
  |zero=>exact absurd HA.out (by simp [aG.l0])
  |succ k1=>
   have H:=HA.out
   clear HA
   simp only [aG.l0] at H
   by_cases c8:dK<(l1.length:Int)
   ·rw [if_pos c8] at H
    have qL:decide (dK<(l1.length:Int))=true:=decide_eq_true c8
    clear c8
    by_cases c9:0<=dK
    ·rw [if_pos c9] at H
     have wI:decide (0<=dK)=true:=decide_eq_true c9
     clear c9
     by_cases c10:dK<(l1.length:Int)
     ·rw [if_pos c10] at H
      have xm:decide (dK<(l1.length:Int))=true:=decide_eq_true c10
      clear c10
      replace H:=Option.bind_eq_some_iff.mp H
      obtain ⟨gI,Sn,H⟩:=H
      replace H:(aG.l1 k1 l0 l1 mJ cS dK gI (decide ((gI.length:Int)>0)) l1 (l1.length:Int) dK l1 (l1.length:Int) 0)=some (r1,r2):=H
      have A11:=Aside0.mk Sn
      clear Sn
      have H':=Aside0.mk H
      clear H
      have GW:0<=(dK:Int):=of_decide_eq_true (by first|(with_reducible assumption)|assumption)
      have GX:dK<(l1.length:Int):=of_decide_eq_true (by first|(with_reducible assumption)|assumption)
      obtain ⟨JL,b1u,b1v,b8b,uI,Vn,Vo⟩:=kX gA.out dK GW GX
      cases b8b
      replace uI:=(HB.out.cell (World.block_lt_of_cell? w _ uI)).trans uI
      have a7v:=Aside0.mk Vo
      have a7w:=Aside0.mk Vn
      clear Vo Vn
      replace GW:=eq_true GW
      replace GX:=eq_true GX
      go_wp2_with (first|((with_reducible refine aV (f:=68) rfl ?_);refine bH (some 31) rfl rfl Try.func68 (by kernel_rfl) rfl #[.slice b1u (cZ l1 dK).length b1v,.slice A0 l0.length c0] rfl (by (try simp only [List.map_toArray,List.map_cons,List.map_nil]);first|done|rfl|(simp only [List.length_drop,List.length_take];rfl)) ?_;(with_reducible refine (bG.calls k1 _ _ (cZ l1 dK) _ _ l0 gI _ ?bO ?bP ?fV ?fW A11.out).mono ?_);(case bO=>repeat (first|exact (Kd.bp a7v.out HB.out)|(with_reducible refine Kd.bV ?_ _)|(with_reducible refine Kd.bW ?_ _)|(with_reducible refine Kd.cy ?_)));(case bP=>exact a7w.out);(case fV=>repeat (first|exact (Kd.bp eu.out HB.out)|(with_reducible refine Kd.bV ?_ _)|(with_reducible refine Kd.bW ?_ _)|(with_reducible refine Kd.cy ?_)));(case fW=>exact kr.out);rintro e mV ⟨v243,rfl,gG,hb⟩;refine ⟨_,rfl,?_⟩;have aA:=Aside0.mk (Kd.jd (by (with_reducible repeat (first|apply Kd.bK|apply Kd.bL|apply Kd.bX));exact dI.out) (Kd.jc gG) hb);have aC:=Aside0.mk (Kd.jd (by (with_reducible repeat (first|apply Kd.bK|apply Kd.bL|apply Kd.bX));exact cT.out) (Kd.jc gG) hb);have aD:=Aside0.mk (Kd.ie gG (ax ay));have aK:=Aside0.mk (aj (g:=ia) (o:= .cells #[.int .i64 0,.int .i64 0] 34 (0,0)) (aH cH) hb);have bF:=Aside0.mk (ah ay hb);clear dI;clear cT;clear cH;clear HB;have dI:=aA;have cT:=aC;have a5D:=aD;have cH:=aK;have HB:=bF;clear aA aC aD aK bF;(try clear hb);(try clear hb2);(try clear hk);(try clear hi);(try clear gG);obtain ⟨Sp,Sq,b8c⟩:=Kd.gJ a5D.out;subst b8c))
      go_loopg [10,37] k1 (fun kq v10 v37 w'=>∃(qq:Bool) (dy:Int),v10= .bool qq/\v37= .int .i64 dy/\Aside0 (aG.l1 kq l0 l1 mJ cS dK gI qq l1 (l1.length:Int) dK l1 (l1.length:Int) dy=some (r1,r2))/\Aside0 (kq<=k1)/\Aside0 (Kd.S mm 96 w' w.heap.size (fun k_=>some k_≠((.slice Sp gI.length Sq):Value).ownBlock) v236 mJ)/\Aside0 (Kd.S (Kd.slice 3 (Kd.int .i64)) 23 w' w.heap.size (fun k_=>some k_≠((.slice Sp gI.length Sq):Value).ownBlock) u6 cS)/\Aside0 (Kd.R (Kd.int .i64) 3 w' w.heap.size (fun _=>True) (.slice Sp gI.length Sq) gI)/\Aside0 (w'.heap[ia]? =some (.cells #[.int .i64 0,.int .i64 0] 34 (0,0)))/\Aside0 (Below w.heap.size w w'))
      case atStart=>exact ⟨(decide ((gI.length:Int)>0)),(0),(by first|rfl|(simp;done)|(simp [*];done)),(by first|rfl|(simp;done)|(simp [*];done)),H',⟨Nat.le_refl _⟩,⟨by (with_reducible repeat (first|apply Kd.bK|apply Kd.bL|apply Kd.bX));exact Kd.ey dI.out (fun _ hk=>hk.2)⟩,⟨by (with_reducible repeat (first|apply Kd.bK|apply Kd.bL|apply Kd.bX));exact Kd.ey cT.out (fun _ hk=>hk.2)⟩,⟨by (with_reducible repeat (first|apply Kd.ck|apply Kd.cn|apply Kd.cK));exact a5D.out⟩,⟨by (with_reducible repeat (first|refine aq ?_ _|refine ak ?_|refine ai ?_ _));exact cH.out⟩,⟨ay⟩⟩
      case round=>
       clear H'
       try clear c1
       try clear c2
       try clear p2
       try clear q2
       try clear hx2
       try clear c5
       try clear c6
       try clear c8
       try clear qL
       try clear c9
       try clear wI
       try clear c10
       try clear xm
       try clear uI
       try clear p2
       try clear GW
       try clear GX
       obtain ⟨qq,dy,rfl,rfl,HA,mq,dI,cT,iW,cH,HB⟩:=hrel
       cases gk with
       |zero=>exact absurd HA.out (by simp [aG.l1])
       |succ k2=>
        have H:=HA.out
        clear HA
        simp only [aG.l1] at H
        by_cases c14:dy<(l1.length:Int)
        ·rw [if_pos c14] at H
         have JD:decide (dy<(l1.length:Int))=true:=decide_eq_true c14
         clear c14
         by_cases c15:0<=dy
         ·rw [if_pos c15] at H
          have OO:decide (0<=dy)=true:=decide_eq_true c15
          clear c15
          by_cases c16:dy<(l1.length:Int)
          ·rw [if_pos c16] at H
           have JM:decide (dy<(l1.length:Int))=true:=decide_eq_true c16
           clear c16
           replace H:=Option.bind_eq_some_iff.mp H
           obtain ⟨oo,CV,H⟩:=H
           replace H:(if dy=dK then (aG.l1 k2 l0 l1 mJ cS dK gI qq l1 (l1.length:Int) dK l1 (l1.length:Int) (wrap64 (dy+1))) else ((bT.f k2 gI oo).bind fun Mk=>(if Mk=true then (if (gI.length:Int)<(oo.length:Int) then (aG.l1 k2 l0 l1 mJ cS dK gI false l1 (l1.length:Int) dK l1 (l1.length:Int) (wrap64 (dy+1))) else (if dy<dK then (aG.l1 k2 l0 l1 mJ cS dK gI false l1 (l1.length:Int) dK l1 (l1.length:Int) (wrap64 (dy+1))) else (aG.l1 k2 l0 l1 mJ cS dK gI qq l1 (l1.length:Int) dK l1 (l1.length:Int) (wrap64 (dy+1))))) else (aG.l1 k2 l0 l1 mJ cS dK gI qq l1 (l1.length:Int) dK l1 (l1.length:Int) (wrap64 (dy+1))))))=some (r1,r2):=H
           have Fg:=Aside0.mk CV
           clear CV
           by_cases c18:dy=dK
           ·rw [if_pos c18] at H
            have OQ:(dy==dK)=true:=beq_iff_eq.mpr c18
            have OS:(dy !=dK)=false:=bne_eq_false_iff_eq.mpr c18
            clear c18
            have H':=Aside0.mk H
            clear H
            have nk:0<=(dy:Int):=of_decide_eq_true (by first|(with_reducible assumption)|assumption)
            have nr:dy<(l1.length:Int):=of_decide_eq_true (by first|(with_reducible assumption)|assumption)
            obtain ⟨xx,tU,tV,e248,ij,lZ,mg⟩:=kX gA.out dy nk nr
            obtain rfl:JL=xx:=(by injection e248)
            replace ij:=(HB.out.cell (World.block_lt_of_cell? w _ ij)).trans ij
            have rE:=Aside0.mk mg
            have rF:=Aside0.mk lZ
            clear mg lZ
            replace nk:=eq_true nk
            replace nr:=eq_true nr
            go_wp2_with (first|((with_reducible refine aV (f:=68) rfl ?_);refine bH (some 44) rfl rfl Try.func68 (by kernel_rfl) rfl #[.slice tU (cZ l1 dy).length tV,.slice A0 l0.length c0] rfl (by (try simp only [List.map_toArray,List.map_cons,List.map_nil]);first|done|rfl|(simp only [List.length_drop,List.length_take];rfl)) ?_;(with_reducible refine (bG.calls k2 _ _ (cZ l1 dy) _ _ l0 oo _ ?bO ?bP ?fV ?fW Fg.out).mono ?_);(case bO=>repeat (first|exact (Kd.bp rE.out HB.out)|(with_reducible refine Kd.bV ?_ _)|(with_reducible refine Kd.bW ?_ _)|(with_reducible refine Kd.cy ?_)));(case bP=>exact rF.out);(case fV=>repeat (first|exact (Kd.bp eu.out HB.out)|(with_reducible refine Kd.bV ?_ _)|(with_reducible refine Kd.bW ?_ _)|(with_reducible refine Kd.cy ?_)));(case fW=>exact kr.out);rintro e BH ⟨v250,rfl,gG,hb⟩;refine ⟨_,rfl,?_⟩;have aA:=Aside0.mk (Kd.jd (by (with_reducible repeat (first|apply Kd.bK|apply Kd.bL|apply Kd.bX));exact dI.out) (Kd.jc gG) hb);have aC:=Aside0.mk (Kd.jd (by (with_reducible repeat (first|apply Kd.bK|apply Kd.bL|apply Kd.bX));exact cT.out) (Kd.jc gG) hb);have aD:=Aside0.mk (Kd.sJ (by (with_reducible repeat (first|apply Kd.ck|apply Kd.cn|apply Kd.cK));exact iW.out) (Kd.jc gG) hb);have aK:=Aside0.mk (Kd.ie (Kd.zu gG (Kd.Kr (by (with_reducible repeat (first|apply Kd.ck|apply Kd.cn|apply Kd.cK));exact iW.out))) (ax ay));have bF:=Aside0.mk (aj (g:=ia) (o:= .cells #[.int .i64 0,.int .i64 0] 34 (0,0)) (aH cH) hb);have bS:=Aside0.mk (ah ay hb);clear dI;clear cT;clear iW;clear cH;clear HB;have dI:=aA;have cT:=aC;have iW:=aD;have ov:=aK;have cH:=bF;have HB:=bS;clear aA aC aD aK bF bS;(try clear hb);(try clear hb2);(try clear hk);(try clear hi);(try clear gG)))
            go_roundg k2
            case measure=>have:=dX.out;have:=mq.out;omega
            case rel=>exact ⟨(qq),(wrap64 (dy+1)),(by first|rfl|(simp;done)|(simp [*];done)),(by first|rfl|(simp;done)|(simp [*];done)),H',⟨by have:=dX.out;have:=mq.out;omega⟩,⟨by (with_reducible repeat (first|apply Kd.bK|apply Kd.bL|apply Kd.bX));exact Kd.ey dI.out (fun _ hk=>hk.1)⟩,⟨by (with_reducible repeat (first|apply Kd.bK|apply Kd.bL|apply Kd.bX));exact Kd.ey cT.out (fun _ hk=>hk.1)⟩,⟨by (with_reducible repeat (first|apply Kd.ck|apply Kd.cn|apply Kd.cK));exact Kd.dh iW.out (fun _ hk=>trivial)⟩,⟨by (with_reducible repeat (first|refine aq ?_ _|refine ak ?_|refine ai ?_ _));exact cH.out⟩,⟨ay⟩⟩
           ·rw [if_neg c18] at H
            have OQ:(dy==dK)=false:=beq_eq_false_iff_ne.mpr c18
            have OS:(dy !=dK)=true:=bne_iff_ne.mpr c18
            replace H:=Option.bind_eq_some_iff.mp H
            obtain ⟨Mk,b1w,H⟩:=H
            replace H:(if Mk=true then (if (gI.length:Int)<(oo.length:Int) then (aG.l1 k2 l0 l1 mJ cS dK gI false l1 (l1.length:Int) dK l1 (l1.length:Int) (wrap64 (dy+1))) else (if dy<dK then (aG.l1 k2 l0 l1 mJ cS dK gI false l1 (l1.length:Int) dK l1 (l1.length:Int) (wrap64 (dy+1))) else (aG.l1 k2 l0 l1 mJ cS dK gI qq l1 (l1.length:Int) dK l1 (l1.length:Int) (wrap64 (dy+1))))) else (aG.l1 k2 l0 l1 mJ cS dK gI qq l1 (l1.length:Int) dK l1 (l1.length:Int) (wrap64 (dy+1))))=some (r1,r2):=H
            have zE:=Aside0.mk b1w
            clear b1w
            by_cases Sr:Mk=true
            ·subst Sr
             have H1:(if (gI.length:Int)<(oo.length:Int) then (aG.l1 k2 l0 l1 mJ cS dK gI false l1 (l1.length:Int) dK l1 (l1.length:Int) (wrap64 (dy+1))) else (if dy<dK then (aG.l1 k2 l0 l1 mJ cS dK gI false l1 (l1.length:Int) dK l1 (l1.length:Int) (wrap64 (dy+1))) else (aG.l1 k2 l0 l1 mJ cS dK gI qq l1 (l1.length:Int) dK l1 (l1.length:Int) (wrap64 (dy+1)))))=some (r1,r2):=by rw [if_pos rfl] at H;exact H
             clear H
             have H:=H1
             clear H1
             by_cases Dv:(gI.length:Int)<(oo.length:Int)
             ·rw [if_pos Dv] at H
              have OT:decide ((gI.length:Int)<(oo.length:Int))=true:=decide_eq_true Dv
              have OU:decide (gI.length<oo.length)=true:=decide_eq_true (Int.ofNat_lt.mp Dv)
              clear Dv
              have H':=Aside0.mk H
              clear H
              have nk:0<=(dy:Int):=of_decide_eq_true (by first|(with_reducible assumption)|assumption)
              have nr:dy<(l1.length:Int):=of_decide_eq_true (by first|(with_reducible assumption)|assumption)
              obtain ⟨xx,tU,tV,e248,ij,lZ,mg⟩:=kX gA.out dy nk nr
              obtain rfl:JL=xx:=(by injection e248)
              replace ij:=(HB.out.cell (World.block_lt_of_cell? w _ ij)).trans ij
              have rE:=Aside0.mk mg
              have rF:=Aside0.mk lZ
              clear mg lZ
              replace nk:=eq_true nk
              replace nr:=eq_true nr
              go_wp2_with (first|((with_reducible refine aV (f:=68) rfl ?_);refine bH (some 44) rfl rfl Try.func68 (by kernel_rfl) rfl #[.slice tU (cZ l1 dy).length tV,.slice A0 l0.length c0] rfl (by (try simp only [List.map_toArray,List.map_cons,List.map_nil]);first|done|rfl|(simp only [List.length_drop,List.length_take];rfl)) ?_;(with_reducible refine (bG.calls k2 _ _ (cZ l1 dy) _ _ l0 oo _ ?bO ?bP ?fV ?fW Fg.out).mono ?_);(case bO=>repeat (first|exact (Kd.bp rE.out HB.out)|(with_reducible refine Kd.bV ?_ _)|(with_reducible refine Kd.bW ?_ _)|(with_reducible refine Kd.cy ?_)));(case bP=>exact rF.out);(case fV=>repeat (first|exact (Kd.bp eu.out HB.out)|(with_reducible refine Kd.bV ?_ _)|(with_reducible refine Kd.bW ?_ _)|(with_reducible refine Kd.cy ?_)));(case fW=>exact kr.out);rintro e TJ ⟨v250,rfl,gG,hb⟩;refine ⟨_,rfl,?_⟩;have aA:=Aside0.mk (Kd.jd (by (with_reducible repeat (first|apply Kd.bK|apply Kd.bL|apply Kd.bX));exact dI.out) (Kd.jc gG) hb);have aC:=Aside0.mk (Kd.jd (by (with_reducible repeat (first|apply Kd.bK|apply Kd.bL|apply Kd.bX));exact cT.out) (Kd.jc gG) hb);have aD:=Aside0.mk (Kd.sJ (by (with_reducible repeat (first|apply Kd.ck|apply Kd.cn|apply Kd.cK));exact iW.out) (Kd.jc gG) hb);have aK:=Aside0.mk (Kd.ie (Kd.zu gG (Kd.Kr (by (with_reducible repeat (first|apply Kd.ck|apply Kd.cn|apply Kd.cK));exact iW.out))) (ax ay));have bF:=Aside0.mk (aj (g:=ia) (o:= .cells #[.int .i64 0,.int .i64 0] 34 (0,0)) (aH cH) hb);have bS:=Aside0.mk (ah ay hb);clear dI;clear cT;clear iW;clear cH;clear HB;have dI:=aA;have cT:=aC;have iW:=aD;have ov:=aK;have cH:=bF;have HB:=bS;clear aA aC aD aK bF bS;(try clear hb);(try clear hb2);(try clear hk);(try clear hi);(try clear gG);obtain ⟨Ao24,co24,b8d⟩:=Kd.gJ ov.out;subst b8d)|(go_at_call 27;(with_reducible refine (bT.calls k2 _ _ gI _ _ oo true _ ?bO ?bP ?fV ?fW zE.out).mono ?_);(case bO=>repeat (first|exact (Kd.fh iW.out).2.2|(with_reducible refine Kd.bV ?_ _)|(with_reducible refine Kd.bW ?_ _)|(with_reducible refine Kd.cy ?_)));(case bP=>exact (Kd.fh iW.out).2.1);(case fV=>repeat (first|exact (Kd.fh ov.out).2.2|(with_reducible refine Kd.bV ?_ _)|(with_reducible refine Kd.bW ?_ _)|(with_reducible refine Kd.cy ?_)));(case fW=>exact (Kd.fh ov.out).2.1);rintro e w' ⟨rfl,⟨nd,rfl⟩⟩))
              go_roundg k2
              case measure=>have:=dX.out;have:=mq.out;omega
              case rel=>exact ⟨(false),(wrap64 (dy+1)),(by first|rfl|(simp;done)|(simp [*];done)),(by first|rfl|(simp;done)|(simp [*];done)),H',⟨by have:=dX.out;have:=mq.out;omega⟩,⟨by (with_reducible repeat (first|apply Kd.bK|apply Kd.bL|apply Kd.bX));exact Kd.ey dI.out (fun _ hk=>hk.1)⟩,⟨by (with_reducible repeat (first|apply Kd.bK|apply Kd.bL|apply Kd.bX));exact Kd.ey cT.out (fun _ hk=>hk.1)⟩,⟨by (with_reducible repeat (first|apply Kd.ck|apply Kd.cn|apply Kd.cK));exact Kd.dh iW.out (fun _ hk=>trivial)⟩,⟨by (with_reducible repeat (first|refine aq ?_ _|refine ak ?_|refine ai ?_ _));exact cH.out⟩,⟨ay⟩⟩
             ·rw [if_neg Dv] at H
              have OT:decide ((gI.length:Int)<(oo.length:Int))=false:=decide_eq_false Dv
              have OU:decide (gI.length<oo.length)=false:=decide_eq_false (fun h=>Dv (Int.ofNat_lt.mpr h))
              clear Dv
              by_cases JN:dy<dK
              ·rw [if_pos JN] at H
               have OV:decide (dy<dK)=true:=decide_eq_true JN
               clear JN
               have H':=Aside0.mk H
               clear H
               have nk:0<=(dy:Int):=of_decide_eq_true (by first|(with_reducible assumption)|assumption)
               have nr:dy<(l1.length:Int):=of_decide_eq_true (by first|(with_reducible assumption)|assumption)
               obtain ⟨xx,tU,tV,e248,ij,lZ,mg⟩:=kX gA.out dy nk nr
               obtain rfl:JL=xx:=(by injection e248)
               replace ij:=(HB.out.cell (World.block_lt_of_cell? w _ ij)).trans ij
               have rE:=Aside0.mk mg
               have rF:=Aside0.mk lZ
               clear mg lZ
               replace nk:=eq_true nk
               replace nr:=eq_true nr
               go_wp2_with (first|((with_reducible refine aV (f:=68) rfl ?_);refine bH (some 44) rfl rfl Try.func68 (by kernel_rfl) rfl #[.slice tU (cZ l1 dy).length tV,.slice A0 l0.length c0] rfl (by (try simp only [List.map_toArray,List.map_cons,List.map_nil]);first|done|rfl|(simp only [List.length_drop,List.length_take];rfl)) ?_;(with_reducible refine (bG.calls k2 _ _ (cZ l1 dy) _ _ l0 oo _ ?bO ?bP ?fV ?fW Fg.out).mono ?_);(case bO=>repeat (first|exact (Kd.bp rE.out HB.out)|(with_reducible refine Kd.bV ?_ _)|(with_reducible refine Kd.bW ?_ _)|(with_reducible refine Kd.cy ?_)));(case bP=>exact rF.out);(case fV=>repeat (first|exact (Kd.bp eu.out HB.out)|(with_reducible refine Kd.bV ?_ _)|(with_reducible refine Kd.bW ?_ _)|(with_reducible refine Kd.cy ?_)));(case fW=>exact kr.out);rintro e wh ⟨v250,rfl,gG,hb⟩;refine ⟨_,rfl,?_⟩;have aA:=Aside0.mk (Kd.jd (by (with_reducible repeat (first|apply Kd.bK|apply Kd.bL|apply Kd.bX));exact dI.out) (Kd.jc gG) hb);have aC:=Aside0.mk (Kd.jd (by (with_reducible repeat (first|apply Kd.bK|apply Kd.bL|apply Kd.bX));exact cT.out) (Kd.jc gG) hb);have aD:=Aside0.mk (Kd.sJ (by (with_reducible repeat (first|apply Kd.ck|apply Kd.cn|apply Kd.cK));exact iW.out) (Kd.jc gG) hb);have aK:=Aside0.mk (Kd.ie (Kd.zu gG (Kd.Kr (by (with_reducible repeat (first|apply Kd.ck|apply Kd.cn|apply Kd.cK));exact iW.out))) (ax ay));have bF:=Aside0.mk (aj (g:=ia) (o:= .cells #[.int .i64 0,.int .i64 0] 34 (0,0)) (aH cH) hb);have bS:=Aside0.mk (ah ay hb);clear dI;clear cT;clear iW;clear cH;clear HB;have dI:=aA;have cT:=aC;have iW:=aD;have ov:=aK;have cH:=bF;have HB:=bS;clear aA aC aD aK bF bS;(try clear hb);(try clear hb2);(try clear hk);(try clear hi);(try clear gG);obtain ⟨tW,tX,a3z⟩:=Kd.gJ ov.out;subst a3z)|(go_at_call 27;(with_reducible refine (bT.calls k2 _ _ gI _ _ oo true _ ?bO ?bP ?fV ?fW zE.out).mono ?_);(case bO=>repeat (first|exact (Kd.fh iW.out).2.2|(with_reducible refine Kd.bV ?_ _)|(with_reducible refine Kd.bW ?_ _)|(with_reducible refine Kd.cy ?_)));(case bP=>exact (Kd.fh iW.out).2.1);(case fV=>repeat (first|exact (Kd.fh ov.out).2.2|(with_reducible refine Kd.bV ?_ _)|(with_reducible refine Kd.bW ?_ _)|(with_reducible refine Kd.cy ?_)));(case fW=>exact (Kd.fh ov.out).2.1);rintro e w' ⟨rfl,⟨nd,rfl⟩⟩))
               go_roundg k2
               case measure=>have:=dX.out;have:=mq.out;omega
               case rel=>exact ⟨(false),(wrap64 (dy+1)),(by first|rfl|(simp;done)|(simp [*];done)),(by first|rfl|(simp;done)|(simp [*];done)),H',⟨by have:=dX.out;have:=mq.out;omega⟩,⟨by (with_reducible repeat (first|apply Kd.bK|apply Kd.bL|apply Kd.bX));exact Kd.ey dI.out (fun _ hk=>hk.1)⟩,⟨by (with_reducible repeat (first|apply Kd.bK|apply Kd.bL|apply Kd.bX));exact Kd.ey cT.out (fun _ hk=>hk.1)⟩,⟨by (with_reducible repeat (first|apply Kd.ck|apply Kd.cn|apply Kd.cK));exact Kd.dh iW.out (fun _ hk=>trivial)⟩,⟨by (with_reducible repeat (first|refine aq ?_ _|refine ak ?_|refine ai ?_ _));exact cH.out⟩,⟨ay⟩⟩
              ·rw [if_neg JN] at H
               have OV:decide (dy<dK)=false:=decide_eq_false JN
               clear JN
               have H':=Aside0.mk H
               clear H
               have nk:0<=(dy:Int):=of_decide_eq_true (by first|(with_reducible assumption)|assumption)
               have nr:dy<(l1.length:Int):=of_decide_eq_true (by first|(with_reducible assumption)|assumption)
               obtain ⟨xx,tU,tV,e248,ij,lZ,mg⟩:=kX gA.out dy nk nr
               obtain rfl:JL=xx:=(by injection e248)
               replace ij:=(HB.out.cell (World.block_lt_of_cell? w _ ij)).trans ij
               have rE:=Aside0.mk mg
               have rF:=Aside0.mk lZ
               clear mg lZ
               replace nk:=eq_true nk
               replace nr:=eq_true nr
               go_wp2_with (first|((with_reducible refine aV (f:=68) rfl ?_);refine bH (some 44) rfl rfl Try.func68 (by kernel_rfl) rfl #[.slice tU (cZ l1 dy).length tV,.slice A0 l0.length c0] rfl (by (try simp only [List.map_toArray,List.map_cons,List.map_nil]);first|done|rfl|(simp only [List.length_drop,List.length_take];rfl)) ?_;(with_reducible refine (bG.calls k2 _ _ (cZ l1 dy) _ _ l0 oo _ ?bO ?bP ?fV ?fW Fg.out).mono ?_);(case bO=>repeat (first|exact (Kd.bp rE.out HB.out)|(with_reducible refine Kd.bV ?_ _)|(with_reducible refine Kd.bW ?_ _)|(with_reducible refine Kd.cy ?_)));(case bP=>exact rF.out);(case fV=>repeat (first|exact (Kd.bp eu.out HB.out)|(with_reducible refine Kd.bV ?_ _)|(with_reducible refine Kd.bW ?_ _)|(with_reducible refine Kd.cy ?_)));(case fW=>exact kr.out);rintro e Yx ⟨v250,rfl,gG,hb⟩;refine ⟨_,rfl,?_⟩;have aA:=Aside0.mk (Kd.jd (by (with_reducible repeat (first|apply Kd.bK|apply Kd.bL|apply Kd.bX));exact dI.out) (Kd.jc gG) hb);have aC:=Aside0.mk (Kd.jd (by (with_reducible repeat (first|apply Kd.bK|apply Kd.bL|apply Kd.bX));exact cT.out) (Kd.jc gG) hb);have aD:=Aside0.mk (Kd.sJ (by (with_reducible repeat (first|apply Kd.ck|apply Kd.cn|apply Kd.cK));exact iW.out) (Kd.jc gG) hb);have aK:=Aside0.mk (Kd.ie (Kd.zu gG (Kd.Kr (by (with_reducible repeat (first|apply Kd.ck|apply Kd.cn|apply Kd.cK));exact iW.out))) (ax ay));have bF:=Aside0.mk (aj (g:=ia) (o:= .cells #[.int .i64 0,.int .i64 0] 34 (0,0)) (aH cH) hb);have bS:=Aside0.mk (ah ay hb);clear dI;clear cT;clear iW;clear cH;clear HB;have dI:=aA;have cT:=aC;have iW:=aD;have ov:=aK;have cH:=bF;have HB:=bS;clear aA aC aD aK bF bS;(try clear hb);(try clear hb2);(try clear hk);(try clear hi);(try clear gG);obtain ⟨Ao29,co29,b8e⟩:=Kd.gJ ov.out;subst b8e)|(go_at_call 27;(with_reducible refine (bT.calls k2 _ _ gI _ _ oo true _ ?bO ?bP ?fV ?fW zE.out).mono ?_);(case bO=>repeat (first|exact (Kd.fh iW.out).2.2|(with_reducible refine Kd.bV ?_ _)|(with_reducible refine Kd.bW ?_ _)|(with_reducible refine Kd.cy ?_)));(case bP=>exact (Kd.fh iW.out).2.1);(case fV=>repeat (first|exact (Kd.fh ov.out).2.2|(with_reducible refine Kd.bV ?_ _)|(with_reducible refine Kd.bW ?_ _)|(with_reducible refine Kd.cy ?_)));(case fW=>exact (Kd.fh ov.out).2.1);rintro e w' ⟨rfl,⟨nd,rfl⟩⟩))
               go_roundg k2
               case measure=>have:=dX.out;have:=mq.out;omega
               case rel=>exact ⟨(qq),(wrap64 (dy+1)),(by first|rfl|(simp;done)|(simp [*];done)),(by first|rfl|(simp;done)|(simp [*];done)),H',⟨by have:=dX.out;have:=mq.out;omega⟩,⟨by (with_reducible repeat (first|apply Kd.bK|apply Kd.bL|apply Kd.bX));exact Kd.ey dI.out (fun _ hk=>hk.1)⟩,⟨by (with_reducible repeat (first|apply Kd.bK|apply Kd.bL|apply Kd.bX));exact Kd.ey cT.out (fun _ hk=>hk.1)⟩,⟨by (with_reducible repeat (first|apply Kd.ck|apply Kd.cn|apply Kd.cK));exact Kd.dh iW.out (fun _ hk=>trivial)⟩,⟨by (with_reducible repeat (first|refine aq ?_ _|refine ak ?_|refine ai ?_ _));exact cH.out⟩,⟨ay⟩⟩
            ·replace Sr:=Bool.eq_false_iff.mpr Sr
             subst Sr
             have H1:(aG.l1 k2 l0 l1 mJ cS dK gI qq l1 (l1.length:Int) dK l1 (l1.length:Int) (wrap64 (dy+1)))=some (r1,r2):=by rw [if_neg (show ¬(false=true) by decide)] at H;exact H
             clear H
             have H:=H1
             clear H1
             have H':=Aside0.mk H
             clear H
             have nk:0<=(dy:Int):=of_decide_eq_true (by first|(with_reducible assumption)|assumption)
             have nr:dy<(l1.length:Int):=of_decide_eq_true (by first|(with_reducible assumption)|assumption)
             obtain ⟨xx,tU,tV,e248,ij,lZ,mg⟩:=kX gA.out dy nk nr
             obtain rfl:JL=xx:=(by injection e248)
             replace ij:=(HB.out.cell (World.block_lt_of_cell? w _ ij)).trans ij
             have rE:=Aside0.mk mg
             have rF:=Aside0.mk lZ
             clear mg lZ
             replace nk:=eq_true nk
             replace nr:=eq_true nr
             go_wp2_with (first|((with_reducible refine aV (f:=68) rfl ?_);refine bH (some 44) rfl rfl Try.func68 (by kernel_rfl) rfl #[.slice tU (cZ l1 dy).length tV,.slice A0 l0.length c0] rfl (by (try simp only [List.map_toArray,List.map_cons,List.map_nil]);first|done|rfl|(simp only [List.length_drop,List.length_take];rfl)) ?_;(with_reducible refine (bG.calls k2 _ _ (cZ l1 dy) _ _ l0 oo _ ?bO ?bP ?fV ?fW Fg.out).mono ?_);(case bO=>repeat (first|exact (Kd.bp rE.out HB.out)|(with_reducible refine Kd.bV ?_ _)|(with_reducible refine Kd.bW ?_ _)|(with_reducible refine Kd.cy ?_)));(case bP=>exact rF.out);(case fV=>repeat (first|exact (Kd.bp eu.out HB.out)|(with_reducible refine Kd.bV ?_ _)|(with_reducible refine Kd.bW ?_ _)|(with_reducible refine Kd.cy ?_)));(case fW=>exact kr.out);rintro e yM ⟨v250,rfl,gG,hb⟩;refine ⟨_,rfl,?_⟩;have aA:=Aside0.mk (Kd.jd (by (with_reducible repeat (first|apply Kd.bK|apply Kd.bL|apply Kd.bX));exact dI.out) (Kd.jc gG) hb);have aC:=Aside0.mk (Kd.jd (by (with_reducible repeat (first|apply Kd.bK|apply Kd.bL|apply Kd.bX));exact cT.out) (Kd.jc gG) hb);have aD:=Aside0.mk (Kd.sJ (by (with_reducible repeat (first|apply Kd.ck|apply Kd.cn|apply Kd.cK));exact iW.out) (Kd.jc gG) hb);have aK:=Aside0.mk (Kd.ie (Kd.zu gG (Kd.Kr (by (with_reducible repeat (first|apply Kd.ck|apply Kd.cn|apply Kd.cK));exact iW.out))) (ax ay));have bF:=Aside0.mk (aj (g:=ia) (o:= .cells #[.int .i64 0,.int .i64 0] 34 (0,0)) (aH cH) hb);have bS:=Aside0.mk (ah ay hb);clear dI;clear cT;clear iW;clear cH;clear HB;have dI:=aA;have cT:=aC;have iW:=aD;have ov:=aK;have cH:=bF;have HB:=bS;clear aA aC aD aK bF bS;(try clear hb);(try clear hb2);(try clear hk);(try clear hi);(try clear gG);obtain ⟨Ao31,co31,b8f⟩:=Kd.gJ ov.out;subst b8f)|(go_at_call 27;(with_reducible refine (bT.calls k2 _ _ gI _ _ oo false _ ?bO ?bP ?fV ?fW zE.out).mono ?_);(case bO=>repeat (first|exact (Kd.fh iW.out).2.2|(with_reducible refine Kd.bV ?_ _)|(with_reducible refine Kd.bW ?_ _)|(with_reducible refine Kd.cy ?_)));(case bP=>exact (Kd.fh iW.out).2.1);(case fV=>repeat (first|exact (Kd.fh ov.out).2.2|(with_reducible refine Kd.bV ?_ _)|(with_reducible refine Kd.bW ?_ _)|(with_reducible refine Kd.cy ?_)));(case fW=>exact (Kd.fh ov.out).2.1);rintro e w' ⟨rfl,⟨nd,rfl⟩⟩))
             go_roundg k2
             case measure=>have:=dX.out;have:=mq.out;omega
             case rel=>exact ⟨(qq),(wrap64 (dy+1)),(by first|rfl|(simp;done)|(simp [*];done)),(by first|rfl|(simp;done)|(simp [*];done)),H',⟨by have:=dX.out;have:=mq.out;omega⟩,⟨by (with_reducible repeat (first|apply Kd.bK|apply Kd.bL|apply Kd.bX));exact Kd.ey dI.out (fun _ hk=>hk.1)⟩,⟨by (with_reducible repeat (first|apply Kd.bK|apply Kd.bL|apply Kd.bX));exact Kd.ey cT.out (fun _ hk=>hk.1)⟩,⟨by (with_reducible repeat (first|apply Kd.ck|apply Kd.cn|apply Kd.cK));exact Kd.dh iW.out (fun _ hk=>trivial)⟩,⟨by (with_reducible repeat (first|refine aq ?_ _|refine ak ?_|refine ai ?_ _));exact cH.out⟩,⟨ay⟩⟩
          ·rw [if_neg c16] at H
           exact absurd H (by simp)
         ·rw [if_neg c15] at H
          exact absurd H (by simp)
        ·rw [if_neg c14] at H
         have JD:decide (dy<(l1.length:Int))=false:=decide_eq_false c14
         clear c14
         by_cases Ss:qq=true
         ·subst Ss
          have H1:(if cS.length<5864062014805 then (aG.l0 k2 l0 l1 mJ (cS++[gI]) l1 (l1.length:Int) (wrap64 (dK+1))) else (none))=some (r1,r2):=by rw [if_pos rfl] at H;exact H
          clear H
          have H:=H1
          clear H1
          by_cases Su:cS.length<5864062014805
          ·rw [if_pos Su] at H
           have b3O:=Aside0.mk Su
           clear Su
           obtain ⟨b1x,JO⟩:∃y_:List (List Int),y_=(cS++[gI]):=⟨_,rfl⟩
           replace H:(aG.l0 k2 l0 l1 mJ b1x l1 (l1.length:Int) (wrap64 (dK+1)))=some (r1,r2):=by first|(rw [JO];with_reducible exact H)|(have eF:=(Option.bind_some _ _).symm.trans H;rw [JO];with_reducible exact eF)|(have eF:=(Option.bind_some _ _).symm.trans H;with_reducible exact eF)|with_reducible exact H|(rw [JO];exact H)|exact H
           have b3P:=Aside0.mk JO
           clear JO
           have H':=Aside0.mk H
           clear H
           go_wp2_with (first|((with_reducible refine gW (b:= .append) (xs:= #[.tmp 67,.tmp 69]) rfl ?_);(try (refine mA (by rfl) ?_;dsimp only));at_builtin;refine Kd.FL (Kd.slice 3 (Kd.int .i64)) (w0:=w) w.heap.size rfl (.tmp 67) (.tmp 69) 22 23 (.slice none 0 0) 24 rfl Try.underlying22 Ya rfl (by decide) (by omega) u6 cS gI [.slice Sp gI.length Sq] (fun _=>True) (fun k_=>some k_=(.slice Sp gI.length Sq:Value).ownBlock) rfl rfl ?aP (fun k_ RI=>((Kd.dh (ok':=fun k_=>((fun _=>True)) k_/\some k_≠(u6:Value).ownBlock) (Kd.qC (iW.out) (Kd.nA cT.out) (by decide)) (fun k_ hk=>⟨trivial,hk.2⟩))).1 k_ RI.symm) ?aF ?aO ?aB ?aS ?aL ?_;(case aP=>exact Kd.a3S (Kd.dh (Kd.DN rfl (Kd.dh (ok':=fun k_=>((fun _=>True)) k_/\some k_≠(u6:Value).ownBlock) (Kd.qC (iW.out) (Kd.nA cT.out) (by decide)) (fun k_ hk=>⟨trivial,hk.2⟩))) (fun _ h_=>h_)));(case aB=>exact ay);(case aF=>exact (fun _ _=>trivial));(case aO=>exact (by (with_reducible repeat (first|apply Kd.bK|apply Kd.bL|apply Kd.bX));exact Kd.ey cT.out (fun k_ hk=>⟨trivial,fun e_=>hk e_⟩)));(case aS=>exact (ax ay));(case aL=>have:=b3O.out;omega);intro v246 w34 ho hb hg hat;rw [<-b3P.out] at ho;have aA:=Aside0.mk (Kd.DR (by (with_reducible repeat (first|apply Kd.bK|apply Kd.bL|apply Kd.bX));exact dI.out) (Kd.nA (by (with_reducible repeat (first|apply Kd.bK|apply Kd.bL|apply Kd.bX));exact cT.out)) (by decide) hg);have aC:=Aside0.mk (kJ (g:=ia) (o:= .cells #[.int .i64 0,.int .i64 0] 34 (0,0)) (aH cH) hg (Kd.a1k cT.out cH.out (by decide)));have aD:=Aside0.mk (hb);have aK:=Aside0.mk (ho);clear dI;clear cH;clear HB;clear cT;clear iW;have dI:=aA;have cH:=aC;have HB:=aD;have b3Q:=aK;clear aA aC aD aK;clear ho hb hg hat))
           go_roundg k2
           case measure=>have:=dX.out;have:=mq.out;omega
           case rel=>exact ⟨(b1x),(wrap64 (dK+1)),(by first|rfl|(simp;done)|(simp [*];done)),H',⟨by have:=dX.out;have:=mq.out;omega⟩,⟨by (with_reducible repeat (first|apply Kd.bK|apply Kd.bL|apply Kd.bX));exact Kd.ey dI.out (fun _ hk=>trivial)⟩,⟨by (with_reducible repeat (first|apply Kd.bK|apply Kd.bL|apply Kd.bX));exact b3Q.out⟩,⟨by (with_reducible repeat (first|refine aq ?_ _|refine ak ?_|refine ai ?_ _));exact cH.out⟩,⟨ay⟩⟩
          ·rw [if_neg Su] at H
           exact absurd H (by simp)
         ·replace Ss:=Bool.eq_false_iff.mpr Ss
          subst Ss
          have H1:(aG.l0 k2 l0 l1 mJ cS l1 (l1.length:Int) (wrap64 (dK+1)))=some (r1,r2):=by rw [if_neg (show ¬(false=true) by decide)] at H;exact H
          clear H
          have H:=H1
          clear H1
          have H':=Aside0.mk H
          clear H
          go_wp2
          go_roundg k2
          case measure=>have:=dX.out;have:=mq.out;omega
          case rel=>exact ⟨(cS),(wrap64 (dK+1)),(by first|rfl|(simp;done)|(simp [*];done)),H',⟨by have:=dX.out;have:=mq.out;omega⟩,⟨by (with_reducible repeat (first|apply Kd.bK|apply Kd.bL|apply Kd.bX));exact Kd.ey dI.out (fun _ hk=>trivial)⟩,⟨by (with_reducible repeat (first|apply Kd.bK|apply Kd.bL|apply Kd.bX));exact Kd.ey cT.out (fun _ hk=>trivial)⟩,⟨by (with_reducible repeat (first|refine aq ?_ _|refine ak ?_|refine ai ?_ _));exact cH.out⟩,⟨ay⟩⟩
     ·rw [if_neg c10] at H
      exact absurd H (by simp)
    ·rw [if_neg c9] at H
     exact absurd H (by simp)
   ·rw [if_neg c8] at H
    have qL:decide (dK<(l1.length:Int))=false:=decide_eq_false c8
    clear c8
    have H':=Aside0.mk H
    clear H
    go_wp2
    go_loopg [5,74] k1 (fun kq v5 v74 w'=>∃(sU:List (dz)) (iu:Int),v74= .int .i64 iu/\Aside0 (aG.l2 kq sU cS l0 (l0.length:Int) iu=some (r1,r2))/\Aside0 (kq<=k1)/\Aside0 (Kd.S mm 96 w' w.heap.size (fun _=>True) v5 sU)/\Aside0 (Kd.S (Kd.slice 3 (Kd.int .i64)) 23 w' w.heap.size (fun _=>True) u6 cS)/\Aside0 (w'.heap[ia]? =some (.cells #[.int .i64 0,.int .i64 0] 34 (0,0)))/\Aside0 (Below w.heap.size w w'))
    case atStart=>exact ⟨(mJ),(0),(by first|rfl|(simp;done)|(simp [*];done)),H',⟨Nat.le_refl _⟩,⟨by (with_reducible repeat (first|apply Kd.bK|apply Kd.bL|apply Kd.bX));exact dI.out⟩,⟨by (with_reducible repeat (first|apply Kd.bK|apply Kd.bL|apply Kd.bX));exact cT.out⟩,⟨by (with_reducible repeat (first|refine aq ?_ _|refine ak ?_|refine ai ?_ _));exact cH.out⟩,⟨ay⟩⟩
    case round=>
     clear H'
     try clear c1
     try clear c2
     try clear p2
     try clear q2
     try clear hx2
     try clear c3
     try clear c5
     try clear c6
     try clear p6
     try clear c8
     try clear qL
     try clear c9
     try clear wI
     try clear c10
     try clear xm
     try clear c14
     try clear JD
     try clear c15
     try clear OO
     try clear c16
     try clear JM
     try clear c18
     try clear OQ
     try clear OS
     try clear Sr
     try clear Dv
     try clear OT
     try clear OU
     try clear c24
     try clear p24
     try clear q24
     try clear b1y
     try clear JN
     try clear OV
     try clear Ss
     try clear Su
     try clear uI
     try clear ij
     try clear p2
     try clear GW
     try clear nk
     try clear q2
     try clear GX
     try clear nr
     obtain ⟨sU,iu,rfl,HA,mq,dI,cT,cH,HB⟩:=hrel
     cases gk with
     |zero=>exact absurd HA.out (by simp [aG.l2])
     |succ k2=>
      have H:=HA.out
      clear HA
      simp only [aG.l2] at H
      by_cases Og:iu<(l0.length:Int)
      ·rw [if_pos Og] at H
       have Xj:decide (iu<(l0.length:Int))=true:=decide_eq_true Og
       clear Og
       by_cases QU:0<=iu
       ·rw [if_pos QU] at H
        have a5G:decide (0<=iu)=true:=decide_eq_true QU
        clear QU
        by_cases Vp:iu<(l0.length:Int)
        ·rw [if_pos Vp] at H
         have a5H:decide (iu<(l0.length:Int))=true:=decide_eq_true Vp
         clear Vp
         have H':=Aside0.mk H
         clear H
         have Sv:0<=(iu:Int):=of_decide_eq_true (by first|(with_reducible assumption)|assumption)
         have Sw:iu<(l0.length:Int):=of_decide_eq_true (by first|(with_reducible assumption)|assumption)
         obtain ⟨ad253,b8g,AG⟩:=Kd.gL eu.out iu Sv Sw
         cases b8g
         replace AG:=(HB.out.cell (World.block_lt_of_cell? w _ AG)).trans AG
         replace Sv:=eq_true Sv
         replace Sw:=eq_true Sw
         go_wp2_with (first|((with_reducible refine bn (N:=16) rfl ?_);(try (refine mA (by rfl) ?_;dsimp only));refine bq ?hg (N:=16) ?hd (cs:= #[.slice none 0 0,.bool false,.int .i64 0]) (t:=96) ?hr ?_;(case hd=>rfl);(case hg=>rfl);(case hr=>first|(go_simp;done)|(go_simp;rfl));intro fz hg QS aU hb;have aA:=Aside0.mk (Kd.ny (Kd.a1l (by (with_reducible repeat (first|apply Kd.bK|apply Kd.bL|apply Kd.bX));exact dI.out) fz (Nat.le_of_eq hg.symm)) hb);have aC:=Aside0.mk (Kd.ny (by (with_reducible repeat (first|apply Kd.bK|apply Kd.bL|apply Kd.bX));exact cT.out) hb);have aD:=Aside0.mk (aj (g:=ia) (o:= .cells #[.int .i64 0,.int .i64 0] 34 (0,0)) (aH cH) hb);have aK:=Aside0.mk (ah ay hb);have bF:=Aside0.mk (aU);have bS:=Aside0.mk ((by rw [hg];exact (ax ay):w.heap.size<=fz));have bY:=Aside0.mk ((by rw [hg];exact (ax ay):w.heap.size<=fz));have eX:=Aside0.mk ((by rw [hg];exact Nat.ne_of_lt (bf (g:=ia) (o:= .cells #[.int .i64 0,.int .i64 0] 34 (0,0)) (aH cH)):ia≠fz));have fY:=Aside0.mk ((by rw [hg];exact Nat.ne_of_gt (bf (g:=ia) (o:= .cells #[.int .i64 0,.int .i64 0] 34 (0,0)) (aH cH)):fz≠ia));clear dI;clear cT;clear cH;clear HB;have dI:=aA;have cT:=aC;have cH:=aD;have HB:=aK;have eJ:=bF;have GW254:=bS;have GE254:=bY;have qV:=eX;have Dw:=fY;clear aA aC aD aK bF bS bY eX fY;clear hb aU hg;have hnb39:=Dw.out;have hnc39:=qV.out;have El:QS.cell? ⟨fz,0,none⟩=some (.slice none 0 0):=(ag eJ.out 0).trans rfl;have Em:QS.cell? ⟨fz,1,none⟩=some (.bool false):=(ag eJ.out 1).trans rfl;have Vq:QS.cell? ⟨fz,2,none⟩=some (.int .i64 0):=(ag eJ.out 2).trans rfl;have En:=af eJ.out 0;have Eo:=af eJ.out 1;have Vr:=af eJ.out 2;obtain ⟨b1z,Mo,b8h⟩:=Kd.ri cT.out;subst b8h))
         go_loopg [81] k2 (fun kq v81 w'=>∃(fJ:Int) (fR:List Int) (u255000:Value),v81= .int .i64 fJ/\Aside0 (aG.l3 kq sU cS (rd l0 iu) l0 (l0.length:Int) iu cS (cS.length:Int) fJ fR false 1=some (r1,r2))/\Aside0 (kq<=k2)/\Aside0 (Kd.S mm 96 w' w.heap.size (fun k_=>some k_≠(u255000:Value).ownBlock/\k_≠fz) u5 sU)/\Aside0 (Kd.S (Kd.slice 3 (Kd.int .i64)) 23 w' w.heap.size (fun k_=>some k_≠(u255000:Value).ownBlock) (.slice b1z cS.length Mo) cS)/\Aside0 (Kd.S (Kd.slice 3 (Kd.int .i64)) 23 w' w.heap.size (fun k_=>some k_≠(u255000:Value).ownBlock) (.slice b1z cS.length Mo) cS)/\Aside0 (Kd.R (Kd.int .i64) 3 w' w.heap.size (fun _=>True) u255000 fR)/\Aside0 (w'.heap[ia]? =some (.cells #[.int .i64 0,.int .i64 0] 34 (0,0)))/\Aside0 (w'.heap[fz]? =some (.cells #[u255000,.bool false,.int .i64 1] 96 (0,0)))/\Aside0 (Below w.heap.size w w'))
         case atStart=>exact ⟨(0),(([]:List Int)),(.slice none 0 0),(by first|rfl|(simp;done)|(simp [*];done)),H',⟨Nat.le_refl _⟩,⟨by (with_reducible repeat (first|apply Kd.bK|apply Kd.bL|apply Kd.bX));exact Kd.ey (Kd.jU (p:=⟨fz,2,none⟩) (Kd.jU (p:=⟨fz,1,none⟩) (Kd.jU (p:=⟨fz,0,none⟩) (Kd.ey dI.out (fun k_ hk=>(⟨hk,hk.2⟩:_/\k_≠fz))) (fun _ hk=>hk.2) (.slice none 0 0)) (fun _ hk=>hk.2) (.bool false)) (fun _ hk=>hk.2) (.int .i64 1)) (fun _ hk=>⟨(by simp [Value.ownBlock]),hk.1.2⟩)⟩,⟨by (with_reducible repeat (first|apply Kd.bK|apply Kd.bL|apply Kd.bX));exact Kd.ey (Kd.jU (p:=⟨fz,2,none⟩) (Kd.jU (p:=⟨fz,1,none⟩) (Kd.jU (p:=⟨fz,0,none⟩) (Kd.pY cT.out eJ.out (by decide)) (fun _ hk=>hk.2) (.slice none 0 0)) (fun _ hk=>hk.2) (.bool false)) (fun _ hk=>hk.2) (.int .i64 1)) (fun _ hk=>(by simp [Value.ownBlock]))⟩,⟨by (with_reducible repeat (first|apply Kd.bK|apply Kd.bL|apply Kd.bX));exact Kd.ey (Kd.jU (p:=⟨fz,2,none⟩) (Kd.jU (p:=⟨fz,1,none⟩) (Kd.jU (p:=⟨fz,0,none⟩) (Kd.pY cT.out eJ.out (by decide)) (fun _ hk=>hk.2) (.slice none 0 0)) (fun _ hk=>hk.2) (.bool false)) (fun _ hk=>hk.2) (.int .i64 1)) (fun _ hk=>(by simp [Value.ownBlock]))⟩,⟨by first|exact Kd.DL _ _ _ _ _|exact Kd.b2v _ _ _ _ _|exact Kd.b2w _ _ _ _ _|exact Kd.b2l _ _ _ _ _|exact Kd.b2o _ _ _ _ _⟩,⟨by (with_reducible repeat (first|refine aq ?_ _|refine ak ?_|refine ai ?_ _));refine bM ?_ qV.out _;(with_reducible repeat (first|refine aq ?_ _|refine ak ?_|refine ai ?_ _));refine bM ?_ qV.out _;(with_reducible repeat (first|refine aq ?_ _|refine ak ?_|refine ai ?_ _));refine bM ?_ qV.out _;(with_reducible repeat (first|refine aq ?_ _|refine ak ?_|refine ai ?_ _));exact cH.out⟩,⟨by (with_reducible repeat (first|refine aq ?_ _|refine ak ?_|refine ai ?_ _));refine bh (cs:= #[.slice none 0 0,.bool false,.int .i64 0]) ?_ 2 _ rfl;(with_reducible repeat (first|refine aq ?_ _|refine ak ?_|refine ai ?_ _));refine bh (cs:= #[.slice none 0 0,.bool false,.int .i64 0]) ?_ 1 _ rfl;(with_reducible repeat (first|refine aq ?_ _|refine ak ?_|refine ai ?_ _));refine bh (cs:= #[.slice none 0 0,.bool false,.int .i64 0]) ?_ 0 _ rfl;(with_reducible repeat (first|refine aq ?_ _|refine ak ?_|refine ai ?_ _));exact eJ.out⟩,⟨ay⟩⟩
         case round=>
          clear H'
          try clear c1
          try clear c2
          try clear p2
          try clear q2
          try clear hx2
          try clear c3
          try clear c5
          try clear c6
          try clear p6
          try clear c8
          try clear qL
          try clear c9
          try clear wI
          try clear c10
          try clear xm
          try clear c14
          try clear JD
          try clear c15
          try clear OO
          try clear c16
          try clear JM
          try clear c18
          try clear OQ
          try clear OS
          try clear Sr
          try clear Dv
          try clear OT
          try clear OU
          try clear c24
          try clear p24
          try clear q24
          try clear b1y
          try clear JN
          try clear OV
          try clear p25
          try clear q25
          try clear b8i
          try clear Ss
          try clear Su
          try clear Og
          try clear Xj
          try clear QU
          try clear a5G
          try clear Vp
          try clear a5H
          try clear c39
          try clear El
          try clear Em
          try clear Vq
          try clear En
          try clear Eo
          try clear Vr
          try clear uI
          try clear ij
          try clear AG
          try clear p2
          try clear p24
          try clear GW
          try clear nk
          try clear Sv
          try clear p6
          try clear q2
          try clear q24
          try clear GX
          try clear nr
          try clear Sw
          obtain ⟨fJ,fR,u255000,rfl,HA,wY,dI,cT,nT,kO,cH,eJ,HB⟩:=hrel
          cases gk with
          |zero=>exact absurd HA.out (by simp [aG.l3])
          |succ k3=>
           have H:=HA.out
           clear HA
           simp only [aG.l3] at H
           by_cases Sy:fJ<(cS.length:Int)
           ·rw [if_pos Sy] at H
            have a5I:decide (fJ<(cS.length:Int))=true:=decide_eq_true Sy
            clear Sy
            by_cases BU:0<=fJ
            ·rw [if_pos BU] at H
             have WA:decide (0<=fJ)=true:=decide_eq_true BU
             clear BU
             by_cases Fh:fJ<(cS.length:Int)
             ·rw [if_pos Fh] at H
              have a4T:decide (fJ<(cS.length:Int))=true:=decide_eq_true Fh
              clear Fh
              replace H:=Option.bind_eq_some_iff.mp H
              obtain ⟨Xi,b1A,H⟩:=H
              replace H:(if Xi=true then (if fR.length<17592186044416 then (aG.l3 k3 sU cS (rd l0 iu) l0 (l0.length:Int) iu cS (cS.length:Int) (wrap64 (fJ+1)) (fR++[fJ]) false 1) else (none)) else (aG.l3 k3 sU cS (rd l0 iu) l0 (l0.length:Int) iu cS (cS.length:Int) (wrap64 (fJ+1)) fR false 1))=some (r1,r2):=H
              have A45:=Aside0.mk b1A
              clear b1A
              by_cases Fi:Xi=true
              ·subst Fi
               have H1:(if fR.length<17592186044416 then (aG.l3 k3 sU cS (rd l0 iu) l0 (l0.length:Int) iu cS (cS.length:Int) (wrap64 (fJ+1)) (fR++[fJ]) false 1) else (none))=some (r1,r2):=by rw [if_pos rfl] at H;exact H
               clear H
               have H:=H1
               clear H1
               by_cases c47:fR.length<17592186044416
               ·rw [if_pos c47] at H
                have b3R:=Aside0.mk c47
                clear c47
                obtain ⟨GY,JP⟩:∃y_:List Int,y_=(fR++[fJ]):=⟨_,rfl⟩
                replace H:(aG.l3 k3 sU cS (rd l0 iu) l0 (l0.length:Int) iu cS (cS.length:Int) (wrap64 (fJ+1)) GY false 1)=some (r1,r2):=by first|(rw [JP];with_reducible exact H)|(have eF:=(Option.bind_some _ _).symm.trans H;rw [JP];with_reducible exact eF)|(have eF:=(Option.bind_some _ _).symm.trans H;with_reducible exact eF)|with_reducible exact H|(rw [JP];exact H)|exact H
                have b3S:=Aside0.mk JP
                clear JP
                have H':=Aside0.mk H
                clear H
                have zl:0<=(fJ:Int):=of_decide_eq_true (by first|(with_reducible assumption)|assumption)
                have zm:fJ<(cS.length:Int):=of_decide_eq_true (by first|(with_reducible assumption)|assumption)
                obtain ⟨JQ,Dx,JR,a3A,EC,AH,AJ⟩:=kX (Kd.qD nT.out).2.2 fJ zl zm
                cases a3A
                obtain ⟨b3T,SA,SB,Dy⟩:=Kd.a3V nT.out [] fJ zl (by first|exact zm|exact of_decide_eq_true (by first|(with_reducible assumption)|assumption)|(have e_:=(Kd.qD nT.out).1;omega))
                obtain ⟨a7x,rfl,uJ⟩:=SB
                have oM:=Dy 0 _ rfl
                rw [Nat.add_zero,show ((Kd.slice 3 (Kd.int .i64))).sz=1 from rfl,Nat.mul_one] at oM
                replace oM:=Option.some.inj (oM.symm.trans EC)
                rw [oM] at uJ
                have uK:=Aside0.mk (show Kd.R (Kd.int .i64) 3 _ _ _ _ (cZ cS fJ) from uJ)
                clear oM uJ
                clear Dy SA
                have rG:=Aside0.mk AJ
                have Mq:=Aside0.mk AH
                clear AJ AH
                replace zl:=eq_true zl
                replace zm:=eq_true zm
                go_wp2_with (first|((with_reducible refine aV (f:=49) rfl ?_);refine bH (some 88) rfl rfl Try.func49 (by kernel_rfl) rfl #[.slice Dx (cZ cS fJ).length JR,.int .i64 (rd l0 iu)] rfl (by (try simp only [List.map_toArray,List.map_cons,List.map_nil]);first|done|rfl|(simp only [List.length_drop,List.length_take];rfl)) ?_;(with_reducible refine (bU.calls k3 _ _ (cZ cS fJ) (rd l0 iu) true _ ?bO ?bP A45.out).mono ?_);(case bO=>repeat (first|exact (by repeat (first|(with_reducible exact rG.out)|(with_reducible refine Kd.bV ?_ _)|(with_reducible refine Kd.bW ?_ _)|(with_reducible refine Kd.cy ?_)|exact rG.out))|(with_reducible refine Kd.bV ?_ _)|(with_reducible refine Kd.bW ?_ _)|(with_reducible refine Kd.cy ?_)));(case bP=>exact Mq.out);rintro e w' ⟨rfl,⟨nd,rfl⟩⟩;refine ⟨_,rfl,?_⟩;(try (rw [pn wr];generalize lR:World.drewN wr _=wr;have aA:Aside0 (Kd.R (Kd.int .i64) 3 wr w.heap.size (fun k_=>some k_≠(u255000:Value).ownBlock/\some k_≠(.slice (some JQ) cS.length Mo:Value).ownBlock) (.slice Dx (cZ cS fJ).length JR) (cZ cS fJ)):=⟨by rw [<-lR];exact (by (with_reducible repeat (first|apply Kd.ck|apply Kd.cn|apply Kd.cK));exact uK.out)⟩;have aC:Aside0 (Kd.R (Kd.int .i64) 3 wr w.heap.size (fun _=>True) u255000 fR):=⟨by rw [<-lR];exact (by (with_reducible repeat (first|apply Kd.ck|apply Kd.cn|apply Kd.cK));exact kO.out)⟩;have aD:Aside0 (Kd.S mm 96 wr w.heap.size (fun k_=>some k_≠(u255000:Value).ownBlock/\k_≠fz) u5 sU):=⟨by rw [<-lR];exact (by (with_reducible repeat (first|apply Kd.bK|apply Kd.bL|apply Kd.bX));exact dI.out)⟩;have aK:Aside0 (Kd.S (Kd.slice 3 (Kd.int .i64)) 23 wr w.heap.size (fun k_=>some k_≠(u255000:Value).ownBlock) (.slice (some JQ) cS.length Mo) cS):=⟨by rw [<-lR];exact (by (with_reducible repeat (first|apply Kd.bK|apply Kd.bL|apply Kd.bX));exact cT.out)⟩;have bF:Aside0 (Kd.S (Kd.slice 3 (Kd.int .i64)) 23 wr w.heap.size (fun k_=>some k_≠(u255000:Value).ownBlock) (.slice (some JQ) cS.length Mo) cS):=⟨by rw [<-lR];exact (by (with_reducible repeat (first|apply Kd.bK|apply Kd.bL|apply Kd.bX));exact nT.out)⟩;have bS:Aside0 (wr.heap[ia]? =some (.cells #[.int .i64 0,.int .i64 0] 34 (0,0))):=⟨by rw [<-lR];exact (aH cH)⟩;have bY:Aside0 (wr.heap[fz]? =some (.cells #[u255000,.bool false,.int .i64 1] 96 (0,0))):=⟨by rw [<-lR];exact (aH eJ)⟩;have eX:Aside0 (Below w.heap.size w wr):=⟨by rw [<-lR];exact ay⟩;have fY:Aside0 (Kd.C (Kd.int .i64) wr Dx (cZ cS fJ).length (cZ cS fJ)):=⟨by rw [<-lR];exact (by repeat (first|(with_reducible exact rG.out)|(with_reducible refine Kd.bV ?_ _)|(with_reducible refine Kd.bW ?_ _)|(with_reducible refine Kd.cy ?_)|exact rG.out))⟩;clear uK kO dI cT nT cH eJ HB rG lR;have uK:=aA;have kO:=aC;have dI:=aD;have cT:=aK;have nT:=bF;have cH:=bS;have eJ:=bY;have HB:=eX;have rG:=fY;clear aA aC aD aK bF bS bY eX fY));have hnb48:=Dw.out;have hnc48:=qV.out;have a7y:wr.cell? ⟨fz,0,none⟩=some (u255000):=(ag eJ.out 0).trans rfl;have a7z:wr.cell? ⟨fz,1,none⟩=some (.bool false):=(ag eJ.out 1).trans rfl;have a7A:wr.cell? ⟨fz,2,none⟩=some (.int .i64 1):=(ag eJ.out 2).trans rfl;have a7B:=af eJ.out 0;have a7C:=af eJ.out 1;have a7D:=af eJ.out 2)|((with_reducible refine gW (b:= .append) (xs:= #[.tmp 90,.tmp 92]) rfl ?_);(try (refine mA (by rfl) ?_;dsimp only));at_builtin;refine Kd.mR (Kd.int .i64) (w0:=w) w.heap.size rfl (.tmp 90) (.tmp 92) 23 3 (.int .i64 0) 8 rfl Try.underlying23 info3 rfl (by decide) (by omega) u255000 fR fJ [.int .i64 fJ] (fun _=>True) (fun _=>False) rfl rfl ?aP (fun _ hk=>hk.elim) ?aF ?aO ?aB ?aS ?aL ?_;(case aP=>exact rfl);(case aB=>exact ay);(case aF=>exact (fun _ _=>trivial));(case aO=>exact (by (with_reducible repeat (first|apply Kd.ck|apply Kd.cn|apply Kd.cK));exact kO.out));(case aS=>exact (ax ay));(case aL=>have:=b3R.out;omega);intro v258 w50 ho hb hg hat;rw [<-b3S.out] at ho;have aA:=Aside0.mk (Kd.Ky (ok:=(fun k_=>k_≠fz)) (by (with_reducible repeat (first|apply Kd.bK|apply Kd.bL|apply Kd.bX));exact Kd.ey dI.out (fun _ hk=>⟨hk.2,hk.1⟩)) hg hat);have aC:=Aside0.mk (Kd.Ky (ok:=(fun _=>True)) (by (with_reducible repeat (first|apply Kd.bK|apply Kd.bL|apply Kd.bX));exact Kd.ey cT.out (fun _ hk=>⟨trivial,hk⟩)) hg hat);have aD:=Aside0.mk (Kd.Ky (ok:=(fun _=>True)) (by (with_reducible repeat (first|apply Kd.bK|apply Kd.bL|apply Kd.bX));exact Kd.ey nT.out (fun _ hk=>⟨trivial,hk⟩)) hg hat);have aK:=Aside0.mk (kJ (g:=ia) (o:= .cells #[.int .i64 0,.int .i64 0] 34 (0,0)) (aH cH) hg (Kd.a1g kO.out cH.out (by decide)));have bF:=Aside0.mk (kJ (g:=fz) (o:= .cells #[u255000,.bool false,.int .i64 1] 96 (0,0)) (aH eJ) hg (Kd.a1g kO.out eJ.out (by decide)));have bS:=Aside0.mk (Kd.Tq (ok:=(fun k_=>some k_≠(.slice (some JQ) cS.length Mo:Value).ownBlock)) (by (with_reducible repeat (first|apply Kd.ck|apply Kd.cn|apply Kd.cK));exact Kd.dh uK.out (fun _ hk=>⟨hk.2,hk.1⟩)) hg hat);have bY:=Aside0.mk (hb);have eX:=Aside0.mk (ho);clear dI;clear cT;clear nT;clear cH;clear eJ;clear uK;clear HB;clear kO;have dI:=aA;have cT:=aC;have nT:=aD;have cH:=aK;have eJ:=bF;have uK:=bS;have HB:=bY;have a5J:=eX;clear aA aC aD aK bF bS bY eX;clear ho hb hg hat;obtain ⟨SC,SD,b8j⟩:=Kd.gJ a5J.out;subst b8j;have TE:w50.cell? ⟨fz,0,none⟩=some (u255000):=(ag eJ.out 0).trans rfl;have TF:w50.cell? ⟨fz,1,none⟩=some (.bool false):=(ag eJ.out 1).trans rfl;have a7E:w50.cell? ⟨fz,2,none⟩=some (.int .i64 1):=(ag eJ.out 2).trans rfl;have TG:=af eJ.out 0;have TH:=af eJ.out 1;have a7F:=af eJ.out 2))
                go_roundg k3
                case measure=>have:=dX.out;have:=mq.out;have:=wY.out;omega
                case rel=>exact ⟨(wrap64 (fJ+1)),(GY),(.slice SC GY.length SD),(by first|rfl|(simp;done)|(simp [*];done)),H',⟨by have:=dX.out;have:=mq.out;have:=wY.out;omega⟩,⟨by (with_reducible repeat (first|apply Kd.bK|apply Kd.bL|apply Kd.bX));exact Kd.ey (Kd.jU (p:=⟨fz,0,none⟩) (Kd.ey dI.out (fun k_ hk=>(⟨hk,hk.1⟩:_/\k_≠fz))) (fun _ hk=>hk.2) (.slice SC GY.length SD)) (fun _ hk=>⟨hk.1.2,hk.1.1⟩)⟩,⟨by (with_reducible repeat (first|apply Kd.bK|apply Kd.bL|apply Kd.bX));exact Kd.ey (Kd.jU (p:=⟨fz,0,none⟩) (Kd.pY cT.out eJ.out (by decide)) (fun _ hk=>hk.2) (.slice SC GY.length SD)) (fun _ hk=>hk.1.2)⟩,⟨by (with_reducible repeat (first|apply Kd.bK|apply Kd.bL|apply Kd.bX));exact Kd.ey (Kd.jU (p:=⟨fz,0,none⟩) (Kd.pY nT.out eJ.out (by decide)) (fun _ hk=>hk.2) (.slice SC GY.length SD)) (fun _ hk=>hk.1.2)⟩,⟨by (with_reducible repeat (first|apply Kd.ck|apply Kd.cn|apply Kd.cK));exact Kd.dh (Kd.fD (p:=⟨fz,0,none⟩) (Kd.jJ a5J.out eJ.out (by decide)) (fun _ hk=>hk.2) (.slice SC GY.length SD)) (fun _ hk=>trivial)⟩,⟨by (with_reducible repeat (first|refine aq ?_ _|refine ak ?_|refine ai ?_ _));refine bM ?_ qV.out _;(with_reducible repeat (first|refine aq ?_ _|refine ak ?_|refine ai ?_ _));exact cH.out⟩,⟨by (with_reducible repeat (first|refine aq ?_ _|refine ak ?_|refine ai ?_ _));refine bh (cs:= #[u255000,.bool false,.int .i64 1]) ?_ 0 _ rfl;(with_reducible repeat (first|refine aq ?_ _|refine ak ?_|refine ai ?_ _));exact eJ.out⟩,⟨ay⟩⟩
               ·rw [if_neg c47] at H
                exact absurd H (by simp)
              ·replace Fi:=Bool.eq_false_iff.mpr Fi
               subst Fi
               have H1:(aG.l3 k3 sU cS (rd l0 iu) l0 (l0.length:Int) iu cS (cS.length:Int) (wrap64 (fJ+1)) fR false 1)=some (r1,r2):=by rw [if_neg (show ¬(false=true) by decide)] at H;exact H
               clear H
               have H:=H1
               clear H1
               have H':=Aside0.mk H
               clear H
               have zl:0<=(fJ:Int):=of_decide_eq_true (by first|(with_reducible assumption)|assumption)
               have zm:fJ<(cS.length:Int):=of_decide_eq_true (by first|(with_reducible assumption)|assumption)
               obtain ⟨JQ,Dx,JR,a3A,EC,AH,AJ⟩:=kX (Kd.qD nT.out).2.2 fJ zl zm
               cases a3A
               obtain ⟨b3T,SA,SB,Dy⟩:=Kd.a3V nT.out [] fJ zl (by first|exact zm|exact of_decide_eq_true (by first|(with_reducible assumption)|assumption)|(have e_:=(Kd.qD nT.out).1;omega))
               obtain ⟨a7x,rfl,uJ⟩:=SB
               have oM:=Dy 0 _ rfl
               rw [Nat.add_zero,show ((Kd.slice 3 (Kd.int .i64))).sz=1 from rfl,Nat.mul_one] at oM
               replace oM:=Option.some.inj (oM.symm.trans EC)
               rw [oM] at uJ
               have uK:=Aside0.mk (show Kd.R (Kd.int .i64) 3 _ _ _ _ (cZ cS fJ) from uJ)
               clear oM uJ
               clear Dy SA
               have rG:=Aside0.mk AJ
               have Mq:=Aside0.mk AH
               clear AJ AH
               replace zl:=eq_true zl
               replace zm:=eq_true zm
               go_wp2_with (first|((with_reducible refine aV (f:=49) rfl ?_);refine bH (some 88) rfl rfl Try.func49 (by kernel_rfl) rfl #[.slice Dx (cZ cS fJ).length JR,.int .i64 (rd l0 iu)] rfl (by (try simp only [List.map_toArray,List.map_cons,List.map_nil]);first|done|rfl|(simp only [List.length_drop,List.length_take];rfl)) ?_;(with_reducible refine (bU.calls k3 _ _ (cZ cS fJ) (rd l0 iu) false _ ?bO ?bP A45.out).mono ?_);(case bO=>repeat (first|exact (by repeat (first|(with_reducible exact rG.out)|(with_reducible refine Kd.bV ?_ _)|(with_reducible refine Kd.bW ?_ _)|(with_reducible refine Kd.cy ?_)|exact rG.out))|(with_reducible refine Kd.bV ?_ _)|(with_reducible refine Kd.bW ?_ _)|(with_reducible refine Kd.cy ?_)));(case bP=>exact Mq.out);rintro e w' ⟨rfl,⟨nd,rfl⟩⟩;refine ⟨_,rfl,?_⟩))
               go_roundg k3
               case measure=>have:=dX.out;have:=mq.out;have:=wY.out;omega
               case rel=>exact ⟨(wrap64 (fJ+1)),(fR),(u255000),(by first|rfl|(simp;done)|(simp [*];done)),H',⟨by have:=dX.out;have:=mq.out;have:=wY.out;omega⟩,⟨by (with_reducible repeat (first|apply Kd.bK|apply Kd.bL|apply Kd.bX));exact dI.out⟩,⟨by (with_reducible repeat (first|apply Kd.bK|apply Kd.bL|apply Kd.bX));exact cT.out⟩,⟨by (with_reducible repeat (first|apply Kd.bK|apply Kd.bL|apply Kd.bX));exact nT.out⟩,⟨by (with_reducible repeat (first|apply Kd.ck|apply Kd.cn|apply Kd.cK));exact kO.out⟩,⟨by (with_reducible repeat (first|refine aq ?_ _|refine ak ?_|refine ai ?_ _));exact cH.out⟩,⟨by (with_reducible repeat (first|refine aq ?_ _|refine ak ?_|refine ai ?_ _));exact eJ.out⟩,⟨ay⟩⟩
             ·rw [if_neg Fh] at H
              exact absurd H (by simp)
            ·rw [if_neg BU] at H
             exact absurd H (by simp)
           ·rw [if_neg Sy] at H
            have a5I:decide (fJ<(cS.length:Int))=false:=decide_eq_false Sy
            clear Sy
            by_cases c53:sU.length<3518437208883
            ·rw [if_pos c53] at H
             have b3U:=Aside0.mk c53
             clear c53
             obtain ⟨b1B,JS⟩:∃y_:List (dz),y_=(sU++[(⟨fR,false,1⟩:dz)]):=⟨_,rfl⟩
             replace H:(aG.l2 k3 b1B cS l0 (l0.length:Int) (wrap64 (iu+1)))=some (r1,r2):=by first|(rw [JS];with_reducible exact H)|(have eF:=(Option.bind_some _ _).symm.trans H;rw [JS];with_reducible exact eF)|(have eF:=(Option.bind_some _ _).symm.trans H;with_reducible exact eF)|with_reducible exact H|(rw [JS];exact H)|exact H
             have b3V:=Aside0.mk JS
             clear JS
             have H':=Aside0.mk H
             clear H
             have hnb54:=Dw.out
             have hnc54:=qV.out
             have a7G:wr.cell? ⟨fz,0,none⟩=some (u255000):=(ag eJ.out 0).trans rfl
             have a7H:wr.cell? ⟨fz,1,none⟩=some (.bool false):=(ag eJ.out 1).trans rfl
             have a7I:wr.cell? ⟨fz,2,none⟩=some (.int .i64 1):=(ag eJ.out 2).trans rfl
             have a7J:=af eJ.out 0
             have a7K:=af eJ.out 1
             have a7L:=af eJ.out 2
             obtain ⟨Xk,Xl,b8k⟩:=Kd.gJ kO.out
             subst b8k
             go_wp2_with (first|((with_reducible refine gW (b:= .append) (xs:= #[.tmp 96,.tmp 98]) rfl ?_);(try (refine mA (by rfl) ?_;dsimp only));at_builtin;refine Kd.FL mm (w0:=w) w.heap.size rfl (.tmp 96) (.tmp 98) 93 96 (.agg #[(.slice none 0 0),(.bool false),(.int .i64 0)]) 40 rfl Try.underlying93 Yb rfl (by decide) (by omega) u5 sU (⟨fR,false,1⟩:dz) [.slice Xk fR.length Xl,.bool false,.int .i64 1] (fun k_=>k_≠fz) (fun k_=>some k_=(.slice Xk fR.length Xl:Value).ownBlock) rfl rfl ?aP (fun k_ RI=>((Kd.dh (ok':=fun k_=>((fun k_=>k_≠fz)) k_/\some k_≠(u5:Value).ownBlock) (Kd.jJ (Kd.qC (kO.out) (Kd.nA dI.out) (by decide)) eJ.out (by decide)) (fun k_ hk=>⟨hk.2,hk.1.2⟩))).1 k_ RI.symm) ?aF ?aO ?aB ?aS ?aL ?_;(case aP=>exact TD _ _ _ (⟨fR,false,1⟩:dz) (Kd.dh (Kd.DN rfl (Kd.dh (ok':=fun k_=>((fun k_=>k_≠fz)) k_/\some k_≠(u5:Value).ownBlock) (Kd.jJ (Kd.qC (kO.out) (Kd.nA dI.out) (by decide)) eJ.out (by decide)) (fun k_ hk=>⟨hk.2,hk.1.2⟩))) (fun _ h_=>h_)));(case aB=>exact ay);(case aF=>exact (fun k_ hk=>Kd.xG (g:=fz) (o:= .cells #[.slice Xk fR.length Xl,.bool false,.int .i64 1] 96 (0,0)) (aH eJ) k_ hk));(case aO=>exact (by (with_reducible repeat (first|apply Kd.bK|apply Kd.bL|apply Kd.bX));exact Kd.ey dI.out (fun k_ hk=>⟨hk.2,fun e_=>hk.1 e_⟩)));(case aS=>exact (ax ay));(case aL=>have:=b3U.out;omega);intro v261 w56 ho hb hg hat;rw [<-b3V.out] at ho;have aA:=Aside0.mk (Kd.DR (by (with_reducible repeat (first|apply Kd.bK|apply Kd.bL|apply Kd.bX));exact cT.out) (Kd.nA (by (with_reducible repeat (first|apply Kd.bK|apply Kd.bL|apply Kd.bX));exact dI.out)) (by decide) hg);have aC:=Aside0.mk (Kd.DR (by (with_reducible repeat (first|apply Kd.bK|apply Kd.bL|apply Kd.bX));exact nT.out) (Kd.nA (by (with_reducible repeat (first|apply Kd.bK|apply Kd.bL|apply Kd.bX));exact dI.out)) (by decide) hg);have aD:=Aside0.mk (kJ (g:=ia) (o:= .cells #[.int .i64 0,.int .i64 0] 34 (0,0)) (aH cH) hg (Kd.a1k dI.out cH.out (by decide)));have aK:=Aside0.mk (kJ (g:=fz) (o:= .cells #[.slice Xk fR.length Xl,.bool false,.int .i64 1] 96 (0,0)) (aH eJ) hg (Kd.a8q dI.out (fun _ hk=>hk.2)));have bF:=Aside0.mk (hb);have bS:=Aside0.mk (ho);clear cT;clear nT;clear cH;clear eJ;clear HB;clear dI;clear kO;have cT:=aA;have nT:=aC;have cH:=aD;have eJ:=aK;have HB:=bF;have b3W:=bS;clear aA aC aD aK bF bS;clear ho hb hg hat))
             go_roundg k3
             case measure=>have:=dX.out;have:=mq.out;have:=wY.out;omega
             case rel=>exact ⟨(b1B),(wrap64 (iu+1)),(by first|rfl|(simp;done)|(simp [*];done)),H',⟨by have:=dX.out;have:=mq.out;have:=wY.out;omega⟩,⟨by (with_reducible repeat (first|apply Kd.bK|apply Kd.bL|apply Kd.bX));exact Kd.ey b3W.out (fun _ hk=>trivial)⟩,⟨by (with_reducible repeat (first|apply Kd.bK|apply Kd.bL|apply Kd.bX));exact Kd.ey cT.out (fun _ hk=>trivial)⟩,⟨by (with_reducible repeat (first|refine aq ?_ _|refine ak ?_|refine ai ?_ _));exact cH.out⟩,⟨ay⟩⟩
            ·rw [if_neg c53] at H
             exact absurd H (by simp)
        ·rw [if_neg Vp] at H
         exact absurd H (by simp)
       ·rw [if_neg QU] at H
        exact absurd H (by simp)
      ·rw [if_neg Og] at H
       have Xj:decide (iu<(l0.length:Int))=false:=decide_eq_false Og
       clear Og
       have H':=Aside0.mk H
       clear H
       obtain ⟨b8l,b8m,b8n⟩:=Kd.ri cT.out
       subst b8n
       go_wp2
       go_loopg [5,103] k2 (fun kq v5 v103 w'=>∃(zn:List (dz)) (nU:Int),v103= .int .i64 nU/\Aside0 (aG.l4 kq zn cS (cS.length:Int) nU=some (r1,r2))/\Aside0 (kq<=k2)/\Aside0 (Kd.S mm 96 w' w.heap.size (fun _=>True) v5 zn)/\Aside0 (Kd.S (Kd.slice 3 (Kd.int .i64)) 23 w' w.heap.size (fun _=>True) (.slice b8l cS.length b8m) cS)/\Aside0 (w'.heap[ia]? =some (.cells #[.int .i64 0,.int .i64 0] 34 (0,0)))/\Aside0 (Below w.heap.size w w'))
       case atStart=>exact ⟨(sU),(0),(by first|rfl|(simp;done)|(simp [*];done)),H',⟨Nat.le_refl _⟩,⟨by (with_reducible repeat (first|apply Kd.bK|apply Kd.bL|apply Kd.bX));exact dI.out⟩,⟨by (with_reducible repeat (first|apply Kd.bK|apply Kd.bL|apply Kd.bX));exact cT.out⟩,⟨by (with_reducible repeat (first|refine aq ?_ _|refine ak ?_|refine ai ?_ _));exact cH.out⟩,⟨ay⟩⟩
       case round=>
        clear H'
        try clear c1
        try clear c2
        try clear p2
        try clear q2
        try clear hx2
        try clear c3
        try clear c4
        try clear c5
        try clear c6
        try clear p6
        try clear c8
        try clear qL
        try clear c9
        try clear wI
        try clear c10
        try clear xm
        try clear c14
        try clear JD
        try clear c15
        try clear OO
        try clear c16
        try clear JM
        try clear c18
        try clear OQ
        try clear OS
        try clear Sr
        try clear Dv
        try clear OT
        try clear OU
        try clear c24
        try clear p24
        try clear q24
        try clear b1y
        try clear JN
        try clear OV
        try clear p25
        try clear q25
        try clear b8i
        try clear Ss
        try clear Su
        try clear Og
        try clear Xj
        try clear QU
        try clear a5G
        try clear Vp
        try clear a5H
        try clear c39
        try clear Sy
        try clear a5I
        try clear BU
        try clear WA
        try clear Fh
        try clear a4T
        try clear Fi
        try clear c47
        try clear ZC
        try clear c49
        try clear c50
        try clear c53
        try clear c54
        try clear El
        try clear Em
        try clear Vq
        try clear a7y
        try clear a7z
        try clear a7A
        try clear TE
        try clear TF
        try clear a7E
        try clear a7G
        try clear a7H
        try clear a7I
        try clear En
        try clear Eo
        try clear Vr
        try clear a7B
        try clear a7C
        try clear a7D
        try clear TG
        try clear TH
        try clear a7F
        try clear a7J
        try clear a7K
        try clear a7L
        try clear uI
        try clear ij
        try clear AG
        try clear EC
        try clear p2
        try clear p24
        try clear GW
        try clear nk
        try clear p25
        try clear Sv
        try clear zl
        try clear p6
        try clear q2
        try clear q24
        try clear GX
        try clear nr
        try clear q25
        try clear Sw
        try clear zm
        obtain ⟨zn,nU,rfl,HA,wY,dI,cT,cH,HB⟩:=hrel
        cases gk with
        |zero=>exact absurd HA.out (by simp [aG.l4])
        |succ k3=>
         have H:=HA.out
         clear HA
         simp only [aG.l4] at H
         by_cases Vs:nU<(cS.length:Int)
         ·rw [if_pos Vs] at H
          have b3X:decide (nU<(cS.length:Int))=true:=decide_eq_true Vs
          clear Vs
          obtain ⟨Mr,JT⟩:∃y_:List Int,y_=(([nU]:List Int)):=⟨_,rfl⟩
          replace H:(if zn.length<3518437208883 then (aG.l4 k3 (zn++[(⟨Mr,false,0⟩:dz)]) cS (cS.length:Int) (wrap64 (nU+1))) else (none))=some (r1,r2):=by first|(rw [JT];with_reducible exact H)|(have eF:=(Option.bind_some _ _).symm.trans H;rw [JT];with_reducible exact eF)|(have eF:=(Option.bind_some _ _).symm.trans H;with_reducible exact eF)|with_reducible exact H|(rw [JT];exact H)|exact H
          have a5K:=Aside0.mk JT
          clear JT
          by_cases c60:zn.length<3518437208883
          ·rw [if_pos c60] at H
           have b3Y:=Aside0.mk c60
           clear c60
           obtain ⟨b1C,JU⟩:∃y_:List (dz),y_=(zn++[(⟨Mr,false,0⟩:dz)]):=⟨_,rfl⟩
           replace H:(aG.l4 k3 b1C cS (cS.length:Int) (wrap64 (nU+1)))=some (r1,r2):=by first|(rw [JU];with_reducible exact H)|(have eF:=(Option.bind_some _ _).symm.trans H;rw [JU];with_reducible exact eF)|(have eF:=(Option.bind_some _ _).symm.trans H;with_reducible exact eF)|with_reducible exact H|(rw [JU];exact H)|exact H
           have b3Z:=Aside0.mk JU
           clear JU
           have H':=Aside0.mk H
           clear H
           go_wp2_with (first|((with_reducible refine bn (N:=108) rfl ?_);(try (refine mA (by rfl) ?_;dsimp only));refine Kd.DM (Kd.int .i64) _ 3 ?hg (N:=108) ?hd (xs:=([nU]:List Int)) (inner:=[.int .i64 nU]) (ok:=fun _=>True) (gK:=fun _=>True) ?hr ?hp (fun _ hk=>hk) trivial (Below.refl _ _) (Nat.le_refl _) (by simp) ?_;(case hd=>rfl);(case hg=>rfl);(case hr=>first|(go_simp;done)|(go_simp;rfl));(case hp=>exact (dD.one (show Kd.M (Kd.int .i64) _ _ _ nU [.int .i64 nU] from rfl) (dD.none _ _)));intro v264 w61 GZ hb vR nQ;clear vR nQ;(first|rw [<-a5K.out] at GZ|(simp only [Int.reduceToNat] at GZ;rw [<-a5K.out] at GZ));have aA:=Aside0.mk (Kd.jd (by (with_reducible repeat (first|apply Kd.bK|apply Kd.bL|apply Kd.bX));exact dI.out) (Kd.jc GZ) hb);have aC:=Aside0.mk (Kd.jd (by (with_reducible repeat (first|apply Kd.bK|apply Kd.bL|apply Kd.bX));exact cT.out) (Kd.jc GZ) hb);have aD:=Aside0.mk (Kd.ie GZ (ax ay));have aK:=Aside0.mk (aj (g:=ia) (o:= .cells #[.int .i64 0,.int .i64 0] 34 (0,0)) (aH cH) hb);have bF:=Aside0.mk (ah ay hb);clear dI;clear cT;clear cH;clear HB;have dI:=aA;have cT:=aC;have OW:=aD;have cH:=aK;have HB:=bF;clear aA aC aD aK bF;clear hb GZ;obtain ⟨b1D,b1E,b8o⟩:=Kd.gJ OW.out;subst b8o)|((with_reducible refine gW (b:= .append) (xs:= #[.tmp 106,.tmp 110]) rfl ?_);(try (refine mA (by rfl) ?_;dsimp only));at_builtin;refine Kd.FL mm (w0:=w) w.heap.size rfl (.tmp 106) (.tmp 110) 93 96 (.agg #[(.slice none 0 0),(.bool false),(.int .i64 0)]) 40 rfl Try.underlying93 Yb rfl (by decide) (by omega) u5 zn (⟨Mr,false,0⟩:dz) [.slice b1D Mr.length b1E,.bool false,.int .i64 0] (fun _=>True) (fun k_=>some k_=(.slice b1D Mr.length b1E:Value).ownBlock) rfl rfl ?aP (fun k_ RI=>((Kd.dh (ok':=fun k_=>((fun _=>True)) k_/\some k_≠(u5:Value).ownBlock) (Kd.qC (OW.out) (Kd.nA dI.out) (by decide)) (fun k_ hk=>⟨trivial,hk.2⟩))).1 k_ RI.symm) ?aF ?aO ?aB ?aS ?aL ?_;(case aP=>exact TD _ _ _ (⟨Mr,false,0⟩:dz) (Kd.dh (Kd.DN rfl (Kd.dh (ok':=fun k_=>((fun _=>True)) k_/\some k_≠(u5:Value).ownBlock) (Kd.qC (OW.out) (Kd.nA dI.out) (by decide)) (fun k_ hk=>⟨trivial,hk.2⟩))) (fun _ h_=>h_)));(case aB=>exact ay);(case aF=>exact (fun _ _=>trivial));(case aO=>exact (by (with_reducible repeat (first|apply Kd.bK|apply Kd.bL|apply Kd.bX));exact Kd.ey dI.out (fun k_ hk=>⟨trivial,fun e_=>hk.2 e_⟩)));(case aS=>exact (ax ay));(case aL=>have:=b3Y.out;omega);intro v267 XZ ho hb hg hat;rw [<-b3Z.out] at ho;have aA:=Aside0.mk (Kd.DR (by (with_reducible repeat (first|apply Kd.bK|apply Kd.bL|apply Kd.bX));exact cT.out) (Kd.nA (by (with_reducible repeat (first|apply Kd.bK|apply Kd.bL|apply Kd.bX));exact dI.out)) (by decide) hg);have aC:=Aside0.mk (kJ (g:=ia) (o:= .cells #[.int .i64 0,.int .i64 0] 34 (0,0)) (aH cH) hg (Kd.a1k dI.out cH.out (by decide)));have aD:=Aside0.mk (hb);have aK:=Aside0.mk (ho);clear cT;clear cH;clear HB;clear dI;clear OW;have cT:=aA;have cH:=aC;have HB:=aD;have b4a:=aK;clear aA aC aD aK;clear ho hb hg hat))
           go_roundg k3
           case measure=>have:=dX.out;have:=mq.out;have:=wY.out;omega
           case rel=>exact ⟨(b1C),(wrap64 (nU+1)),(by first|rfl|(simp;done)|(simp [*];done)),H',⟨by have:=dX.out;have:=mq.out;have:=wY.out;omega⟩,⟨by (with_reducible repeat (first|apply Kd.bK|apply Kd.bL|apply Kd.bX));exact b4a.out⟩,⟨by (with_reducible repeat (first|apply Kd.bK|apply Kd.bL|apply Kd.bX));exact Kd.ey cT.out (fun _ hk=>trivial)⟩,⟨by (with_reducible repeat (first|refine aq ?_ _|refine ak ?_|refine ai ?_ _));exact cH.out⟩,⟨ay⟩⟩
          ·rw [if_neg c60] at H
           exact absurd H (by simp)
         ·rw [if_neg Vs] at H
          have b3X:decide (nU<(cS.length:Int))=false:=decide_eq_false Vs
          clear Vs
          replace H:=Option.bind_eq_some_iff.mp H
          obtain ⟨Mn,b1F,H⟩:=H
          replace H:((cg.f k3 Mn).bind fun JI=>(some (JI.1,JI.2)))=some (r1,r2):=H
          have A65:=Aside0.mk b1F
          clear b1F
          replace H:=Option.bind_eq_some_iff.mp H
          obtain ⟨⟨Xm,a3B⟩,b1G,H⟩:=H
          replace H:(some (Xm,a3B))=some (r1,r2):=H
          have A66:=Aside0.mk b1G
          clear b1G
          simp only [Option.some.injEq,Prod.mk.injEq] at H
          obtain ⟨rfl,rfl⟩:=H
          obtain ⟨b8p,b8q,b8r⟩:=Kd.ri dI.out
          subst b8r
          go_wp2_with (first|((with_reducible refine aV (f:=70) rfl ?_);refine bH (some 116) rfl rfl Try.func70 (by kernel_rfl) rfl #[.int .i64 (cS.length:Int),.slice b8p zn.length b8q,.int .i64 0,.slice none 0 0,.slice none 0 0,.bool false] rfl (by (try simp only [List.map_toArray,List.map_cons,List.map_nil]);first|done|rfl|(simp only [List.length_drop,List.length_take];rfl)) ?_;(refine (fo.calls k3 (cS.length:Int) _ _ zn 0 _ _ ([]:List (dz)) _ _ ([]:List (dm)) false Mn _ ?bO ?bP ?fV ?fW ?b4b ?b4c A65.out).mono ?_);(case bO=>repeat (first|exact (Kd.qD dI.out).2.2|(with_reducible refine Kd.bV ?_ _)|(with_reducible refine Kd.bW ?_ _)|(with_reducible refine Kd.cy ?_)));(case bP=>exact (Kd.qD dI.out).2.1);(case fV=>exact Kd.VH _ _);(case fW=>exact Nat.le_refl _);(case b4b=>exact Kd.VH _ _);(case b4c=>exact Nat.le_refl _);rintro e w68 ⟨v270,rfl,gG,hb⟩;refine ⟨_,rfl,?_⟩;have aA:=Aside0.mk (Kd.ny (by (with_reducible repeat (first|apply Kd.bK|apply Kd.bL|apply Kd.bX));exact dI.out) hb);have aC:=Aside0.mk (Kd.ny (by (with_reducible repeat (first|apply Kd.bK|apply Kd.bL|apply Kd.bX));exact cT.out) hb);have aD:=Aside0.mk (Kd.ie (Kd.XH gG (g:=ia) (o:= .cells #[.int .i64 0,.int .i64 0] 34 (0,0)) (aH cH)) (ax ay));have aK:=Aside0.mk (aj (g:=ia) (o:= .cells #[.int .i64 0,.int .i64 0] 34 (0,0)) (aH cH) hb);have bF:=Aside0.mk (ah ay hb);clear dI;clear cT;clear cH;clear HB;have dI:=aA;have cT:=aC;have ED:=aD;have cH:=aK;have HB:=bF;clear aA aC aD aK bF;(try clear hb);(try clear hb2);(try clear hk);(try clear hi);(try clear gG);obtain ⟨b8s,b8t,b8u⟩:=Kd.gJ ED.out;subst b8u)|((with_reducible refine aV (f:=69) rfl ?_);refine bH (some 117) rfl rfl Try.func69 (by kernel_rfl) rfl #[.slice b8s Mn.length b8t] rfl (by (try simp only [List.map_toArray,List.map_cons,List.map_nil]);first|done|rfl|(simp only [List.length_drop,List.length_take];rfl)) ?_;(with_reducible refine (cg.calls k3 _ _ Mn Xm a3B _ ?bO ?bP A66.out).mono ?_);(case bO=>repeat (first|exact (Kd.fh ED.out).2.2|(with_reducible refine Kd.bV ?_ _)|(with_reducible refine Kd.bW ?_ _)|(with_reducible refine Kd.cy ?_)));(case bP=>exact (Kd.fh ED.out).2.1);rintro e w70 ⟨rfl,hb⟩;refine ⟨_,rfl,?_⟩;have aA:=Aside0.mk (Kd.ny (by (with_reducible repeat (first|apply Kd.bK|apply Kd.bL|apply Kd.bX));exact dI.out) hb);have aC:=Aside0.mk (Kd.ny (by (with_reducible repeat (first|apply Kd.bK|apply Kd.bL|apply Kd.bX));exact cT.out) hb);have aD:=Aside0.mk (Kd.ig (by (with_reducible repeat (first|apply Kd.ck|apply Kd.cn|apply Kd.cK));exact ED.out) hb);have aK:=Aside0.mk (aj (g:=ia) (o:= .cells #[.int .i64 0,.int .i64 0] 34 (0,0)) (aH cH) hb);have bF:=Aside0.mk (ah ay hb);clear dI;clear cT;clear ED;clear cH;clear HB;have dI:=aA;have cT:=aC;have ED:=aD;have cH:=aK;have HB:=bF;clear aA aC aD aK bF;(try clear hb);(try clear hb2);(try clear hk);(try clear hi);have hcz71_0:w70.cell? ⟨ia,0,none⟩=some (.int .i64 0):=(ag cH.out 0).trans rfl;have hcz71_1:w70.cell? ⟨ia,1,none⟩=some (.int .i64 0):=(ag cH.out 1).trans rfl;have hfz71_0:=af cH.out 0;have hfz71_1:=af cH.out 1))
          refine bodyPost_ret (results_cell_row rfl _ _ ia 34 #[.int .i64 Xm,.int .i64 a3B] (0,0) _ rfl (by (with_reducible repeat (first|refine aq ?_ _|refine ak ?_|refine ai ?_ _));refine bh (cs:= #[.int .i64 Xm,.int .i64 0]) ?_ 1 _ rfl;(with_reducible repeat (first|refine aq ?_ _|refine ak ?_|refine ai ?_ _));refine bh (cs:= #[.int .i64 0,.int .i64 0]) ?_ 0 _ rfl;(with_reducible repeat (first|refine aq ?_ _|refine ak ?_|refine ai ?_ _));exact cH.out) Try.underlying34 rfl (by kernel_rfl)) rfl ?_
          exact ⟨by first|rfl|(simp [aX,aY]<;>rfl)|(simp [*,aX,aY]<;>rfl),ay⟩
end Go.Proofs.Ytkckdphjhlbdcaa.P
