/-
  Part 11 of the proof of this: The law FnExactCoverOf answers true at every argument.
-/
import Derived.Test.YtnhknojfpjheoaaKCoverOf2
import Derived.Test.YtnhknojfpjheoaaKCoverOf4
import Derived.Test.YtnhknojfpjheoaaKCoverOf7
import Derived.Test.YtnhknojfpjheoaaKCoverOf9
import Derived.Test.YtnhknojfpjheoaaKCoverOf10
namespace Go.Proofs.Ytnhknojfpjheoaa.P
open Go.RowKit Go.Proofs.YtnhknojfpjheoaaW.PrintWords Go.Proofs.YtnhknojfpjheoaaW.PrintLast Go.Proofs.YtnhknojfpjheoaaW.PrintMore
attribute [local go_sem] max2_int min2_int max_two min_two max_three min_three max_four min_four
set_option linter.all false
mutual
def ay.j0:Nat->List Int->List (List Int)->Bool->Option (Bool×Int×Int×(List (bM))×(List (bM)))
 |0,_,_,_=>none
 |k+1,x0,x1,x5=>ay.l0 k x0 x1 x5 x1 (x1.length:Int) 0
def ay.l0:Nat->List Int->List (List Int)->Bool->List (List Int)->Int->Int->Option (Bool×Int×Int×(List (bM))×(List (bM)))
 |0,_,_,_,_,_,_=>none
 |k+1,x0,x1,x5,x30,x31,QS=>if QS<x31 then (if 0<=QS then (if QS<(x30.length:Int) then (if x5=true then ((bH.f k (dH x30 QS) 6).bind fun t210=>(ay.l0 k x0 x1 t210 x30 x31 (wrap64 (QS+1)))) else (ay.l0 k x0 x1 false x30 x31 (wrap64 (QS+1)))) else (none)) else (none)) else (if x5=true then (ay.l1 k x0 x1 (([]:List (cq))) x0 (x0.length:Int) 0) else (some (false,0,0,([]:List (bM)),([]:List (bM)))))
def ay.l1:Nat->List Int->List (List Int)->List (cq)->List Int->Int->Int->Option (Bool×Int×Int×(List (bM))×(List (bM)))
 |0,_,_,_,_,_,_=>none
 |k+1,x0,x1,x8,Oc,QT,Gm=>if Gm<QT then (if 0<=Gm then (if Gm<(Oc.length:Int) then (ay.l2 k x0 x1 x8 (rd Oc Gm) Oc QT Gm x1 (x1.length:Int) 0 ([]:List Int) false 1) else (none)) else (none)) else (ay.l3 k x0 x1 x8 (([]:List (cq))) x1 (x1.length:Int) 0)
def ay.l2:Nat->List Int->List (List Int)->List (cq)->Int->List Int->Int->Int->List (List Int)->Int->Int->List Int->Bool->Int->Option (Bool×Int×Int×(List (bM))×(List (bM)))
 |0,_,_,_,_,_,_,_,_,_,_,_,_,_=>none
 |k+1,x0,x1,x8,x10,Oc,QT,Gm,x53,x54,Od,yL,Jq,Jr=>if Od<x54 then (if 0<=Od then (if Od<(x53.length:Int) then ((ct.f k (dH x53 Od) x10).bind fun Tw=>(if Tw=true then (if yL.length<17592186044416 then (ay.l2 k x0 x1 x8 x10 Oc QT Gm x53 x54 (wrap64 (Od+1)) (yL++[Od]) Jq Jr) else (none)) else (ay.l2 k x0 x1 x8 x10 Oc QT Gm x53 x54 (wrap64 (Od+1)) yL Jq Jr))) else (none)) else (none)) else (if (yL.length:Int)=0 then (some (false,0,0,([]:List (bM)),([]:List (bM)))) else (if x8.length<3518437208883 then (ay.l1 k x0 x1 (x8++[(⟨yL,Jq,Jr⟩:cq)]) Oc QT (wrap64 (Gm+1))) else (none)))
def ay.l3:Nat->List Int->List (List Int)->List (cq)->List (cq)->List (List Int)->Int->Int->Option (Bool×Int×Int×(List (bM))×(List (bM)))
 |0,_,_,_,_,_,_,_=>none
 |k+1,x0,x1,x8,si,KQ,Oe,Bo=>if Bo<Oe then (if 0<=Bo then (if Bo<(KQ.length:Int) then (if x8.length<3518437208883 then (ay.l4 k x0 x1 (x8++[(⟨(([Bo]:List Int)),false,0⟩:cq)]) si (dH KQ Bo) KQ Oe Bo x0 (x0.length:Int) 0 ([]:List Int) true 1) else (none)) else (none)) else (none)) else (ay.l5 k x0 x1 x8 si (x0.length:Int) 0)
def ay.l4:Nat->List Int->List (List Int)->List (cq)->List (cq)->List Int->List (List Int)->Int->Int->List Int->Int->Int->List Int->Bool->Int->Option (Bool×Int×Int×(List (bM))×(List (bM)))
 |0,_,_,_,_,_,_,_,_,_,_,_,_,_,_=>none
 |k+1,x0,x1,x8,si,x16,KQ,Oe,Bo,x95,x96,Og,yM,Js,Jt=>if Og<x96 then (if 0<=Og then (if Og<(x95.length:Int) then ((ct.f k x16 (rd x95 Og)).bind fun t236=>(if t236=true then (if yM.length<17592186044416 then (ay.l4 k x0 x1 x8 si x16 KQ Oe Bo x95 x96 (wrap64 (Og+1)) (yM++[Og]) Js Jt) else (none)) else (ay.l4 k x0 x1 x8 si x16 KQ Oe Bo x95 x96 (wrap64 (Og+1)) yM Js Jt))) else (none)) else (none)) else (if (yM.length:Int)>0 then (if si.length<3518437208883 then (ay.l3 k x0 x1 x8 (si++[(⟨yM,Js,Jt⟩:cq)]) KQ Oe (wrap64 (Bo+1))) else (none)) else (ay.l3 k x0 x1 x8 si KQ Oe (wrap64 (Bo+1))))
def ay.l5:Nat->List Int->List (List Int)->List (cq)->List (cq)->Int->Int->Option (Bool×Int×Int×(List (bM))×(List (bM)))
 |0,_,_,_,_,_,_=>none
 |k+1,x0,x1,x8,si,a8Q,a0D=>if a0D<a8Q then (if si.length<3518437208883 then (ay.l5 k x0 x1 x8 (si++[(⟨(([a0D]:List Int)),false,0⟩:cq)]) a8Q (wrap64 (a0D+1))) else (none)) else (if (x0.length:Int)=0 then ((bR.f k (x1.length:Int)).bind fun zG=>(some (true,0,1,zG,(([]:List (bM)))))) else ((dx.f k (x1.length:Int) x8 0 ([]:List (cq)) ([]:List (bM)) false).bind fun qY=>((dx.f k (x0.length:Int) si 0 ([]:List (cq)) ([]:List (bM)) true).bind fun xA=>((bK.f k qY).bind fun wY=>(some (true,wY.1,wY.2,qY,xA))))))
end
def ay.f (k:Nat) (l0:List Int) (l1:List (List Int)):Option (Bool×Int×Int×(List (bM))×(List (bM))):=(bH.f k l0 6).bind fun t208=>(if t208=true then (ay.j0 k l0 l1 (decide ((l1.length:Int)<=7))) else (ay.j0 k l0 l1 false))
theorem ay.cI:∀k,(∀y0 y1 y2,aT (ay.j0 k y0 y1 y2) (ay.j0 (k+1) y0 y1 y2))/\(∀y0 y1 y2 y3 y4 y5,aT (ay.l0 k y0 y1 y2 y3 y4 y5) (ay.l0 (k+1) y0 y1 y2 y3 y4 y5))/\(∀y0 y1 y2 y3 y4 y5,aT (ay.l1 k y0 y1 y2 y3 y4 y5) (ay.l1 (k+1) y0 y1 y2 y3 y4 y5))/\(∀y0 y1 y2 y3 y4 y5 y6 y7 y8 y9 Oh Oi Oj,aT (ay.l2 k y0 y1 y2 y3 y4 y5 y6 y7 y8 y9 Oh Oi Oj) (ay.l2 (k+1) y0 y1 y2 y3 y4 y5 y6 y7 y8 y9 Oh Oi Oj))/\(∀y0 y1 y2 y3 y4 y5 y6,aT (ay.l3 k y0 y1 y2 y3 y4 y5 y6) (ay.l3 (k+1) y0 y1 y2 y3 y4 y5 y6))/\(∀y0 y1 y2 y3 y4 y5 y6 y7 y8 y9 Oh Oi Oj y13,aT (ay.l4 k y0 y1 y2 y3 y4 y5 y6 y7 y8 y9 Oh Oi Oj y13) (ay.l4 (k+1) y0 y1 y2 y3 y4 y5 y6 y7 y8 y9 Oh Oi Oj y13))/\(∀y0 y1 y2 y3 y4 y5,aT (ay.l5 k y0 y1 y2 y3 y4 y5) (ay.l5 (k+1) y0 y1 y2 y3 y4 y5))
 |0=>⟨fun _ _ _ r h=>by simp [ay.j0] at h,fun _ _ _ _ _ _ r h=>by simp [ay.l0] at h,fun _ _ _ _ _ _ r h=>by simp [ay.l1] at h,fun _ _ _ _ _ _ _ _ _ _ _ _ _ r h=>by simp [ay.l2] at h,fun _ _ _ _ _ _ _ r h=>by simp [ay.l3] at h,fun _ _ _ _ _ _ _ _ _ _ _ _ _ _ r h=>by simp [ay.l4] at h,fun _ _ _ _ _ _ r h=>by simp [ay.l5] at h⟩
 |k+1=>by
  obtain ⟨dL,ih1,ih2,ih3,ih4,ih5,Gn⟩:=ay.cI k
  refine ⟨?_,?_,?_,?_,?_,?_,?_⟩
  ·intro y0 y1 y2
   unfold ay.j0
   repeat' first
   |(with_reducible exact dL _ _ _)
   |(with_reducible exact ih1 _ _ _ _ _ _)
   |(with_reducible exact ih2 _ _ _ _ _ _)
   |(with_reducible exact ih3 _ _ _ _ _ _ _ _ _ _ _ _ _)
   |(with_reducible exact ih4 _ _ _ _ _ _ _)
   |(with_reducible exact ih5 _ _ _ _ _ _ _ _ _ _ _ _ _ _)
   |(with_reducible exact Gn _ _ _ _ _ _)
   |(with_reducible exact dx.mono _ _ _ _ _ _ _)
   |(with_reducible exact ct.mono _ _ _)
   |(with_reducible exact bH.mono _ _ _)
   |(with_reducible exact bK.mono _ _)
   |(with_reducible exact bR.mono _ _)
   |(with_reducible exact aT.refl _)
   |(with_reducible exact aT.none _)
   |(with_reducible refine aT.ite ?_ ?_)
   |(with_reducible refine aT.bind ?_ (fun _=>?_))
  ·intro y0 y1 y2 y3 y4 y5
   unfold ay.l0
   repeat' first
   |(with_reducible exact dL _ _ _)
   |(with_reducible exact ih1 _ _ _ _ _ _)
   |(with_reducible exact ih2 _ _ _ _ _ _)
   |(with_reducible exact ih3 _ _ _ _ _ _ _ _ _ _ _ _ _)
   |(with_reducible exact ih4 _ _ _ _ _ _ _)
   |(with_reducible exact ih5 _ _ _ _ _ _ _ _ _ _ _ _ _ _)
   |(with_reducible exact Gn _ _ _ _ _ _)
   |(with_reducible exact dx.mono _ _ _ _ _ _ _)
   |(with_reducible exact ct.mono _ _ _)
   |(with_reducible exact bH.mono _ _ _)
   |(with_reducible exact bK.mono _ _)
   |(with_reducible exact bR.mono _ _)
   |(with_reducible exact aT.refl _)
   |(with_reducible exact aT.none _)
   |(with_reducible refine aT.ite ?_ ?_)
   |(with_reducible refine aT.bind ?_ (fun _=>?_))
  ·intro y0 y1 y2 y3 y4 y5
   unfold ay.l1
   repeat' first
   |(with_reducible exact dL _ _ _)
   |(with_reducible exact ih1 _ _ _ _ _ _)
   |(with_reducible exact ih2 _ _ _ _ _ _)
   |(with_reducible exact ih3 _ _ _ _ _ _ _ _ _ _ _ _ _)
   |(with_reducible exact ih4 _ _ _ _ _ _ _)
   |(with_reducible exact ih5 _ _ _ _ _ _ _ _ _ _ _ _ _ _)
   |(with_reducible exact Gn _ _ _ _ _ _)
   |(with_reducible exact dx.mono _ _ _ _ _ _ _)
   |(with_reducible exact ct.mono _ _ _)
   |(with_reducible exact bH.mono _ _ _)
   |(with_reducible exact bK.mono _ _)
   |(with_reducible exact bR.mono _ _)
   |(with_reducible exact aT.refl _)
   |(with_reducible exact aT.none _)
   |(with_reducible refine aT.ite ?_ ?_)
   |(with_reducible refine aT.bind ?_ (fun _=>?_))
  ·intro y0 y1 y2 y3 y4 y5 y6 y7 y8 y9 Oh Oi Oj
   unfold ay.l2
   repeat' first
   |(with_reducible exact dL _ _ _)
   |(with_reducible exact ih1 _ _ _ _ _ _)
   |(with_reducible exact ih2 _ _ _ _ _ _)
   |(with_reducible exact ih3 _ _ _ _ _ _ _ _ _ _ _ _ _)
   |(with_reducible exact ih4 _ _ _ _ _ _ _)
   |(with_reducible exact ih5 _ _ _ _ _ _ _ _ _ _ _ _ _ _)
   |(with_reducible exact Gn _ _ _ _ _ _)
   |(with_reducible exact dx.mono _ _ _ _ _ _ _)
   |(with_reducible exact ct.mono _ _ _)
   |(with_reducible exact bH.mono _ _ _)
   |(with_reducible exact bK.mono _ _)
   |(with_reducible exact bR.mono _ _)
   |(with_reducible exact aT.refl _)
   |(with_reducible exact aT.none _)
   |(with_reducible refine aT.ite ?_ ?_)
   |(with_reducible refine aT.bind ?_ (fun _=>?_))
  ·intro y0 y1 y2 y3 y4 y5 y6
   unfold ay.l3
   repeat' first
   |(with_reducible exact dL _ _ _)
   |(with_reducible exact ih1 _ _ _ _ _ _)
   |(with_reducible exact ih2 _ _ _ _ _ _)
   |(with_reducible exact ih3 _ _ _ _ _ _ _ _ _ _ _ _ _)
   |(with_reducible exact ih4 _ _ _ _ _ _ _)
   |(with_reducible exact ih5 _ _ _ _ _ _ _ _ _ _ _ _ _ _)
   |(with_reducible exact Gn _ _ _ _ _ _)
   |(with_reducible exact dx.mono _ _ _ _ _ _ _)
   |(with_reducible exact ct.mono _ _ _)
   |(with_reducible exact bH.mono _ _ _)
   |(with_reducible exact bK.mono _ _)
   |(with_reducible exact bR.mono _ _)
   |(with_reducible exact aT.refl _)
   |(with_reducible exact aT.none _)
   |(with_reducible refine aT.ite ?_ ?_)
   |(with_reducible refine aT.bind ?_ (fun _=>?_))
  ·intro y0 y1 y2 y3 y4 y5 y6 y7 y8 y9 Oh Oi Oj y13
   unfold ay.l4
   repeat' first
   |(with_reducible exact dL _ _ _)
   |(with_reducible exact ih1 _ _ _ _ _ _)
   |(with_reducible exact ih2 _ _ _ _ _ _)
   |(with_reducible exact ih3 _ _ _ _ _ _ _ _ _ _ _ _ _)
   |(with_reducible exact ih4 _ _ _ _ _ _ _)
   |(with_reducible exact ih5 _ _ _ _ _ _ _ _ _ _ _ _ _ _)
   |(with_reducible exact Gn _ _ _ _ _ _)
   |(with_reducible exact dx.mono _ _ _ _ _ _ _)
   |(with_reducible exact ct.mono _ _ _)
   |(with_reducible exact bH.mono _ _ _)
   |(with_reducible exact bK.mono _ _)
   |(with_reducible exact bR.mono _ _)
   |(with_reducible exact aT.refl _)
   |(with_reducible exact aT.none _)
   |(with_reducible refine aT.ite ?_ ?_)
   |(with_reducible refine aT.bind ?_ (fun _=>?_))
  ·intro y0 y1 y2 y3 y4 y5
   unfold ay.l5
   repeat' first
   |(with_reducible exact dL _ _ _)
   |(with_reducible exact ih1 _ _ _ _ _ _)
   |(with_reducible exact ih2 _ _ _ _ _ _)
   |(with_reducible exact ih3 _ _ _ _ _ _ _ _ _ _ _ _ _)
   |(with_reducible exact ih4 _ _ _ _ _ _ _)
   |(with_reducible exact ih5 _ _ _ _ _ _ _ _ _ _ _ _ _ _)
   |(with_reducible exact Gn _ _ _ _ _ _)
   |(with_reducible exact dx.mono _ _ _ _ _ _ _)
   |(with_reducible exact ct.mono _ _ _)
   |(with_reducible exact bH.mono _ _ _)
   |(with_reducible exact bK.mono _ _)
   |(with_reducible exact bR.mono _ _)
   |(with_reducible exact aT.refl _)
   |(with_reducible exact aT.none _)
   |(with_reducible refine aT.ite ?_ ?_)
   |(with_reducible refine aT.bind ?_ (fun _=>?_))
theorem ay.mono:∀a0 a1 k,aT (ay.f k a0 a1) (ay.f (k+1) a0 a1):=by
 intro a0 a1 k
 obtain ⟨dL,ih1,ih2,ih3,ih4,ih5,Gn⟩:=ay.cI k
 unfold ay.f
 repeat' first
  |(with_reducible exact dL _ _ _)
  |(with_reducible exact ih1 _ _ _ _ _ _)
  |(with_reducible exact ih2 _ _ _ _ _ _)
  |(with_reducible exact ih3 _ _ _ _ _ _ _ _ _ _ _ _ _)
  |(with_reducible exact ih4 _ _ _ _ _ _ _)
  |(with_reducible exact ih5 _ _ _ _ _ _ _ _ _ _ _ _ _ _)
  |(with_reducible exact Gn _ _ _ _ _ _)
  |(with_reducible exact dx.mono _ _ _ _ _ _ _)
  |(with_reducible exact ct.mono _ _ _)
  |(with_reducible exact bH.mono _ _ _)
  |(with_reducible exact bK.mono _ _)
  |(with_reducible exact bR.mono _ _)
  |(with_reducible exact aT.refl _)
  |(with_reducible exact aT.none _)
  |(with_reducible refine aT.ite ?_ ?_)
  |(with_reducible refine aT.bind ?_ (fun _=>?_))
set_option maxHeartbeats 8000000 in
set_option maxRecDepth 100000 in
theorem ay.calls (k:Nat) (A0:Option Addr) (c0:Nat) (l0:List Int) (A1:Option Addr) (c1:Nat) (l1:List (List Int)) (r1:Bool) (r2:Int) (r3:Int) (r4:List (bM)) (r5:List (bM)) (w:World) (fy:Kd.C (Kd.int .i64) w A0 l0.length l0) (hc0:l0.length<=c0) (hr1:Kd.C (Kd.slice 3 (Kd.int .i64)) w A1 l1.length l1) (hc1:l1.length<=c1) (h:ay.f k l0 l1=some (r1,r2,r3,r4,r5)):
 Calls Try.prog 6 #[.slice A0 l0.length c0,.slice A1 l1.length c1] w fun e w'=>∃v3_ v4_:Value,e= .returned (.agg #[.bool r1,.int .i64 r2,.int .i64 r3,v3_,v4_])/\Kd.R eY 26 w' w.heap.size (fun k_=>some k_≠(v4_:Value).ownBlock) v3_ r4/\Kd.R eY 26 w' w.heap.size (fun k_=>some k_≠(v3_:Value).ownBlock) v4_ r5/\Below w.heap.size w w':=by
 have YS:=Try.underlying29
 have b5o:=Try.underlying49
 have mM:=Try.underlying26
 have eE:=Aside0.mk fy
 have lR:=Aside0.mk hc0
 clear fy hc0
 have iJ:=Aside0.mk hr1
 have nW:=Aside0.mk hc1
 clear hr1 hc1
 have HB:=Aside0.mk (Below.refl w.heap.size w)
 have H:((bH.f k l0 6).bind fun t208=>(if t208=true then (ay.j0 k l0 l1 (decide ((l1.length:Int)<=7))) else (ay.j0 k l0 l1 false)))=some (r1,r2,r3,r4,r5):=h
 clear h
 have zT:=Aside0.mk H
 clear H
 go_enter Try.func6,Try.ntmps6
 go_upto_region 1 with (first|((with_reducible refine bp (N:=4) rfl ?_);(try (refine gO (by rfl) ?_;dsimp only));refine bw ?hg (N:=4) ?hd (cs:= #[.bool false,.int .i64 0,.int .i64 0,.slice none 0 0,.slice none 0 0]) (t:=29) ?hr ?_;(case hd=>rfl);(case hg=>rfl);(case hr=>first|(go_simp;done)|(go_simp;rfl));intro cn hg w4 aU hb;have aA:=Aside0.mk (ah ax hb);have aC:=Aside0.mk (aU);have aD:=Aside0.mk ((by rw [hg];exact (av ax):w.heap.size<=cn));have aJ:=Aside0.mk ((by rw [hg];exact (av ax):w.heap.size<=cn));clear HB;have HB:=aA;have bz:=aC;have GW207:=aD;have GE207:=aJ;clear aA aC aD aJ;clear hb aU hg))
 (try simp only [Act.put,List.setIfInBounds_toArray,List.set_cons_zero,List.set_cons_succ])
 go_cut [5] (fun v5 wc=>∃(kq:Nat) (xB:Bool),v5= .bool xB/\Aside0 (ay.j0 kq l0 l1 xB=some (r1,r2,r3,r4,r5))/\Aside0 (kq<=k)/\Aside0 (wc.heap[cn]? =some (.cells #[.bool false,.int .i64 0,.int .i64 0,(.slice none 0 0),(.slice none 0 0)] 29 (0,0)))/\Aside0 (Below w.heap.size w wc))
 case first=>
  have H:=zT.out
  clear zT
  replace H:=Option.bind_eq_some_iff.mp H
  obtain ⟨t208,AO,H⟩:=H
  replace H:(if t208=true then (ay.j0 k l0 l1 (decide ((l1.length:Int)<=7))) else (ay.j0 k l0 l1 false))=some (r1,r2,r3,r4,r5):=H
  have A5:=Aside0.mk AO
  clear AO
  by_cases c6:t208=true
  ·subst c6
   have H1:(ay.j0 k l0 l1 (decide ((l1.length:Int)<=7)))=some (r1,r2,r3,r4,r5):=by rw [if_pos rfl] at H;exact H
   clear H
   have H:=H1
   clear H1
   have H':=Aside0.mk H
   clear H
   go_wp2_with (first|((with_reducible refine aY (f:=22) rfl ?_);refine bP (some 24) rfl rfl Try.func22 (by kernel_rfl) rfl #[.slice A0 l0.length c0,.int .i64 6] rfl (by (try simp only [List.map_toArray,List.map_cons,List.map_nil]);first|done|rfl|(simp only [List.length_drop,List.length_take];rfl)) ?_;(with_reducible refine (bH.calls k _ _ l0 6 true _ ?cy ?cA A5.out).mono ?_);(case cy=>repeat (first|exact (Kd.bX eE.out HB.out)|(with_reducible refine Kd.cX ?_ _)|(with_reducible refine Kd.cY ?_ _)|(with_reducible refine Kd.dB ?_)));(case cA=>exact lR.out);rintro e w' ⟨rfl,⟨nd,rfl⟩⟩;refine ⟨_,rfl,?_⟩))
   go_meet
   case rel=>exact ⟨_,(decide ((l1.length:Int)<=7)),(by first|rfl|(simp;done)|(simp [*];done)),H',⟨by first|omega|exact Nat.le_refl _⟩,⟨by (with_reducible repeat (first|refine aq ?_ _|refine aj ?_|refine ak ?_ _));exact bz.out⟩,⟨ax⟩⟩
  ·replace c6:=Bool.eq_false_iff.mpr c6
   subst c6
   have H1:(ay.j0 k l0 l1 false)=some (r1,r2,r3,r4,r5):=by rw [if_neg (show ¬(false=true) by decide)] at H;exact H
   clear H
   have H:=H1
   clear H1
   have H':=Aside0.mk H
   clear H
   go_wp2_with (first|((with_reducible refine aY (f:=22) rfl ?_);refine bP (some 24) rfl rfl Try.func22 (by kernel_rfl) rfl #[.slice A0 l0.length c0,.int .i64 6] rfl (by (try simp only [List.map_toArray,List.map_cons,List.map_nil]);first|done|rfl|(simp only [List.length_drop,List.length_take];rfl)) ?_;(with_reducible refine (bH.calls k _ _ l0 6 false _ ?cy ?cA A5.out).mono ?_);(case cy=>repeat (first|exact (Kd.bX eE.out HB.out)|(with_reducible refine Kd.cX ?_ _)|(with_reducible refine Kd.cY ?_ _)|(with_reducible refine Kd.dB ?_)));(case cA=>exact lR.out);rintro e w' ⟨rfl,⟨nd,rfl⟩⟩;refine ⟨_,rfl,?_⟩))
   go_meet
   case rel=>exact ⟨_,(false),(by first|rfl|(simp;done)|(simp [*];done)),H',⟨by first|omega|exact Nat.le_refl _⟩,⟨by (with_reducible repeat (first|refine aq ?_ _|refine aj ?_|refine ak ?_ _));exact bz.out⟩,⟨ax⟩⟩
 case rest=>
  clear zT
  try clear c1
  try clear c2
  try clear p2
  try clear c6
  obtain ⟨kq,xB,rfl,HA,ry,bz,HB⟩:=hcut
  cases kq with
  |zero=>exact absurd HA.out (by simp [ay.j0])
  |succ kj2=>
   have H:=HA.out
   clear HA
   simp only [ay.j0] at H
   have H':=Aside0.mk H
   clear H
   go_wp2
   go_loopg [5,32] kj2 (fun kq v5 v32 w'=>∃(xB:Bool) (jG:Int),v5= .bool xB/\v32= .int .i64 jG/\Aside0 (ay.l0 kq l0 l1 xB l1 (l1.length:Int) jG=some (r1,r2,r3,r4,r5))/\Aside0 (kq<=kj2)/\Aside0 (w'.heap[cn]? =some (.cells #[.bool false,.int .i64 0,.int .i64 0,(.slice none 0 0),(.slice none 0 0)] 29 (0,0)))/\Aside0 (Below w.heap.size w w'))
   case atStart=>exact ⟨(xB),(0),(by first|rfl|(simp;done)|(simp [*];done)),(by first|rfl|(simp;done)|(simp [*];done)),H',⟨Nat.le_refl _⟩,⟨by (with_reducible repeat (first|refine aq ?_ _|refine aj ?_|refine ak ?_ _));exact bz.out⟩,⟨ax⟩⟩
   case round=>
    clear H'
    try clear c1
    try clear c2
    try clear p2
    try clear c6
    try clear p2
    obtain ⟨xB,jG,rfl,rfl,HA,qu,bz,HB⟩:=hrel
    cases gk with
    |zero=>exact absurd HA.out (by simp [ay.l0])
    |succ k2=>
     have H:=HA.out
     clear HA
     simp only [ay.l0] at H
     by_cases c7:jG<(l1.length:Int)
     ·rw [if_pos c7] at H
      have rF:decide (jG<(l1.length:Int))=true:=decide_eq_true c7
      clear c7
      by_cases c8:0<=jG
      ·rw [if_pos c8] at H
       have su:decide (0<=jG)=true:=decide_eq_true c8
       clear c8
       by_cases c9:jG<(l1.length:Int)
       ·rw [if_pos c9] at H
        have Dr:decide (jG<(l1.length:Int))=true:=decide_eq_true c9
        clear c9
        by_cases c10:xB=true
        ·subst c10
         have H1:((bH.f k2 (dH l1 jG) 6).bind fun t210=>(ay.l0 k2 l0 l1 t210 l1 (l1.length:Int) (wrap64 (jG+1))))=some (r1,r2,r3,r4,r5):=by rw [if_pos rfl] at H;exact H
         clear H
         have H:=H1
         clear H1
         replace H:=Option.bind_eq_some_iff.mp H
         obtain ⟨t210,MB,H⟩:=H
         replace H:(ay.l0 k2 l0 l1 t210 l1 (l1.length:Int) (wrap64 (jG+1)))=some (r1,r2,r3,r4,r5):=H
         have UK:=Aside0.mk MB
         clear MB
         have H':=Aside0.mk H
         clear H
         have ug:0<=(jG:Int):=of_decide_eq_true (by first|(with_reducible assumption)|assumption)
         have uh:jG<(l1.length:Int):=of_decide_eq_true (by first|(with_reducible assumption)|assumption)
         obtain ⟨b1D,a8U,a8V,a0E,lY,yN,yO⟩:=qz iJ.out jG ug uh
         cases a0E
         replace lY:=(HB.out.cell (World.block_lt_of_cell? w _ lY)).trans lY
         have QU:=Aside0.mk yO
         have QV:=Aside0.mk yN
         clear yO yN
         replace ug:=eq_true ug
         replace uh:=eq_true uh
         go_wp2_with (first|(go_at_call 22;(with_reducible refine (bH.calls k2 _ _ (dH l1 jG) 6 t210 _ ?cy ?cA UK.out).mono ?_);(case cy=>repeat (first|exact (Kd.bX QU.out HB.out)|(with_reducible refine Kd.cX ?_ _)|(with_reducible refine Kd.cY ?_ _)|(with_reducible refine Kd.dB ?_)));(case cA=>exact QV.out);rintro e w' ⟨rfl,⟨nd,rfl⟩⟩))
         go_roundg k2
         case measure=>have:=ry.out;have:=qu.out;omega
         case rel=>exact ⟨(t210),(wrap64 (jG+1)),(by first|rfl|(simp;done)|(simp [*];done)),(by first|rfl|(simp;done)|(simp [*];done)),H',⟨by have:=ry.out;have:=qu.out;omega⟩,⟨by (with_reducible repeat (first|refine aq ?_ _|refine aj ?_|refine ak ?_ _));exact bz.out⟩,⟨ax⟩⟩
        ·replace c10:=Bool.eq_false_iff.mpr c10
         subst c10
         have H1:(ay.l0 k2 l0 l1 false l1 (l1.length:Int) (wrap64 (jG+1)))=some (r1,r2,r3,r4,r5):=by rw [if_neg (show ¬(false=true) by decide)] at H;exact H
         clear H
         have H:=H1
         clear H1
         have H':=Aside0.mk H
         clear H
         have ug:0<=(jG:Int):=of_decide_eq_true (by first|(with_reducible assumption)|assumption)
         have uh:jG<(l1.length:Int):=of_decide_eq_true (by first|(with_reducible assumption)|assumption)
         obtain ⟨b1D,a8U,a8V,a0E,lY,yN,yO⟩:=qz iJ.out jG ug uh
         cases a0E
         replace lY:=(HB.out.cell (World.block_lt_of_cell? w _ lY)).trans lY
         have QU:=Aside0.mk yO
         have QV:=Aside0.mk yN
         clear yO yN
         replace ug:=eq_true ug
         replace uh:=eq_true uh
         go_wp2
         go_roundg k2
         case measure=>have:=ry.out;have:=qu.out;omega
         case rel=>exact ⟨(false),(wrap64 (jG+1)),(by first|rfl|(simp;done)|(simp [*];done)),(by first|rfl|(simp;done)|(simp [*];done)),H',⟨by have:=ry.out;have:=qu.out;omega⟩,⟨by (with_reducible repeat (first|refine aq ?_ _|refine aj ?_|refine ak ?_ _));exact bz.out⟩,⟨ax⟩⟩
       ·rw [if_neg c9] at H
        exact absurd H (by simp)
      ·rw [if_neg c8] at H
       exact absurd H (by simp)
     ·rw [if_neg c7] at H
      have rF:decide (jG<(l1.length:Int))=false:=decide_eq_false c7
      clear c7
      by_cases c12:xB=true
      ·subst c12
       have H1:(ay.l1 k2 l0 l1 (([]:List (cq))) l0 (l0.length:Int) 0)=some (r1,r2,r3,r4,r5):=by rw [if_pos rfl] at H;exact H
       clear H
       have H:=H1
       clear H1
       obtain ⟨a8W,Gp⟩:∃y_:List (cq),y_=(([]:List (cq))):=⟨_,rfl⟩
       replace H:(ay.l1 k2 l0 l1 a8W l0 (l0.length:Int) 0)=some (r1,r2,r3,r4,r5):=by first|(rw [Gp];with_reducible exact H)|(have dZ:=(Option.bind_some _ _).symm.trans H;rw [Gp];with_reducible exact dZ)|(have dZ:=(Option.bind_some _ _).symm.trans H;with_reducible exact dZ)|with_reducible exact H|(rw [Gp];exact H)|exact H
       have a2U:=Aside0.mk Gp
       clear Gp
       have H':=Aside0.mk H
       clear H
       go_wp2_with (first|((with_reducible refine bp (N:=45) rfl ?_);(try (refine gO (by rfl) ?_;dsimp only));refine Kd.a1g iZ _ 49 ?hg (N:=45) ?hd (xs:=([]:List (cq))) (inner:=[]) (ok:=fun _=>True) (fK:=fun _=>True) ?hr ?hp (fun _ hk=>hk) trivial (Below.refl _ _) (Nat.le_refl _) (by simp) ?_;(case hd=>rfl);(case hg=>rfl);(case hr=>first|(go_simp;done)|(go_simp;rfl));(case hp=>exact (cT.none _ _));intro v212 lS Ol hb uZ nH;clear uZ nH;(first|rw [<-a2U.out] at Ol|(simp only [Int.reduceToNat] at Ol;rw [<-a2U.out] at Ol));have aA:=Aside0.mk (Kd.GU Ol (av ax));have aC:=Aside0.mk (ai (g:=cn) (o:= .cells #[.bool false,.int .i64 0,.int .i64 0,.slice none 0 0,.slice none 0 0] 29 (0,0)) (aI bz) hb);have aD:=Aside0.mk (ah ax hb);clear bz;clear HB;have b1E:=aA;have bz:=aC;have HB:=aD;clear aA aC aD;clear hb Ol))
       go_loopg [8,48] k2 (fun kq v8 v48 w'=>∃(qi:List (cq)) (gp:Int) (cW:Bool) (cN:Int) (cC:Int),v48= .int .i64 gp/\Aside0 (ay.l1 kq l0 l1 qi l0 (l0.length:Int) gp=some (r1,r2,r3,r4,r5))/\Aside0 (kq<=k2)/\Aside0 (Kd.S iZ 49 w' w.heap.size (fun _=>True) v8 qi)/\Aside0 (w'.heap[cn]? =some (.cells #[.bool cW,.int .i64 cN,.int .i64 cC,(.slice none 0 0),(.slice none 0 0)] 29 (0,0)))/\Aside0 (Below w.heap.size w w'))
       case atStart=>exact ⟨(a8W),(0),(false),(0),(0),(by first|rfl|(simp;done)|(simp [*];done)),H',⟨Nat.le_refl _⟩,⟨by (with_reducible repeat (first|apply Kd.bU|apply Kd.bV|apply Kd.cE));exact b1E.out⟩,⟨by (with_reducible repeat (first|refine aq ?_ _|refine aj ?_|refine ak ?_ _));exact bz.out⟩,⟨ax⟩⟩
       case round=>
        clear H'
        try clear c1
        try clear c2
        try clear p2
        try clear q2
        try clear hx2
        try clear c6
        try clear p6
        try clear c7
        try clear rF
        try clear c8
        try clear su
        try clear c9
        try clear Dr
        try clear c10
        try clear c12
        try clear lY
        try clear p2
        try clear ug
        try clear uh
        obtain ⟨qi,gp,cW,cN,cC,rfl,HA,uy,cU,bz,HB⟩:=hrel
        cases gk with
        |zero=>exact absurd HA.out (by simp [ay.l1])
        |succ k3=>
         have H:=HA.out
         clear HA
         simp only [ay.l1] at H
         by_cases c15:gp<(l0.length:Int)
         ·rw [if_pos c15] at H
          have Gq:decide (gp<(l0.length:Int))=true:=decide_eq_true c15
          clear c15
          by_cases c16:0<=gp
          ·rw [if_pos c16] at H
           have LI:decide (0<=gp)=true:=decide_eq_true c16
           clear c16
           by_cases c17:gp<(l0.length:Int)
           ·rw [if_pos c17] at H
            have LJ:decide (gp<(l0.length:Int))=true:=decide_eq_true c17
            clear c17
            have H':=Aside0.mk H
            clear H
            have El:0<=(gp:Int):=of_decide_eq_true (by first|(with_reducible assumption)|assumption)
            have Em:gp<(l0.length:Int):=of_decide_eq_true (by first|(with_reducible assumption)|assumption)
            obtain ⟨ad214,b5A,sP⟩:=Kd.gq eE.out gp El Em
            cases b5A
            replace sP:=(HB.out.cell (World.block_lt_of_cell? w _ sP)).trans sP
            replace El:=eq_true El
            replace Em:=eq_true Em
            go_wp2_with (first|((with_reducible refine bp (N:=11) rfl ?_);(try (refine gO (by rfl) ?_;dsimp only));refine bw ?hg (N:=11) ?hd (cs:= #[.slice none 0 0,.bool false,.int .i64 0]) (t:=49) ?hr ?_;(case hd=>rfl);(case hg=>rfl);(case hr=>first|(go_simp;done)|(go_simp;rfl));intro eZ hg qf aU hb;have aA:=Aside0.mk (Kd.jJ (Kd.Dl (by (with_reducible repeat (first|apply Kd.bU|apply Kd.bV|apply Kd.cE));exact cU.out) eZ (Nat.le_of_eq hg.symm)) hb);have aC:=Aside0.mk (ai (g:=cn) (o:= .cells #[.bool cW,.int .i64 cN,.int .i64 cC,.slice none 0 0,.slice none 0 0] 29 (0,0)) (aI bz) hb);have aD:=Aside0.mk (ah ax hb);have aJ:=Aside0.mk (aU);have bJ:=Aside0.mk ((by rw [hg];exact (av ax):w.heap.size<=eZ));have bS:=Aside0.mk ((by rw [hg];exact (av ax):w.heap.size<=eZ));have cw:=Aside0.mk ((by rw [hg];exact Nat.ne_of_lt (aZ (g:=cn) (o:= .cells #[.bool cW,.int .i64 cN,.int .i64 cC,.slice none 0 0,.slice none 0 0] 29 (0,0)) (aI bz)):cn≠eZ));have iL:=Aside0.mk ((by rw [hg];exact Nat.ne_of_gt (aZ (g:=cn) (o:= .cells #[.bool cW,.int .i64 cN,.int .i64 cC,.slice none 0 0,.slice none 0 0] 29 (0,0)) (aI bz)):eZ≠cn));clear cU;clear bz;clear HB;have cU:=aA;have bz:=aC;have HB:=aD;have dS:=aJ;have GW215:=bJ;have GE215:=bS;have nC:=cw;have wZ:=iL;clear aA aC aD aJ bJ bS cw iL;clear hb aU hg;have hnb19:=wZ.out;have hnc19:=nC.out;have yD:qf.cell? ⟨eZ,0,none⟩=some (.slice none 0 0):=(af dS.out 0).trans rfl;have yE:qf.cell? ⟨eZ,1,none⟩=some (.bool false):=(af dS.out 1).trans rfl;have Cw:qf.cell? ⟨eZ,2,none⟩=some (.int .i64 0):=(af dS.out 2).trans rfl;have yF:=aa dS.out 0;have yG:=aa dS.out 1;have Cx:=aa dS.out 2))
            go_loopg [55] k3 (fun kq v55 w'=>∃(fX:Int) (dP:List Int) (u216000:Value),v55= .int .i64 fX/\Aside0 (ay.l2 kq l0 l1 qi (rd l0 gp) l0 (l0.length:Int) gp l1 (l1.length:Int) fX dP false 1=some (r1,r2,r3,r4,r5))/\Aside0 (kq<=k3)/\Aside0 (Kd.S iZ 49 w' w.heap.size (fun k_=>some k_≠(u216000:Value).ownBlock/\k_≠eZ) u8 qi)/\Aside0 (Kd.R (Kd.int .i64) 3 w' w.heap.size (fun _=>True) u216000 dP)/\Aside0 (w'.heap[cn]? =some (.cells #[.bool cW,.int .i64 cN,.int .i64 cC,(.slice none 0 0),(.slice none 0 0)] 29 (0,0)))/\Aside0 (w'.heap[eZ]? =some (.cells #[u216000,.bool false,.int .i64 1] 49 (0,0)))/\Aside0 (Below w.heap.size w w'))
            case atStart=>exact ⟨(0),(([]:List Int)),(.slice none 0 0),(by first|rfl|(simp;done)|(simp [*];done)),H',⟨Nat.le_refl _⟩,⟨by (with_reducible repeat (first|apply Kd.bU|apply Kd.bV|apply Kd.cE));exact Kd.dY (Kd.qx (p:=⟨eZ,2,none⟩) (Kd.qx (p:=⟨eZ,1,none⟩) (Kd.qx (p:=⟨eZ,0,none⟩) (Kd.dY cU.out (fun k_ hk=>(⟨hk,hk.2⟩:_/\k_≠eZ))) (fun _ hk=>hk.2) (.slice none 0 0)) (fun _ hk=>hk.2) (.bool false)) (fun _ hk=>hk.2) (.int .i64 1)) (fun _ hk=>⟨(by simp [Value.ownBlock]),hk.1.2⟩)⟩,⟨by first|exact Kd.rB _ _ _ _ _|exact Kd.BI _ _ _ _ _|exact Kd.BJ _ _ _ _ _|exact Kd.BH _ _ _ _ _|exact Kd.yZ _ _ _ _ _⟩,⟨by (with_reducible repeat (first|refine aq ?_ _|refine aj ?_|refine ak ?_ _));refine dm ?_ nC.out _;(with_reducible repeat (first|refine aq ?_ _|refine aj ?_|refine ak ?_ _));refine dm ?_ nC.out _;(with_reducible repeat (first|refine aq ?_ _|refine aj ?_|refine ak ?_ _));refine dm ?_ nC.out _;(with_reducible repeat (first|refine aq ?_ _|refine aj ?_|refine ak ?_ _));exact bz.out⟩,⟨by (with_reducible repeat (first|refine aq ?_ _|refine aj ?_|refine ak ?_ _));refine aK (cs:= #[.slice none 0 0,.bool false,.int .i64 0]) ?_ 2 _ rfl;(with_reducible repeat (first|refine aq ?_ _|refine aj ?_|refine ak ?_ _));refine aK (cs:= #[.slice none 0 0,.bool false,.int .i64 0]) ?_ 1 _ rfl;(with_reducible repeat (first|refine aq ?_ _|refine aj ?_|refine ak ?_ _));refine aK (cs:= #[.slice none 0 0,.bool false,.int .i64 0]) ?_ 0 _ rfl;(with_reducible repeat (first|refine aq ?_ _|refine aj ?_|refine ak ?_ _));exact dS.out⟩,⟨ax⟩⟩
            case round=>
             clear H'
             try clear c1
             try clear c2
             try clear p2
             try clear q2
             try clear hx2
             try clear c6
             try clear p6
             try clear c7
             try clear rF
             try clear c8
             try clear su
             try clear c9
             try clear Dr
             try clear c10
             try clear c12
             try clear c15
             try clear Gq
             try clear c16
             try clear LI
             try clear c17
             try clear LJ
             try clear c19
             try clear c20
             try clear QW
             try clear QX
             try clear a0F
             try clear yD
             try clear yE
             try clear Cw
             try clear yF
             try clear yG
             try clear Cx
             try clear lY
             try clear sP
             try clear p2
             try clear ug
             try clear El
             try clear p6
             try clear q2
             try clear uh
             try clear Em
             obtain ⟨fX,dP,u216000,rfl,HA,tY,cU,jm,bz,dS,HB⟩:=hrel
             cases gk with
             |zero=>exact absurd HA.out (by simp [ay.l2])
             |succ k4=>
              have H:=HA.out
              clear HA
              simp only [ay.l2] at H
              by_cases Gr:fX<(l1.length:Int)
              ·rw [if_pos Gr] at H
               have LK:decide (fX<(l1.length:Int))=true:=decide_eq_true Gr
               clear Gr
               by_cases Om:0<=fX
               ·rw [if_pos Om] at H
                have Tx:decide (0<=fX)=true:=decide_eq_true Om
                clear Om
                by_cases Oo:fX<(l1.length:Int)
                ·rw [if_pos Oo] at H
                 have Ty:decide (fX<(l1.length:Int))=true:=decide_eq_true Oo
                 clear Oo
                 replace H:=Option.bind_eq_some_iff.mp H
                 obtain ⟨Tw,a8X,H⟩:=H
                 replace H:(if Tw=true then (if dP.length<17592186044416 then (ay.l2 k4 l0 l1 qi (rd l0 gp) l0 (l0.length:Int) gp l1 (l1.length:Int) (wrap64 (fX+1)) (dP++[fX]) false 1) else (none)) else (ay.l2 k4 l0 l1 qi (rd l0 gp) l0 (l0.length:Int) gp l1 (l1.length:Int) (wrap64 (fX+1)) dP false 1))=some (r1,r2,r3,r4,r5):=H
                 have A24:=Aside0.mk a8X
                 clear a8X
                 by_cases Oq:Tw=true
                 ·subst Oq
                  have H1:(if dP.length<17592186044416 then (ay.l2 k4 l0 l1 qi (rd l0 gp) l0 (l0.length:Int) gp l1 (l1.length:Int) (wrap64 (fX+1)) (dP++[fX]) false 1) else (none))=some (r1,r2,r3,r4,r5):=by rw [if_pos rfl] at H;exact H
                  clear H
                  have H:=H1
                  clear H1
                  by_cases KF:dP.length<17592186044416
                  ·rw [if_pos KF] at H
                   have b1F:=Aside0.mk KF
                   clear KF
                   obtain ⟨Ot,Gs⟩:∃y_:List Int,y_=(dP++[fX]):=⟨_,rfl⟩
                   replace H:(ay.l2 k4 l0 l1 qi (rd l0 gp) l0 (l0.length:Int) gp l1 (l1.length:Int) (wrap64 (fX+1)) Ot false 1)=some (r1,r2,r3,r4,r5):=by first|(rw [Gs];with_reducible exact H)|(have dZ:=(Option.bind_some _ _).symm.trans H;rw [Gs];with_reducible exact dZ)|(have dZ:=(Option.bind_some _ _).symm.trans H;with_reducible exact dZ)|with_reducible exact H|(rw [Gs];exact H)|exact H
                   have b1G:=Aside0.mk Gs
                   clear Gs
                   have H':=Aside0.mk H
                   clear H
                   have xD:0<=(fX:Int):=of_decide_eq_true (by first|(with_reducible assumption)|assumption)
                   have xE:fX<(l1.length:Int):=of_decide_eq_true (by first|(with_reducible assumption)|assumption)
                   obtain ⟨b1H,Ou,Ov,e216,ou,yP,yQ⟩:=qz iJ.out fX xD xE
                   cases e216
                   replace ou:=(HB.out.cell (World.block_lt_of_cell? w _ ou)).trans ou
                   have Ju:=Aside0.mk yQ
                   have Jv:=Aside0.mk yP
                   clear yQ yP
                   replace xD:=eq_true xD
                   replace xE:=eq_true xE
                   go_wp2_with (first|((with_reducible refine aY (f:=23) rfl ?_);refine bP (some 62) rfl rfl Try.func23 (by kernel_rfl) rfl #[.slice Ou (dH l1 fX).length Ov,.int .i64 (rd l0 gp)] rfl (by (try simp only [List.map_toArray,List.map_cons,List.map_nil]);first|done|rfl|(simp only [List.length_drop,List.length_take];rfl)) ?_;(with_reducible refine (ct.calls k4 _ _ (dH l1 fX) (rd l0 gp) true _ ?cy ?cA A24.out).mono ?_);(case cy=>repeat (first|exact (Kd.bX Ju.out HB.out)|(with_reducible refine Kd.cX ?_ _)|(with_reducible refine Kd.cY ?_ _)|(with_reducible refine Kd.dB ?_)));(case cA=>exact Jv.out);rintro e w' ⟨rfl,⟨nd,rfl⟩⟩;refine ⟨_,rfl,?_⟩;(try (rw [mg wr];generalize jR:World.drewN wr _=wr;have aA:Aside0 (Kd.R (Kd.int .i64) 3 wr w.heap.size (fun _=>True) u216000 dP):=⟨by rw [<-jR];exact (by (with_reducible repeat (first|apply Kd.dz|apply Kd.dG|apply Kd.ez));exact jm.out)⟩;have aC:Aside0 (Kd.S iZ 49 wr w.heap.size (fun k_=>some k_≠(u216000:Value).ownBlock/\k_≠eZ) u8 qi):=⟨by rw [<-jR];exact (by (with_reducible repeat (first|apply Kd.bU|apply Kd.bV|apply Kd.cE));exact cU.out)⟩;have aD:Aside0 (wr.heap[cn]? =some (.cells #[.bool cW,.int .i64 cN,.int .i64 cC,.slice none 0 0,.slice none 0 0] 29 (0,0))):=⟨by rw [<-jR];exact (aI bz)⟩;have aJ:Aside0 (wr.heap[eZ]? =some (.cells #[u216000,.bool false,.int .i64 1] 49 (0,0))):=⟨by rw [<-jR];exact (aI dS)⟩;have bJ:Aside0 (Below w.heap.size w wr):=⟨by rw [<-jR];exact ax⟩;clear jm cU bz dS HB jR;have jm:=aA;have cU:=aC;have bz:=aD;have dS:=aJ;have HB:=bJ;clear aA aC aD aJ bJ));have hnb27:=wZ.out;have hnc27:=nC.out;have uR:wr.cell? ⟨eZ,0,none⟩=some (u216000):=(af dS.out 0).trans rfl;have uS:wr.cell? ⟨eZ,1,none⟩=some (.bool false):=(af dS.out 1).trans rfl;have Jw:wr.cell? ⟨eZ,2,none⟩=some (.int .i64 1):=(af dS.out 2).trans rfl;have uT:=aa dS.out 0;have uU:=aa dS.out 1;have Jx:=aa dS.out 2)|((with_reducible refine gu (b:= .append) (xs:= #[.tmp 64,.tmp 66]) rfl ?_);(try (refine gO (by rfl) ?_;dsimp only));at_builtin;refine Kd.nE (Kd.int .i64) (w0:=w) w.heap.size rfl (.tmp 64) (.tmp 66) 22 3 (.int .i64 0) 8 rfl Try.underlying22 info3 rfl (by decide) (by omega) u216000 dP fX [.int .i64 fX] (fun _=>True) (fun _=>False) rfl rfl ?aP (fun _ hk=>hk.elim) ?aF ?aO ?aB ?aS ?aL ?_;(case aP=>exact rfl);(case aB=>exact ax);(case aF=>exact (fun _ _=>trivial));(case aO=>exact (by (with_reducible repeat (first|apply Kd.dz|apply Kd.dG|apply Kd.ez));exact jm.out));(case aS=>exact (av ax));(case aL=>have:=b1F.out;omega);intro v219 w29 ho hb hg hat;rw [<-b1G.out] at ho;have aA:=Aside0.mk (Kd.uM (ok:=(fun k_=>k_≠eZ)) (by (with_reducible repeat (first|apply Kd.bU|apply Kd.bV|apply Kd.cE));exact Kd.dY cU.out (fun _ hk=>⟨hk.2,hk.1⟩)) hg hat);have aC:=Aside0.mk (lu (g:=cn) (o:= .cells #[.bool cW,.int .i64 cN,.int .i64 cC,.slice none 0 0,.slice none 0 0] 29 (0,0)) (aI bz) hg (Kd.Di jm.out bz.out (by decide)));have aD:=Aside0.mk (lu (g:=eZ) (o:= .cells #[u216000,.bool false,.int .i64 1] 49 (0,0)) (aI dS) hg (Kd.Di jm.out dS.out (by decide)));have aJ:=Aside0.mk (hb);have bJ:=Aside0.mk (ho);clear cU;clear bz;clear dS;clear HB;clear jm;have cU:=aA;have bz:=aC;have dS:=aD;have HB:=aJ;have a2V:=bJ;clear aA aC aD aJ bJ;clear ho hb hg hat;obtain ⟨a0G,a0H,b5B⟩:=Kd.eJ a2V.out;subst b5B;have xZ:w29.cell? ⟨eZ,0,none⟩=some (u216000):=(af dS.out 0).trans rfl;have ya:w29.cell? ⟨eZ,1,none⟩=some (.bool false):=(af dS.out 1).trans rfl;have yb:w29.cell? ⟨eZ,2,none⟩=some (.int .i64 1):=(af dS.out 2).trans rfl;have yc:=aa dS.out 0;have ye:=aa dS.out 1;have yf:=aa dS.out 2))
                   go_roundg k4
                   case measure=>have:=ry.out;have:=qu.out;have:=uy.out;have:=tY.out;omega
                   case rel=>exact ⟨(wrap64 (fX+1)),(Ot),(.slice a0G Ot.length a0H),(by first|rfl|(simp;done)|(simp [*];done)),H',⟨by have:=ry.out;have:=qu.out;have:=uy.out;have:=tY.out;omega⟩,⟨by (with_reducible repeat (first|apply Kd.bU|apply Kd.bV|apply Kd.cE));exact Kd.dY (Kd.qx (p:=⟨eZ,0,none⟩) (Kd.dY cU.out (fun k_ hk=>(⟨hk,hk.1⟩:_/\k_≠eZ))) (fun _ hk=>hk.2) (.slice a0G Ot.length a0H)) (fun _ hk=>⟨hk.1.2,hk.1.1⟩)⟩,⟨by (with_reducible repeat (first|apply Kd.dz|apply Kd.dG|apply Kd.ez));exact Kd.dD (Kd.jU (p:=⟨eZ,0,none⟩) (Kd.nZ a2V.out dS.out (by decide)) (fun _ hk=>hk.2) (.slice a0G Ot.length a0H)) (fun _ hk=>trivial)⟩,⟨by (with_reducible repeat (first|refine aq ?_ _|refine aj ?_|refine ak ?_ _));refine dm ?_ nC.out _;(with_reducible repeat (first|refine aq ?_ _|refine aj ?_|refine ak ?_ _));exact bz.out⟩,⟨by (with_reducible repeat (first|refine aq ?_ _|refine aj ?_|refine ak ?_ _));refine aK (cs:= #[u216000,.bool false,.int .i64 1]) ?_ 0 _ rfl;(with_reducible repeat (first|refine aq ?_ _|refine aj ?_|refine ak ?_ _));exact dS.out⟩,⟨ax⟩⟩
                  ·rw [if_neg KF] at H
                   exact absurd H (by simp)
                 ·replace Oq:=Bool.eq_false_iff.mpr Oq
                  subst Oq
                  have H1:(ay.l2 k4 l0 l1 qi (rd l0 gp) l0 (l0.length:Int) gp l1 (l1.length:Int) (wrap64 (fX+1)) dP false 1)=some (r1,r2,r3,r4,r5):=by rw [if_neg (show ¬(false=true) by decide)] at H;exact H
                  clear H
                  have H:=H1
                  clear H1
                  have H':=Aside0.mk H
                  clear H
                  have xD:0<=(fX:Int):=of_decide_eq_true (by first|(with_reducible assumption)|assumption)
                  have xE:fX<(l1.length:Int):=of_decide_eq_true (by first|(with_reducible assumption)|assumption)
                  obtain ⟨b1H,Ou,Ov,e216,ou,yP,yQ⟩:=qz iJ.out fX xD xE
                  cases e216
                  replace ou:=(HB.out.cell (World.block_lt_of_cell? w _ ou)).trans ou
                  have Ju:=Aside0.mk yQ
                  have Jv:=Aside0.mk yP
                  clear yQ yP
                  replace xD:=eq_true xD
                  replace xE:=eq_true xE
                  go_wp2_with (first|((with_reducible refine aY (f:=23) rfl ?_);refine bP (some 62) rfl rfl Try.func23 (by kernel_rfl) rfl #[.slice Ou (dH l1 fX).length Ov,.int .i64 (rd l0 gp)] rfl (by (try simp only [List.map_toArray,List.map_cons,List.map_nil]);first|done|rfl|(simp only [List.length_drop,List.length_take];rfl)) ?_;(with_reducible refine (ct.calls k4 _ _ (dH l1 fX) (rd l0 gp) false _ ?cy ?cA A24.out).mono ?_);(case cy=>repeat (first|exact (Kd.bX Ju.out HB.out)|(with_reducible refine Kd.cX ?_ _)|(with_reducible refine Kd.cY ?_ _)|(with_reducible refine Kd.dB ?_)));(case cA=>exact Jv.out);rintro e w' ⟨rfl,⟨nd,rfl⟩⟩;refine ⟨_,rfl,?_⟩))
                  go_roundg k4
                  case measure=>have:=ry.out;have:=qu.out;have:=uy.out;have:=tY.out;omega
                  case rel=>exact ⟨(wrap64 (fX+1)),(dP),(u216000),(by first|rfl|(simp;done)|(simp [*];done)),H',⟨by have:=ry.out;have:=qu.out;have:=uy.out;have:=tY.out;omega⟩,⟨by (with_reducible repeat (first|apply Kd.bU|apply Kd.bV|apply Kd.cE));exact cU.out⟩,⟨by (with_reducible repeat (first|apply Kd.dz|apply Kd.dG|apply Kd.ez));exact jm.out⟩,⟨by (with_reducible repeat (first|refine aq ?_ _|refine aj ?_|refine ak ?_ _));exact bz.out⟩,⟨by (with_reducible repeat (first|refine aq ?_ _|refine aj ?_|refine ak ?_ _));exact dS.out⟩,⟨ax⟩⟩
                ·rw [if_neg Oo] at H
                 exact absurd H (by simp)
               ·rw [if_neg Om] at H
                exact absurd H (by simp)
              ·rw [if_neg Gr] at H
               have LK:decide (fX<(l1.length:Int))=false:=decide_eq_false Gr
               clear Gr
               by_cases Bp:(dP.length:Int)=0
               ·rw [if_pos Bp] at H
                have LL:((dP.length:Int)==0)=true:=beq_iff_eq.mpr Bp
                have LM:((dP.length:Int) !=0)=false:=bne_eq_false_iff_eq.mpr Bp
                clear Bp
                simp only [Option.some.injEq,Prod.mk.injEq] at H
                obtain ⟨rfl,rfl,rfl,rfl,rfl⟩:=H
                have b1y:=wZ.out
                have b1z:=nC.out
                have BU:wr.cell? ⟨eZ,0,none⟩=some (u216000):=(af dS.out 0).trans rfl
                have BV:wr.cell? ⟨eZ,1,none⟩=some (.bool false):=(af dS.out 1).trans rfl
                have BW:wr.cell? ⟨eZ,2,none⟩=some (.int .i64 1):=(af dS.out 2).trans rfl
                have BX:=aa dS.out 0
                have BZ:=aa dS.out 1
                have Ca:=aa dS.out 2
                obtain ⟨Ao35,co35,b5C⟩:=Kd.eJ jm.out
                subst b5C
                have yg:wr.cell? ⟨cn,0,none⟩=some (.bool cW):=(af bz.out 0).trans rfl
                have yh:wr.cell? ⟨cn,1,none⟩=some (.int .i64 cN):=(af bz.out 1).trans rfl
                have yj:wr.cell? ⟨cn,2,none⟩=some (.int .i64 cC):=(af bz.out 2).trans rfl
                have Cb:wr.cell? ⟨cn,3,none⟩=some (.slice none 0 0):=(af bz.out 3).trans rfl
                have Cc:wr.cell? ⟨cn,4,none⟩=some (.slice none 0 0):=(af bz.out 4).trans rfl
                have yl:=aa bz.out 0
                have ym:=aa bz.out 1
                have yo:=aa bz.out 2
                have Ce:=aa bz.out 3
                have Cf:=aa bz.out 4
                go_wp2
                refine bodyPost_ret (results_cell_row rfl _ _ cn 29 #[.bool false,.int .i64 0,.int .i64 0,.slice none 0 0,.slice none 0 0] (0,0) _ rfl (by (with_reducible repeat (first|refine aq ?_ _|refine aj ?_|refine ak ?_ _));refine aK (cs:= #[.bool false,.int .i64 0,.int .i64 0,.slice none 0 0,.slice none 0 0]) ?_ 4 _ rfl;(with_reducible repeat (first|refine aq ?_ _|refine aj ?_|refine ak ?_ _));refine aK (cs:= #[.bool false,.int .i64 0,.int .i64 0,.slice none 0 0,.slice none 0 0]) ?_ 3 _ rfl;(with_reducible repeat (first|refine aq ?_ _|refine aj ?_|refine ak ?_ _));refine aK (cs:= #[.bool false,.int .i64 0,.int .i64 cC,.slice none 0 0,.slice none 0 0]) ?_ 2 _ rfl;(with_reducible repeat (first|refine aq ?_ _|refine aj ?_|refine ak ?_ _));refine aK (cs:= #[.bool false,.int .i64 cN,.int .i64 cC,.slice none 0 0,.slice none 0 0]) ?_ 1 _ rfl;(with_reducible repeat (first|refine aq ?_ _|refine aj ?_|refine ak ?_ _));refine aK (cs:= #[.bool cW,.int .i64 cN,.int .i64 cC,.slice none 0 0,.slice none 0 0]) ?_ 0 _ rfl;(with_reducible repeat (first|refine aq ?_ _|refine aj ?_|refine ak ?_ _));exact bz.out) Try.underlying29 rfl (by kernel_rfl)) rfl ?_
                exact ⟨_,_,by first|rfl|(simp [aQ,aR]<;>rfl)|(simp [*,aQ,aR]<;>rfl),by first|exact Kd.rB _ _ _ _ _|exact Kd.BI _ _ _ _ _|exact Kd.BJ _ _ _ _ _|exact Kd.BH _ _ _ _ _|exact Kd.yZ _ _ _ _ _,by first|exact Kd.rB _ _ _ _ _|exact Kd.BI _ _ _ _ _|exact Kd.BJ _ _ _ _ _|exact Kd.BH _ _ _ _ _|exact Kd.yZ _ _ _ _ _,ax⟩
               ·rw [if_neg Bp] at H
                have LL:((dP.length:Int)==0)=false:=beq_eq_false_iff_ne.mpr Bp
                have LM:((dP.length:Int) !=0)=true:=bne_iff_ne.mpr Bp
                have Tz:¬(dP=[]):=fun h_=>Bp (by rw [h_];rfl)
                by_cases Ox:qi.length<3518437208883
                ·rw [if_pos Ox] at H
                 have b1I:=Aside0.mk Ox
                 clear Ox
                 obtain ⟨a8Z,Gt⟩:∃y_:List (cq),y_=(qi++[(⟨dP,false,1⟩:cq)]):=⟨_,rfl⟩
                 replace H:(ay.l1 k4 l0 l1 a8Z l0 (l0.length:Int) (wrap64 (gp+1)))=some (r1,r2,r3,r4,r5):=by first|(rw [Gt];with_reducible exact H)|(have dZ:=(Option.bind_some _ _).symm.trans H;rw [Gt];with_reducible exact dZ)|(have dZ:=(Option.bind_some _ _).symm.trans H;with_reducible exact dZ)|with_reducible exact H|(rw [Gt];exact H)|exact H
                 have b1J:=Aside0.mk Gt
                 clear Gt
                 have H':=Aside0.mk H
                 clear H
                 have b1c:=wZ.out
                 have b1d:=nC.out
                 have Ci:wr.cell? ⟨eZ,0,none⟩=some (u216000):=(af dS.out 0).trans rfl
                 have Cj:wr.cell? ⟨eZ,1,none⟩=some (.bool false):=(af dS.out 1).trans rfl
                 have Jy:wr.cell? ⟨eZ,2,none⟩=some (.int .i64 1):=(af dS.out 2).trans rfl
                 have Ck:=aa dS.out 0
                 have Cl:=aa dS.out 1
                 have Jz:=aa dS.out 2
                 obtain ⟨TA,TB,b5D⟩:=Kd.eJ jm.out
                 subst b5D
                 go_wp2_with (first|((with_reducible refine gu (b:= .append) (xs:= #[.tmp 75,.tmp 77]) rfl ?_);(try (refine gO (by rfl) ?_;dsimp only));at_builtin;refine Kd.za iZ (w0:=w) w.heap.size rfl (.tmp 75) (.tmp 77) 47 49 (.agg #[(.slice none 0 0),(.bool false),(.int .i64 0)]) 40 rfl Try.underlying47 EK rfl (by decide) (by omega) u8 qi (⟨dP,false,1⟩:cq) [.slice TA dP.length TB,.bool false,.int .i64 1] (fun k_=>k_≠eZ) (fun k_=>some k_=(.slice TA dP.length TB:Value).ownBlock) rfl rfl ?aP (fun k_ rH=>((Kd.dD (ok':=fun k_=>((fun k_=>k_≠eZ)) k_/\some k_≠(u8:Value).ownBlock) (Kd.nZ (Kd.iH (jm.out) (Kd.jK cU.out) (by decide)) dS.out (by decide)) (fun k_ hk=>⟨hk.2,hk.1.2⟩))).1 k_ rH.symm) ?aF ?aO ?aB ?aS ?aL ?_;(case aP=>exact BL _ _ _ (⟨dP,false,1⟩:cq) (Kd.dD (Kd.oc rfl (Kd.dD (ok':=fun k_=>((fun k_=>k_≠eZ)) k_/\some k_≠(u8:Value).ownBlock) (Kd.nZ (Kd.iH (jm.out) (Kd.jK cU.out) (by decide)) dS.out (by decide)) (fun k_ hk=>⟨hk.2,hk.1.2⟩))) (fun _ h_=>h_)));(case aB=>exact ax);(case aF=>exact (fun k_ hk=>Kd.Uj (g:=eZ) (o:= .cells #[.slice TA dP.length TB,.bool false,.int .i64 1] 49 (0,0)) (aI dS) k_ hk));(case aO=>exact (by (with_reducible repeat (first|apply Kd.bU|apply Kd.bV|apply Kd.cE));exact Kd.dY cU.out (fun k_ hk=>⟨hk.2,fun e_=>hk.1 e_⟩)));(case aS=>exact (av ax));(case aL=>have:=b1I.out;omega);intro v222 w41 ho hb hg hat;rw [<-b1J.out] at ho;have aA:=Aside0.mk (lu (g:=cn) (o:= .cells #[.bool cW,.int .i64 cN,.int .i64 cC,.slice none 0 0,.slice none 0 0] 29 (0,0)) (aI bz) hg (Kd.RO cU.out bz.out (by decide)));have aC:=Aside0.mk (lu (g:=eZ) (o:= .cells #[.slice TA dP.length TB,.bool false,.int .i64 1] 49 (0,0)) (aI dS) hg (Kd.Uo cU.out (fun _ hk=>hk.2)));have aD:=Aside0.mk (hb);have aJ:=Aside0.mk (ho);clear bz;clear dS;clear HB;clear cU;clear jm;have bz:=aA;have dS:=aC;have HB:=aD;have b1K:=aJ;clear aA aC aD aJ;clear ho hb hg hat))
                 go_roundg k4
                 case measure=>have:=ry.out;have:=qu.out;have:=uy.out;have:=tY.out;omega
                 case rel=>exact ⟨(a8Z),(wrap64 (gp+1)),(cW),(cN),(cC),(by first|rfl|(simp;done)|(simp [*];done)),H',⟨by have:=ry.out;have:=qu.out;have:=uy.out;have:=tY.out;omega⟩,⟨by (with_reducible repeat (first|apply Kd.bU|apply Kd.bV|apply Kd.cE));exact Kd.dY b1K.out (fun _ hk=>trivial)⟩,⟨by (with_reducible repeat (first|refine aq ?_ _|refine aj ?_|refine ak ?_ _));exact bz.out⟩,⟨ax⟩⟩
                ·rw [if_neg Ox] at H
                 exact absurd H (by simp)
           ·rw [if_neg c17] at H
            exact absurd H (by simp)
          ·rw [if_neg c16] at H
           exact absurd H (by simp)
         ·rw [if_neg c15] at H
          have Gq:decide (gp<(l0.length:Int))=false:=decide_eq_false c15
          clear c15
          obtain ⟨a9a,Gu⟩:∃y_:List (cq),y_=(([]:List (cq))):=⟨_,rfl⟩
          replace H:(ay.l3 k3 l0 l1 qi a9a l1 (l1.length:Int) 0)=some (r1,r2,r3,r4,r5):=by first|(rw [Gu];with_reducible exact H)|(have dZ:=(Option.bind_some _ _).symm.trans H;rw [Gu];with_reducible exact dZ)|(have dZ:=(Option.bind_some _ _).symm.trans H;with_reducible exact dZ)|with_reducible exact H|(rw [Gu];exact H)|exact H
          have a2W:=Aside0.mk Gu
          clear Gu
          have H':=Aside0.mk H
          clear H
          go_wp2_with (first|((with_reducible refine bp (N:=80) rfl ?_);(try (refine gO (by rfl) ?_;dsimp only));refine Kd.a1g iZ _ 49 ?hg (N:=80) ?hd (xs:=([]:List (cq))) (inner:=[]) (ok:=fun _=>True) (fK:=fun _=>True) ?hr ?hp (fun _ hk=>hk) trivial (Below.refl _ _) (Nat.le_refl _) (by simp) ?_;(case hd=>rfl);(case hg=>rfl);(case hr=>first|(go_simp;done)|(go_simp;rfl));(case hp=>exact (cT.none _ _));intro v225 w42 JA hb uZ nH;clear uZ nH;(first|rw [<-a2W.out] at JA|(simp only [Int.reduceToNat] at JA;rw [<-a2W.out] at JA));have aA:=Aside0.mk (Kd.sq (by (with_reducible repeat (first|apply Kd.bU|apply Kd.bV|apply Kd.cE));exact cU.out) (Kd.a5H JA) hb);have aC:=Aside0.mk (Kd.GU (Kd.a5I JA (Kd.RN (by (with_reducible repeat (first|apply Kd.bU|apply Kd.bV|apply Kd.cE));exact cU.out))) (av ax));have aD:=Aside0.mk (ai (g:=cn) (o:= .cells #[.bool cW,.int .i64 cN,.int .i64 cC,.slice none 0 0,.slice none 0 0] 29 (0,0)) (aI bz) hb);have aJ:=Aside0.mk (ah ax hb);clear cU;clear bz;clear HB;have cU:=aA;have b1L:=aC;have bz:=aD;have HB:=aJ;clear aA aC aD aJ;clear hb JA))
          go_loopg [8,14,83] k3 (fun kq v8 v14 v83 w'=>∃(rU:List (cq)) (lQ:List (cq)) (eP:Int),v83= .int .i64 eP/\Aside0 (ay.l3 kq l0 l1 rU lQ l1 (l1.length:Int) eP=some (r1,r2,r3,r4,r5))/\Aside0 (kq<=k3)/\Aside0 (Kd.S iZ 49 w' w.heap.size (fun k_=>some k_≠(v14:Value).ownBlock) v8 rU)/\Aside0 (Kd.S iZ 49 w' w.heap.size (fun k_=>some k_≠(v8:Value).ownBlock) v14 lQ)/\Aside0 (w'.heap[cn]? =some (.cells #[.bool cW,.int .i64 cN,.int .i64 cC,(.slice none 0 0),(.slice none 0 0)] 29 (0,0)))/\Aside0 (Below w.heap.size w w'))
          case atStart=>exact ⟨(qi),(a9a),(0),(by first|rfl|(simp;done)|(simp [*];done)),H',⟨Nat.le_refl _⟩,⟨by (with_reducible repeat (first|apply Kd.bU|apply Kd.bV|apply Kd.cE));exact Kd.dY cU.out (fun _ hk=>hk.2)⟩,⟨by (with_reducible repeat (first|apply Kd.bU|apply Kd.bV|apply Kd.cE));exact Kd.dY b1L.out (fun _ hk=>hk.2)⟩,⟨by (with_reducible repeat (first|refine aq ?_ _|refine aj ?_|refine ak ?_ _));exact bz.out⟩,⟨ax⟩⟩
          case round=>
           clear H'
           try clear c1
           try clear c2
           try clear p2
           try clear q2
           try clear hx2
           try clear c3
           try clear c6
           try clear p6
           try clear c7
           try clear rF
           try clear c8
           try clear su
           try clear c9
           try clear Dr
           try clear c10
           try clear c12
           try clear c15
           try clear Gq
           try clear c16
           try clear LI
           try clear c17
           try clear LJ
           try clear c19
           try clear c20
           try clear QW
           try clear QX
           try clear a0F
           try clear Gr
           try clear LK
           try clear p21
           try clear q21
           try clear a9b
           try clear Om
           try clear Tx
           try clear Oo
           try clear Ty
           try clear Oq
           try clear KF
           try clear c27
           try clear Bp
           try clear LL
           try clear LM
           try clear Tz
           try clear c33
           try clear Ox
           try clear c38
           try clear yD
           try clear yE
           try clear Cw
           try clear uR
           try clear uS
           try clear Jw
           try clear xZ
           try clear ya
           try clear yb
           try clear BU
           try clear BV
           try clear BW
           try clear yg
           try clear yh
           try clear yj
           try clear Cb
           try clear Cc
           try clear Ci
           try clear Cj
           try clear Jy
           try clear yF
           try clear yG
           try clear Cx
           try clear uT
           try clear uU
           try clear Jx
           try clear yc
           try clear ye
           try clear yf
           try clear BX
           try clear BZ
           try clear Ca
           try clear yl
           try clear ym
           try clear yo
           try clear Ce
           try clear Cf
           try clear Ck
           try clear Cl
           try clear Jz
           try clear lY
           try clear sP
           try clear ou
           try clear p2
           try clear QW
           try clear ug
           try clear El
           try clear xD
           try clear p6
           try clear q2
           try clear QX
           try clear uh
           try clear Em
           try clear xE
           obtain ⟨rU,lQ,eP,rfl,HA,tY,cU,dr,bz,HB⟩:=hrel
           cases gk with
           |zero=>exact absurd HA.out (by simp [ay.l3])
           |succ k4=>
            have H:=HA.out
            clear HA
            simp only [ay.l3] at H
            by_cases yI:eP<(l1.length:Int)
            ·rw [if_pos yI] at H
             have LH:decide (eP<(l1.length:Int))=true:=decide_eq_true yI
             clear yI
             by_cases Bg:0<=eP
             ·rw [if_pos Bg] at H
              have Tm:decide (0<=eP)=true:=decide_eq_true Bg
              clear Bg
              by_cases Bh:eP<(l1.length:Int)
              ·rw [if_pos Bh] at H
               have Tn:decide (eP<(l1.length:Int))=true:=decide_eq_true Bh
               clear Bh
               obtain ⟨En,Gv⟩:∃y_:List Int,y_=(([eP]:List Int)):=⟨_,rfl⟩
               replace H:(if rU.length<3518437208883 then (ay.l4 k4 l0 l1 (rU++[(⟨En,false,0⟩:cq)]) lQ (dH l1 eP) l1 (l1.length:Int) eP l0 (l0.length:Int) 0 ([]:List Int) true 1) else (none))=some (r1,r2,r3,r4,r5):=by first|(rw [Gv];with_reducible exact H)|(have dZ:=(Option.bind_some _ _).symm.trans H;rw [Gv];with_reducible exact dZ)|(have dZ:=(Option.bind_some _ _).symm.trans H;with_reducible exact dZ)|with_reducible exact H|(rw [Gv];exact H)|exact H
               have a2Z:=Aside0.mk Gv
               clear Gv
               by_cases QY:rU.length<3518437208883
               ·rw [if_pos QY] at H
                have b1M:=Aside0.mk QY
                clear QY
                obtain ⟨uj,Gw⟩:∃y_:List (cq),y_=(rU++[(⟨En,false,0⟩:cq)]):=⟨_,rfl⟩
                replace H:(ay.l4 k4 l0 l1 uj lQ (dH l1 eP) l1 (l1.length:Int) eP l0 (l0.length:Int) 0 ([]:List Int) true 1)=some (r1,r2,r3,r4,r5):=by first|(rw [Gw];with_reducible exact H)|(have dZ:=(Option.bind_some _ _).symm.trans H;rw [Gw];with_reducible exact dZ)|(have dZ:=(Option.bind_some _ _).symm.trans H;with_reducible exact dZ)|with_reducible exact H|(rw [Gw];exact H)|exact H
                have b1N:=Aside0.mk Gw
                clear Gw
                have H':=Aside0.mk H
                clear H
                have Oy:0<=(eP:Int):=of_decide_eq_true (by first|(with_reducible assumption)|assumption)
                have Oz:eP<(l1.length:Int):=of_decide_eq_true (by first|(with_reducible assumption)|assumption)
                obtain ⟨ad227,XB,XC,b5E,yR,QZ,Ra⟩:=qz iJ.out eP Oy Oz
                cases b5E
                replace yR:=(HB.out.cell (World.block_lt_of_cell? w _ yR)).trans yR
                have Rb:=Aside0.mk Ra
                have Rc:=Aside0.mk QZ
                clear Ra QZ
                replace Oy:=eq_true Oy
                replace Oz:=eq_true Oz
                go_wp2_with (first|((with_reducible refine bp (N:=90) rfl ?_);(try (refine gO (by rfl) ?_;dsimp only));refine Kd.BG (Kd.int .i64) _ 3 ?hg (N:=90) ?hd (xs:=([eP]:List Int)) (inner:=[.int .i64 eP]) (ok:=fun _=>True) (fK:=fun _=>True) ?hr ?hp (fun _ hk=>hk) trivial (Below.refl _ _) (Nat.le_refl _) (by simp) ?_;(case hd=>rfl);(case hg=>rfl);(case hr=>first|(go_simp;done)|(go_simp;rfl));(case hp=>exact (cT.one (show Kd.M (Kd.int .i64) _ _ _ eP [.int .i64 eP] from rfl) (cT.none _ _)));intro v229 w48 Eo hb uZ nH;clear uZ nH;(first|rw [<-a2Z.out] at Eo|(simp only [Int.reduceToNat] at Eo;rw [<-a2Z.out] at Eo));have aA:=Aside0.mk (Kd.sq (by (with_reducible repeat (first|apply Kd.bU|apply Kd.bV|apply Kd.cE));exact cU.out) (Kd.tD Eo) hb);have aC:=Aside0.mk (Kd.sq (by (with_reducible repeat (first|apply Kd.bU|apply Kd.bV|apply Kd.cE));exact dr.out) (Kd.tD Eo) hb);have aD:=Aside0.mk (Kd.kL Eo (av ax));have aJ:=Aside0.mk (ai (g:=cn) (o:= .cells #[.bool cW,.int .i64 cN,.int .i64 cC,.slice none 0 0,.slice none 0 0] 29 (0,0)) (aI bz) hb);have bJ:=Aside0.mk (ah ax hb);clear cU;clear dr;clear bz;clear HB;have cU:=aA;have dr:=aC;have LN:=aD;have bz:=aJ;have HB:=bJ;clear aA aC aD aJ bJ;clear hb Eo;obtain ⟨a0I,a0J,b5F⟩:=Kd.eJ LN.out;subst b5F)|((with_reducible refine gu (b:= .append) (xs:= #[.tmp 88,.tmp 92]) rfl ?_);(try (refine gO (by rfl) ?_;dsimp only));at_builtin;refine Kd.za iZ (w0:=w) w.heap.size rfl (.tmp 88) (.tmp 92) 47 49 (.agg #[(.slice none 0 0),(.bool false),(.int .i64 0)]) 40 rfl Try.underlying47 EK rfl (by decide) (by omega) u8 rU (⟨En,false,0⟩:cq) [.slice a0I En.length a0J,.bool false,.int .i64 0] (fun k_=>some k_≠(u14:Value).ownBlock) (fun k_=>some k_=(.slice a0I En.length a0J:Value).ownBlock) rfl rfl ?aP (fun k_ rH=>((Kd.dD (ok':=fun k_=>((fun k_=>some k_≠(u14:Value).ownBlock)) k_/\some k_≠(u8:Value).ownBlock) (Kd.iH (Kd.iH (LN.out) (Kd.jK dr.out) (by decide)) (Kd.jK cU.out) (by decide)) (fun k_ hk=>⟨hk.1.2,hk.2⟩))).1 k_ rH.symm) ?aF ?aO ?aB ?aS ?aL ?_;(case aP=>exact BL _ _ _ (⟨En,false,0⟩:cq) (Kd.dD (Kd.oc rfl (Kd.dD (ok':=fun k_=>((fun k_=>some k_≠(u14:Value).ownBlock)) k_/\some k_≠(u8:Value).ownBlock) (Kd.iH (Kd.iH (LN.out) (Kd.jK dr.out) (by decide)) (Kd.jK cU.out) (by decide)) (fun k_ hk=>⟨hk.1.2,hk.2⟩))) (fun _ h_=>h_)));(case aB=>exact ax);(case aF=>exact (fun k_ hk=>Kd.fresh' (Kd.RN (by (with_reducible repeat (first|apply Kd.bU|apply Kd.bV|apply Kd.cE));exact dr.out)) k_ hk));(case aO=>exact (by (with_reducible repeat (first|apply Kd.bU|apply Kd.bV|apply Kd.cE));exact Kd.dY cU.out (fun k_ hk=>⟨hk.1,fun e_=>hk.2 e_⟩)));(case aS=>exact (av ax));(case aL=>have:=b1M.out;omega);intro v232 w51 ho hb hg hat;rw [<-b1N.out] at ho;have aA:=Aside0.mk (Kd.uM (ok:=(fun k_=>some k_≠(.slice a0I En.length a0J:Value).ownBlock)) (by (with_reducible repeat (first|apply Kd.bU|apply Kd.bV|apply Kd.cE));exact Kd.dY dr.out (fun _ hk=>⟨hk.2,hk.1⟩)) hg hat);have aC:=Aside0.mk (lu (g:=cn) (o:= .cells #[.bool cW,.int .i64 cN,.int .i64 cC,.slice none 0 0,.slice none 0 0] 29 (0,0)) (aI bz) hg (Kd.RO cU.out bz.out (by decide)));have aD:=Aside0.mk (hb);have aJ:=Aside0.mk (ho);clear dr;clear bz;clear HB;clear cU;clear LN;have dr:=aA;have bz:=aC;have HB:=aD;have LO:=aJ;clear aA aC aD aJ;clear ho hb hg hat)|((with_reducible refine bp (N:=17) rfl ?_);(try (refine gO (by rfl) ?_;dsimp only));refine bw ?hg (N:=17) ?hd (cs:= #[.slice none 0 0,.bool false,.int .i64 0]) (t:=49) ?hr ?_;(case hd=>rfl);(case hg=>rfl);(case hr=>first|(go_simp;done)|(go_simp;rfl));intro dR hg w52 aU hb;have aA:=Aside0.mk (Kd.jJ (Kd.Dl (by (with_reducible repeat (first|apply Kd.bU|apply Kd.bV|apply Kd.cE));exact dr.out) dR (Nat.le_of_eq hg.symm)) hb);have aC:=Aside0.mk (Kd.jJ (Kd.Dl (by (with_reducible repeat (first|apply Kd.bU|apply Kd.bV|apply Kd.cE));exact LO.out) dR (Nat.le_of_eq hg.symm)) hb);have aD:=Aside0.mk (ai (g:=cn) (o:= .cells #[.bool cW,.int .i64 cN,.int .i64 cC,.slice none 0 0,.slice none 0 0] 29 (0,0)) (aI bz) hb);have aJ:=Aside0.mk (ah ax hb);have bJ:=Aside0.mk (aU);have bS:=Aside0.mk ((by rw [hg];exact (av ax):w.heap.size<=dR));have cw:=Aside0.mk ((by rw [hg];exact (av ax):w.heap.size<=dR));have iL:=Aside0.mk ((by rw [hg];exact Nat.ne_of_lt (aZ (g:=cn) (o:= .cells #[.bool cW,.int .i64 cN,.int .i64 cC,.slice none 0 0,.slice none 0 0] 29 (0,0)) (aI bz)):cn≠dR));have je:=Aside0.mk ((by rw [hg];exact Nat.ne_of_gt (aZ (g:=cn) (o:= .cells #[.bool cW,.int .i64 cN,.int .i64 cC,.slice none 0 0,.slice none 0 0] 29 (0,0)) (aI bz)):dR≠cn));clear dr;clear LO;clear bz;clear HB;have dr:=aA;have LO:=aC;have bz:=aD;have HB:=aJ;have dU:=bJ;have GW234:=bS;have GE234:=cw;have nD:=iL;have xd:=je;clear aA aC aD aJ bJ bS cw iL je;clear hb aU hg;have hnb53:=xd.out;have hnc53:=nD.out;have Re:w52.cell? ⟨dR,0,none⟩=some (.slice none 0 0):=(af dU.out 0).trans rfl;have Rf:w52.cell? ⟨dR,1,none⟩=some (.bool false):=(af dU.out 1).trans rfl;have Rg:w52.cell? ⟨dR,2,none⟩=some (.int .i64 0):=(af dU.out 2).trans rfl;have Rh:=aa dU.out 0;have Ri:=aa dU.out 1;have Rj:=aa dU.out 2))
                go_loopg [97] k4 (fun kq v97 w'=>∃(fY:Int) (dQ:List Int) (u235000:Value),v97= .int .i64 fY/\Aside0 (ay.l4 kq l0 l1 uj lQ (dH l1 eP) l1 (l1.length:Int) eP l0 (l0.length:Int) fY dQ true 1=some (r1,r2,r3,r4,r5))/\Aside0 (kq<=k4)/\Aside0 (Kd.S iZ 49 w' w.heap.size (fun k_=>some k_≠(u14:Value).ownBlock/\some k_≠(u235000:Value).ownBlock/\k_≠dR) v232 uj)/\Aside0 (Kd.S iZ 49 w' w.heap.size (fun k_=>some k_≠(v232:Value).ownBlock/\some k_≠(u235000:Value).ownBlock/\k_≠dR) u14 lQ)/\Aside0 (Kd.R (Kd.int .i64) 3 w' w.heap.size (fun _=>True) u235000 dQ)/\Aside0 (w'.heap[cn]? =some (.cells #[.bool cW,.int .i64 cN,.int .i64 cC,(.slice none 0 0),(.slice none 0 0)] 29 (0,0)))/\Aside0 (w'.heap[dR]? =some (.cells #[u235000,.bool true,.int .i64 1] 49 (0,0)))/\Aside0 (Below w.heap.size w w'))
                case atStart=>exact ⟨(0),(([]:List Int)),(.slice none 0 0),(by first|rfl|(simp;done)|(simp [*];done)),H',⟨Nat.le_refl _⟩,⟨by (with_reducible repeat (first|apply Kd.bU|apply Kd.bV|apply Kd.cE));exact Kd.dY (Kd.qx (p:=⟨dR,2,none⟩) (Kd.qx (p:=⟨dR,1,none⟩) (Kd.qx (p:=⟨dR,0,none⟩) (Kd.dY LO.out (fun k_ hk=>(⟨hk,hk.2⟩:_/\k_≠dR))) (fun _ hk=>hk.2) (.slice none 0 0)) (fun _ hk=>hk.2) (.bool true)) (fun _ hk=>hk.2) (.int .i64 1)) (fun _ hk=>⟨hk.1.1,⟨(by simp [Value.ownBlock]),hk.1.2⟩⟩)⟩,⟨by (with_reducible repeat (first|apply Kd.bU|apply Kd.bV|apply Kd.cE));exact Kd.dY (Kd.qx (p:=⟨dR,2,none⟩) (Kd.qx (p:=⟨dR,1,none⟩) (Kd.qx (p:=⟨dR,0,none⟩) (Kd.dY dr.out (fun k_ hk=>(⟨hk,hk.2⟩:_/\k_≠dR))) (fun _ hk=>hk.2) (.slice none 0 0)) (fun _ hk=>hk.2) (.bool true)) (fun _ hk=>hk.2) (.int .i64 1)) (fun _ hk=>⟨hk.1.1.2,⟨(by simp [Value.ownBlock]),hk.1.2⟩⟩)⟩,⟨by first|exact Kd.rB _ _ _ _ _|exact Kd.BI _ _ _ _ _|exact Kd.BJ _ _ _ _ _|exact Kd.BH _ _ _ _ _|exact Kd.yZ _ _ _ _ _⟩,⟨by (with_reducible repeat (first|refine aq ?_ _|refine aj ?_|refine ak ?_ _));refine dm ?_ nD.out _;(with_reducible repeat (first|refine aq ?_ _|refine aj ?_|refine ak ?_ _));refine dm ?_ nD.out _;(with_reducible repeat (first|refine aq ?_ _|refine aj ?_|refine ak ?_ _));refine dm ?_ nD.out _;(with_reducible repeat (first|refine aq ?_ _|refine aj ?_|refine ak ?_ _));exact bz.out⟩,⟨by (with_reducible repeat (first|refine aq ?_ _|refine aj ?_|refine ak ?_ _));refine aK (cs:= #[.slice none 0 0,.bool true,.int .i64 0]) ?_ 2 _ rfl;(with_reducible repeat (first|refine aq ?_ _|refine aj ?_|refine ak ?_ _));refine aK (cs:= #[.slice none 0 0,.bool false,.int .i64 0]) ?_ 1 _ rfl;(with_reducible repeat (first|refine aq ?_ _|refine aj ?_|refine ak ?_ _));refine aK (cs:= #[.slice none 0 0,.bool false,.int .i64 0]) ?_ 0 _ rfl;(with_reducible repeat (first|refine aq ?_ _|refine aj ?_|refine ak ?_ _));exact dU.out⟩,⟨ax⟩⟩
                case round=>
                 clear H'
                 try clear c1
                 try clear c2
                 try clear p2
                 try clear q2
                 try clear hx2
                 try clear c3
                 try clear c4
                 try clear c5
                 try clear c6
                 try clear p6
                 try clear c7
                 try clear rF
                 try clear c8
                 try clear su
                 try clear c9
                 try clear Dr
                 try clear c10
                 try clear c12
                 try clear c15
                 try clear Gq
                 try clear c16
                 try clear LI
                 try clear c17
                 try clear LJ
                 try clear c19
                 try clear c20
                 try clear QW
                 try clear QX
                 try clear a0F
                 try clear Gr
                 try clear LK
                 try clear p21
                 try clear q21
                 try clear a9b
                 try clear Om
                 try clear Tx
                 try clear p22
                 try clear q22
                 try clear b5G
                 try clear Oo
                 try clear Ty
                 try clear Oq
                 try clear KF
                 try clear c27
                 try clear Bp
                 try clear LL
                 try clear LM
                 try clear Tz
                 try clear c33
                 try clear Ox
                 try clear c38
                 try clear yI
                 try clear LH
                 try clear Bg
                 try clear Tm
                 try clear Bh
                 try clear Tn
                 try clear QY
                 try clear c53
                 try clear yD
                 try clear yE
                 try clear Cw
                 try clear uR
                 try clear uS
                 try clear Jw
                 try clear xZ
                 try clear ya
                 try clear yb
                 try clear BU
                 try clear BV
                 try clear BW
                 try clear yg
                 try clear yh
                 try clear yj
                 try clear Cb
                 try clear Cc
                 try clear Ci
                 try clear Cj
                 try clear Jy
                 try clear Re
                 try clear Rf
                 try clear Rg
                 try clear yF
                 try clear yG
                 try clear Cx
                 try clear uT
                 try clear uU
                 try clear Jx
                 try clear yc
                 try clear ye
                 try clear yf
                 try clear BX
                 try clear BZ
                 try clear Ca
                 try clear yl
                 try clear ym
                 try clear yo
                 try clear Ce
                 try clear Cf
                 try clear Ck
                 try clear Cl
                 try clear Jz
                 try clear Rh
                 try clear Ri
                 try clear Rj
                 try clear lY
                 try clear sP
                 try clear ou
                 try clear yR
                 try clear p2
                 try clear QW
                 try clear ug
                 try clear p21
                 try clear El
                 try clear xD
                 try clear Oy
                 try clear p6
                 try clear q2
                 try clear QX
                 try clear uh
                 try clear q21
                 try clear Em
                 try clear xE
                 try clear Oz
                 obtain ⟨fY,dQ,u235000,rfl,HA,Bq,cU,dr,jn,bz,dU,HB⟩:=hrel
                 cases gk with
                 |zero=>exact absurd HA.out (by simp [ay.l4])
                 |succ k5=>
                  have H:=HA.out
                  clear HA
                  simp only [ay.l4] at H
                  by_cases OA:fY<(l0.length:Int)
                  ·rw [if_pos OA] at H
                   have a3a:decide (fY<(l0.length:Int))=true:=decide_eq_true OA
                   clear OA
                   by_cases XD:0<=fY
                   ·rw [if_pos XD] at H
                    have b1O:decide (0<=fY)=true:=decide_eq_true XD
                    clear XD
                    by_cases XE:fY<(l0.length:Int)
                    ·rw [if_pos XE] at H
                     have b1P:decide (fY<(l0.length:Int))=true:=decide_eq_true XE
                     clear XE
                     replace H:=Option.bind_eq_some_iff.mp H
                     obtain ⟨t236,a9d,H⟩:=H
                     replace H:(if t236=true then (if dQ.length<17592186044416 then (ay.l4 k5 l0 l1 uj lQ (dH l1 eP) l1 (l1.length:Int) eP l0 (l0.length:Int) (wrap64 (fY+1)) (dQ++[fY]) true 1) else (none)) else (ay.l4 k5 l0 l1 uj lQ (dH l1 eP) l1 (l1.length:Int) eP l0 (l0.length:Int) (wrap64 (fY+1)) dQ true 1))=some (r1,r2,r3,r4,r5):=H
                     have A58:=Aside0.mk a9d
                     clear a9d
                     by_cases XF:t236=true
                     ·subst XF
                      have H1:(if dQ.length<17592186044416 then (ay.l4 k5 l0 l1 uj lQ (dH l1 eP) l1 (l1.length:Int) eP l0 (l0.length:Int) (wrap64 (fY+1)) (dQ++[fY]) true 1) else (none))=some (r1,r2,r3,r4,r5):=by rw [if_pos rfl] at H;exact H
                      clear H
                      have H:=H1
                      clear H1
                      by_cases XG:dQ.length<17592186044416
                      ·rw [if_pos XG] at H
                       have b1Q:=Aside0.mk XG
                       clear XG
                       obtain ⟨JB,Gx⟩:∃y_:List Int,y_=(dQ++[fY]):=⟨_,rfl⟩
                       replace H:(ay.l4 k5 l0 l1 uj lQ (dH l1 eP) l1 (l1.length:Int) eP l0 (l0.length:Int) (wrap64 (fY+1)) JB true 1)=some (r1,r2,r3,r4,r5):=by first|(rw [Gx];with_reducible exact H)|(have dZ:=(Option.bind_some _ _).symm.trans H;rw [Gx];with_reducible exact dZ)|(have dZ:=(Option.bind_some _ _).symm.trans H;with_reducible exact dZ)|with_reducible exact H|(rw [Gx];exact H)|exact H
                       have b1R:=Aside0.mk Gx
                       clear Gx
                       have H':=Aside0.mk H
                       clear H
                       have Br:0<=(fY:Int):=of_decide_eq_true (by first|(with_reducible assumption)|assumption)
                       have Bt:fY<(l0.length:Int):=of_decide_eq_true (by first|(with_reducible assumption)|assumption)
                       obtain ⟨b1S,a0K,rz⟩:=Kd.gq eE.out fY Br Bt
                       cases a0K
                       replace rz:=(HB.out.cell (World.block_lt_of_cell? w _ rz)).trans rz
                       replace Br:=eq_true Br
                       replace Bt:=eq_true Bt
                       go_wp2_with (first|((with_reducible refine aY (f:=23) rfl ?_);refine bP (some 104) rfl rfl Try.func23 (by kernel_rfl) rfl #[.slice XB (dH l1 eP).length XC,.int .i64 (rd l0 fY)] rfl (by (try simp only [List.map_toArray,List.map_cons,List.map_nil]);first|done|rfl|(simp only [List.length_drop,List.length_take];rfl)) ?_;(with_reducible refine (ct.calls k5 _ _ (dH l1 eP) (rd l0 fY) true _ ?cy ?cA A58.out).mono ?_);(case cy=>repeat (first|exact (Kd.bX Rb.out HB.out)|(with_reducible refine Kd.cX ?_ _)|(with_reducible refine Kd.cY ?_ _)|(with_reducible refine Kd.dB ?_)));(case cA=>exact Rc.out);rintro e w' ⟨rfl,⟨nd,rfl⟩⟩;refine ⟨_,rfl,?_⟩;(try (rw [mg wr];generalize jR:World.drewN wr _=wr;have aA:Aside0 (Kd.S iZ 49 wr w.heap.size (fun k_=>some k_≠(u235000:Value).ownBlock/\some k_≠(v232:Value).ownBlock/\k_≠dR) u14 lQ):=⟨by rw [<-jR];exact (by (with_reducible repeat (first|apply Kd.bU|apply Kd.bV|apply Kd.cE));exact Kd.dY dr.out (fun _ hk=>⟨hk.2.1,⟨hk.1,hk.2.2⟩⟩))⟩;have aC:Aside0 (Kd.R (Kd.int .i64) 3 wr w.heap.size (fun _=>True) u235000 dQ):=⟨by rw [<-jR];exact (by (with_reducible repeat (first|apply Kd.dz|apply Kd.dG|apply Kd.ez));exact jn.out)⟩;have aD:Aside0 (Kd.S iZ 49 wr w.heap.size (fun k_=>some k_≠(u14:Value).ownBlock/\some k_≠(u235000:Value).ownBlock/\k_≠dR) v232 uj):=⟨by rw [<-jR];exact (by (with_reducible repeat (first|apply Kd.bU|apply Kd.bV|apply Kd.cE));exact cU.out)⟩;have aJ:Aside0 (wr.heap[cn]? =some (.cells #[.bool cW,.int .i64 cN,.int .i64 cC,.slice none 0 0,.slice none 0 0] 29 (0,0))):=⟨by rw [<-jR];exact (aI bz)⟩;have bJ:Aside0 (wr.heap[dR]? =some (.cells #[u235000,.bool true,.int .i64 1] 49 (0,0))):=⟨by rw [<-jR];exact (aI dU)⟩;have bS:Aside0 (Below w.heap.size w wr):=⟨by rw [<-jR];exact ax⟩;clear dr jn cU bz dU HB jR;have dr:=aA;have jn:=aC;have cU:=aD;have bz:=aJ;have dU:=bJ;have HB:=bS;clear aA aC aD aJ bJ bS));have hnb61:=xd.out;have hnc61:=nD.out;have a4W:wr.cell? ⟨dR,0,none⟩=some (u235000):=(af dU.out 0).trans rfl;have a4X:wr.cell? ⟨dR,1,none⟩=some (.bool true):=(af dU.out 1).trans rfl;have a4Y:wr.cell? ⟨dR,2,none⟩=some (.int .i64 1):=(af dU.out 2).trans rfl;have a4Z:=aa dU.out 0;have a5a:=aa dU.out 1;have a5b:=aa dU.out 2)|((with_reducible refine gu (b:= .append) (xs:= #[.tmp 106,.tmp 108]) rfl ?_);(try (refine gO (by rfl) ?_;dsimp only));at_builtin;refine Kd.nE (Kd.int .i64) (w0:=w) w.heap.size rfl (.tmp 106) (.tmp 108) 22 3 (.int .i64 0) 8 rfl Try.underlying22 info3 rfl (by decide) (by omega) u235000 dQ fY [.int .i64 fY] (fun _=>True) (fun _=>False) rfl rfl ?aP (fun _ hk=>hk.elim) ?aF ?aO ?aB ?aS ?aL ?_;(case aP=>exact rfl);(case aB=>exact ax);(case aF=>exact (fun _ _=>trivial));(case aO=>exact (by (with_reducible repeat (first|apply Kd.dz|apply Kd.dG|apply Kd.ez));exact jn.out));(case aS=>exact (av ax));(case aL=>have:=b1Q.out;omega);intro v238 w63 ho hb hg hat;rw [<-b1R.out] at ho;have aA:=Aside0.mk (Kd.uM (ok:=(fun k_=>some k_≠(u14:Value).ownBlock/\k_≠dR)) (by (with_reducible repeat (first|apply Kd.bU|apply Kd.bV|apply Kd.cE));first|exact Kd.dY cU.out (fun _ hk=>⟨⟨hk.1,hk.2.2⟩,hk.2.1⟩)|exact Kd.dY cU.out (fun _ hk=>⟨⟨hk.2.1,hk.2.2⟩,hk.1⟩)) hg hat);have aC:=Aside0.mk (Kd.uM (ok:=(fun k_=>some k_≠(v232:Value).ownBlock/\k_≠dR)) (by (with_reducible repeat (first|apply Kd.bU|apply Kd.bV|apply Kd.cE));first|exact Kd.dY dr.out (fun _ hk=>⟨⟨hk.1,hk.2.2⟩,hk.2.1⟩)|exact Kd.dY dr.out (fun _ hk=>⟨⟨hk.2.1,hk.2.2⟩,hk.1⟩)) hg hat);have aD:=Aside0.mk (lu (g:=cn) (o:= .cells #[.bool cW,.int .i64 cN,.int .i64 cC,.slice none 0 0,.slice none 0 0] 29 (0,0)) (aI bz) hg (Kd.Di jn.out bz.out (by decide)));have aJ:=Aside0.mk (lu (g:=dR) (o:= .cells #[u235000,.bool true,.int .i64 1] 49 (0,0)) (aI dU) hg (Kd.Di jn.out dU.out (by decide)));have bJ:=Aside0.mk (hb);have bS:=Aside0.mk (ho);clear cU;clear dr;clear bz;clear dU;clear HB;clear jn;have cU:=aA;have dr:=aC;have bz:=aD;have dU:=aJ;have HB:=bJ;have a3b:=bS;clear aA aC aD aJ bJ bS;clear ho hb hg hat;obtain ⟨TC,TD,b5H⟩:=Kd.eJ a3b.out;subst b5H;have a5c:w63.cell? ⟨dR,0,none⟩=some (u235000):=(af dU.out 0).trans rfl;have a5d:w63.cell? ⟨dR,1,none⟩=some (.bool true):=(af dU.out 1).trans rfl;have a5e:w63.cell? ⟨dR,2,none⟩=some (.int .i64 1):=(af dU.out 2).trans rfl;have a5f:=aa dU.out 0;have a5g:=aa dU.out 1;have a5h:=aa dU.out 2))
                       go_roundg k5
                       case measure=>have:=ry.out;have:=qu.out;have:=uy.out;have:=tY.out;have:=Bq.out;omega
                       case rel=>exact ⟨(wrap64 (fY+1)),(JB),(.slice TC JB.length TD),(by first|rfl|(simp;done)|(simp [*];done)),H',⟨by have:=ry.out;have:=qu.out;have:=uy.out;have:=tY.out;have:=Bq.out;omega⟩,⟨by (with_reducible repeat (first|apply Kd.bU|apply Kd.bV|apply Kd.cE));exact Kd.dY (Kd.qx (p:=⟨dR,0,none⟩) (Kd.dY cU.out (fun k_ hk=>(⟨hk,hk.1.2⟩:_/\k_≠dR))) (fun _ hk=>hk.2) (.slice TC JB.length TD)) (fun _ hk=>⟨hk.1.1.1,⟨hk.1.2,hk.1.1.2⟩⟩)⟩,⟨by (with_reducible repeat (first|apply Kd.bU|apply Kd.bV|apply Kd.cE));exact Kd.dY (Kd.qx (p:=⟨dR,0,none⟩) (Kd.dY dr.out (fun k_ hk=>(⟨hk,hk.1.2⟩:_/\k_≠dR))) (fun _ hk=>hk.2) (.slice TC JB.length TD)) (fun _ hk=>⟨hk.1.1.1,⟨hk.1.2,hk.1.1.2⟩⟩)⟩,⟨by (with_reducible repeat (first|apply Kd.dz|apply Kd.dG|apply Kd.ez));exact Kd.dD (Kd.jU (p:=⟨dR,0,none⟩) (Kd.nZ a3b.out dU.out (by decide)) (fun _ hk=>hk.2) (.slice TC JB.length TD)) (fun _ hk=>trivial)⟩,⟨by (with_reducible repeat (first|refine aq ?_ _|refine aj ?_|refine ak ?_ _));refine dm ?_ nD.out _;(with_reducible repeat (first|refine aq ?_ _|refine aj ?_|refine ak ?_ _));exact bz.out⟩,⟨by (with_reducible repeat (first|refine aq ?_ _|refine aj ?_|refine ak ?_ _));refine aK (cs:= #[u235000,.bool true,.int .i64 1]) ?_ 0 _ rfl;(with_reducible repeat (first|refine aq ?_ _|refine aj ?_|refine ak ?_ _));exact dU.out⟩,⟨ax⟩⟩
                      ·rw [if_neg XG] at H
                       exact absurd H (by simp)
                     ·replace XF:=Bool.eq_false_iff.mpr XF
                      subst XF
                      have H1:(ay.l4 k5 l0 l1 uj lQ (dH l1 eP) l1 (l1.length:Int) eP l0 (l0.length:Int) (wrap64 (fY+1)) dQ true 1)=some (r1,r2,r3,r4,r5):=by rw [if_neg (show ¬(false=true) by decide)] at H;exact H
                      clear H
                      have H:=H1
                      clear H1
                      have H':=Aside0.mk H
                      clear H
                      have Br:0<=(fY:Int):=of_decide_eq_true (by first|(with_reducible assumption)|assumption)
                      have Bt:fY<(l0.length:Int):=of_decide_eq_true (by first|(with_reducible assumption)|assumption)
                      obtain ⟨b1S,a0K,rz⟩:=Kd.gq eE.out fY Br Bt
                      cases a0K
                      replace rz:=(HB.out.cell (World.block_lt_of_cell? w _ rz)).trans rz
                      replace Br:=eq_true Br
                      replace Bt:=eq_true Bt
                      go_wp2_with (first|((with_reducible refine aY (f:=23) rfl ?_);refine bP (some 104) rfl rfl Try.func23 (by kernel_rfl) rfl #[.slice XB (dH l1 eP).length XC,.int .i64 (rd l0 fY)] rfl (by (try simp only [List.map_toArray,List.map_cons,List.map_nil]);first|done|rfl|(simp only [List.length_drop,List.length_take];rfl)) ?_;(with_reducible refine (ct.calls k5 _ _ (dH l1 eP) (rd l0 fY) false _ ?cy ?cA A58.out).mono ?_);(case cy=>repeat (first|exact (Kd.bX Rb.out HB.out)|(with_reducible refine Kd.cX ?_ _)|(with_reducible refine Kd.cY ?_ _)|(with_reducible refine Kd.dB ?_)));(case cA=>exact Rc.out);rintro e w' ⟨rfl,⟨nd,rfl⟩⟩;refine ⟨_,rfl,?_⟩))
                      go_roundg k5
                      case measure=>have:=ry.out;have:=qu.out;have:=uy.out;have:=tY.out;have:=Bq.out;omega
                      case rel=>exact ⟨(wrap64 (fY+1)),(dQ),(u235000),(by first|rfl|(simp;done)|(simp [*];done)),H',⟨by have:=ry.out;have:=qu.out;have:=uy.out;have:=tY.out;have:=Bq.out;omega⟩,⟨by (with_reducible repeat (first|apply Kd.bU|apply Kd.bV|apply Kd.cE));exact cU.out⟩,⟨by (with_reducible repeat (first|apply Kd.bU|apply Kd.bV|apply Kd.cE));exact dr.out⟩,⟨by (with_reducible repeat (first|apply Kd.dz|apply Kd.dG|apply Kd.ez));exact jn.out⟩,⟨by (with_reducible repeat (first|refine aq ?_ _|refine aj ?_|refine ak ?_ _));exact bz.out⟩,⟨by (with_reducible repeat (first|refine aq ?_ _|refine aj ?_|refine ak ?_ _));exact dU.out⟩,⟨ax⟩⟩
                    ·rw [if_neg XE] at H
                     exact absurd H (by simp)
                   ·rw [if_neg XD] at H
                    exact absurd H (by simp)
                  ·rw [if_neg OA] at H
                   have a3a:decide (fY<(l0.length:Int))=false:=decide_eq_false OA
                   clear OA
                   by_cases OB:(dQ.length:Int)>0
                   ·rw [if_pos OB] at H
                    have a3c:decide (0<(dQ.length:Int))=true:=decide_eq_true OB
                    have a3d:decide (0<dQ.length)=true:=decide_eq_true (by omega)
                    clear OB
                    by_cases XH:lQ.length<3518437208883
                    ·rw [if_pos XH] at H
                     have b1T:=Aside0.mk XH
                     clear XH
                     obtain ⟨a9f,Gy⟩:∃y_:List (cq),y_=(lQ++[(⟨dQ,true,1⟩:cq)]):=⟨_,rfl⟩
                     replace H:(ay.l3 k5 l0 l1 uj a9f l1 (l1.length:Int) (wrap64 (eP+1)))=some (r1,r2,r3,r4,r5):=by first|(rw [Gy];with_reducible exact H)|(have dZ:=(Option.bind_some _ _).symm.trans H;rw [Gy];with_reducible exact dZ)|(have dZ:=(Option.bind_some _ _).symm.trans H;with_reducible exact dZ)|with_reducible exact H|(rw [Gy];exact H)|exact H
                     have b1U:=Aside0.mk Gy
                     clear Gy
                     have H':=Aside0.mk H
                     clear H
                     have hnb68:=xd.out
                     have hnc68:=nD.out
                     have a5i:wr.cell? ⟨dR,0,none⟩=some (u235000):=(af dU.out 0).trans rfl
                     have a5j:wr.cell? ⟨dR,1,none⟩=some (.bool true):=(af dU.out 1).trans rfl
                     have a5k:wr.cell? ⟨dR,2,none⟩=some (.int .i64 1):=(af dU.out 2).trans rfl
                     have a5l:=aa dU.out 0
                     have a5m:=aa dU.out 1
                     have a5n:=aa dU.out 2
                     obtain ⟨OC,OD,b5I⟩:=Kd.eJ jn.out
                     subst b5I
                     go_wp2_with (first|((with_reducible refine gu (b:= .append) (xs:= #[.tmp 116,.tmp 118]) rfl ?_);(try (refine gO (by rfl) ?_;dsimp only));at_builtin;refine Kd.za iZ (w0:=w) w.heap.size rfl (.tmp 116) (.tmp 118) 47 49 (.agg #[(.slice none 0 0),(.bool false),(.int .i64 0)]) 40 rfl Try.underlying47 EK rfl (by decide) (by omega) u14 lQ (⟨dQ,true,1⟩:cq) [.slice OC dQ.length OD,.bool true,.int .i64 1] (fun k_=>some k_≠(v232:Value).ownBlock/\k_≠dR) (fun k_=>some k_=(.slice OC dQ.length OD:Value).ownBlock) rfl rfl ?aP (fun k_ rH=>((Kd.dD (ok':=fun k_=>((fun k_=>some k_≠(v232:Value).ownBlock/\k_≠dR)) k_/\some k_≠(u14:Value).ownBlock) (Kd.nZ (Kd.iH (Kd.iH (jn.out) (Kd.jK cU.out) (by decide)) (Kd.jK dr.out) (by decide)) dU.out (by decide)) (fun k_ hk=>⟨⟨hk.1.1.2,hk.2⟩,hk.1.2⟩))).1 k_ rH.symm) ?aF ?aO ?aB ?aS ?aL ?_;(case aP=>exact BL _ _ _ (⟨dQ,true,1⟩:cq) (Kd.dD (Kd.oc rfl (Kd.dD (ok':=fun k_=>((fun k_=>some k_≠(v232:Value).ownBlock/\k_≠dR)) k_/\some k_≠(u14:Value).ownBlock) (Kd.nZ (Kd.iH (Kd.iH (jn.out) (Kd.jK cU.out) (by decide)) (Kd.jK dr.out) (by decide)) dU.out (by decide)) (fun k_ hk=>⟨⟨hk.1.1.2,hk.2⟩,hk.1.2⟩))) (fun _ h_=>h_)));(case aB=>exact ax);(case aF=>exact (fun k_ hk=>⟨Kd.fresh' (Kd.RN (by (with_reducible repeat (first|apply Kd.bU|apply Kd.bV|apply Kd.cE));exact cU.out)) k_ hk,Kd.Uj (g:=dR) (o:= .cells #[.slice OC dQ.length OD,.bool true,.int .i64 1] 49 (0,0)) (aI dU) k_ hk⟩));(case aO=>exact (by (with_reducible repeat (first|apply Kd.bU|apply Kd.bV|apply Kd.cE));exact Kd.dY dr.out (fun k_ hk=>⟨⟨hk.1,hk.2.2⟩,fun e_=>hk.2.1 e_⟩)));(case aS=>exact (av ax));(case aL=>have:=b1T.out;omega);intro v241 w71 ho hb hg hat;rw [<-b1U.out] at ho;have aA:=Aside0.mk (Kd.uM (ok:=(fun k_=>some k_≠(.slice OC dQ.length OD:Value).ownBlock/\k_≠dR)) (by (with_reducible repeat (first|apply Kd.bU|apply Kd.bV|apply Kd.cE));exact Kd.dY cU.out (fun _ hk=>⟨⟨hk.2.1,hk.2.2⟩,hk.1⟩)) hg hat);have aC:=Aside0.mk (lu (g:=cn) (o:= .cells #[.bool cW,.int .i64 cN,.int .i64 cC,.slice none 0 0,.slice none 0 0] 29 (0,0)) (aI bz) hg (Kd.RO dr.out bz.out (by decide)));have aD:=Aside0.mk (lu (g:=dR) (o:= .cells #[.slice OC dQ.length OD,.bool true,.int .i64 1] 49 (0,0)) (aI dU) hg (Kd.Uo dr.out (fun _ hk=>hk.2.2)));have aJ:=Aside0.mk (hb);have bJ:=Aside0.mk (ho);clear cU;clear bz;clear dU;clear HB;clear dr;clear jn;have cU:=aA;have bz:=aC;have dU:=aD;have HB:=aJ;have b1V:=bJ;clear aA aC aD aJ bJ;clear ho hb hg hat))
                     go_roundg k5
                     case measure=>have:=ry.out;have:=qu.out;have:=uy.out;have:=tY.out;have:=Bq.out;omega
                     case rel=>exact ⟨(uj),(a9f),(wrap64 (eP+1)),(by first|rfl|(simp;done)|(simp [*];done)),H',⟨by have:=ry.out;have:=qu.out;have:=uy.out;have:=tY.out;have:=Bq.out;omega⟩,⟨by (with_reducible repeat (first|apply Kd.bU|apply Kd.bV|apply Kd.cE));exact Kd.dY cU.out (fun _ hk=>hk.2)⟩,⟨by (with_reducible repeat (first|apply Kd.bU|apply Kd.bV|apply Kd.cE));exact Kd.dY b1V.out (fun _ hk=>hk.1)⟩,⟨by (with_reducible repeat (first|refine aq ?_ _|refine aj ?_|refine ak ?_ _));exact bz.out⟩,⟨ax⟩⟩
                    ·rw [if_neg XH] at H
                     exact absurd H (by simp)
                   ·rw [if_neg OB] at H
                    have a3c:decide (0<(dQ.length:Int))=false:=decide_eq_false OB
                    have a3d:decide (0<dQ.length)=false:=decide_eq_false (by omega)
                    clear OB
                    have H':=Aside0.mk H
                    clear H
                    have hnb72:=xd.out
                    have hnc72:=nD.out
                    have a5o:wr.cell? ⟨dR,0,none⟩=some (u235000):=(af dU.out 0).trans rfl
                    have a5p:wr.cell? ⟨dR,1,none⟩=some (.bool true):=(af dU.out 1).trans rfl
                    have a5q:wr.cell? ⟨dR,2,none⟩=some (.int .i64 1):=(af dU.out 2).trans rfl
                    have a5r:=aa dU.out 0
                    have a5s:=aa dU.out 1
                    have a5t:=aa dU.out 2
                    obtain ⟨Ao74,co74,b5J⟩:=Kd.eJ jn.out
                    subst b5J
                    go_wp2
                    go_roundg k5
                    case measure=>have:=ry.out;have:=qu.out;have:=uy.out;have:=tY.out;have:=Bq.out;omega
                    case rel=>exact ⟨(uj),(lQ),(wrap64 (eP+1)),(by first|rfl|(simp;done)|(simp [*];done)),H',⟨by have:=ry.out;have:=qu.out;have:=uy.out;have:=tY.out;have:=Bq.out;omega⟩,⟨by (with_reducible repeat (first|apply Kd.bU|apply Kd.bV|apply Kd.cE));exact Kd.dY cU.out (fun _ hk=>hk.1)⟩,⟨by (with_reducible repeat (first|apply Kd.bU|apply Kd.bV|apply Kd.cE));exact Kd.dY dr.out (fun _ hk=>hk.1)⟩,⟨by (with_reducible repeat (first|refine aq ?_ _|refine aj ?_|refine ak ?_ _));exact bz.out⟩,⟨ax⟩⟩
               ·rw [if_neg QY] at H
                exact absurd H (by simp)
              ·rw [if_neg Bh] at H
               exact absurd H (by simp)
             ·rw [if_neg Bg] at H
              exact absurd H (by simp)
            ·rw [if_neg yI] at H
             have LH:decide (eP<(l1.length:Int))=false:=decide_eq_false yI
             clear yI
             have H':=Aside0.mk H
             clear H
             go_wp2
             go_loopg [14,123] k4 (fun kq v14 v123 w'=>∃(rV:List (cq)) (mK:Int),v123= .int .i64 mK/\Aside0 (ay.l5 kq l0 l1 rU rV (l0.length:Int) mK=some (r1,r2,r3,r4,r5))/\Aside0 (kq<=k4)/\Aside0 (Kd.S iZ 49 w' w.heap.size (fun k_=>some k_≠(v14:Value).ownBlock) u8 rU)/\Aside0 (Kd.S iZ 49 w' w.heap.size (fun k_=>some k_≠(u8:Value).ownBlock) v14 rV)/\Aside0 (w'.heap[cn]? =some (.cells #[.bool cW,.int .i64 cN,.int .i64 cC,(.slice none 0 0),(.slice none 0 0)] 29 (0,0)))/\Aside0 (Below w.heap.size w w'))
             case atStart=>exact ⟨(lQ),(0),(by first|rfl|(simp;done)|(simp [*];done)),H',⟨Nat.le_refl _⟩,⟨by (with_reducible repeat (first|apply Kd.bU|apply Kd.bV|apply Kd.cE));exact cU.out⟩,⟨by (with_reducible repeat (first|apply Kd.bU|apply Kd.bV|apply Kd.cE));exact dr.out⟩,⟨by (with_reducible repeat (first|refine aq ?_ _|refine aj ?_|refine ak ?_ _));exact bz.out⟩,⟨ax⟩⟩
             case round=>
              clear H'
              try clear c1
              try clear c2
              try clear p2
              try clear q2
              try clear hx2
              try clear c3
              try clear c4
              try clear c5
              try clear c6
              try clear p6
              try clear c7
              try clear rF
              try clear c8
              try clear su
              try clear c9
              try clear Dr
              try clear c10
              try clear c12
              try clear c15
              try clear Gq
              try clear c16
              try clear LI
              try clear c17
              try clear LJ
              try clear c19
              try clear c20
              try clear QW
              try clear QX
              try clear a0F
              try clear Gr
              try clear LK
              try clear p21
              try clear q21
              try clear a9b
              try clear Om
              try clear Tx
              try clear p22
              try clear q22
              try clear b5G
              try clear Oo
              try clear Ty
              try clear p23
              try clear q23
              try clear hx23
              try clear Oq
              try clear KF
              try clear c27
              try clear Bp
              try clear LL
              try clear LM
              try clear Tz
              try clear c33
              try clear Ox
              try clear c38
              try clear yI
              try clear LH
              try clear Bg
              try clear Tm
              try clear Bh
              try clear Tn
              try clear QY
              try clear c53
              try clear OA
              try clear a3a
              try clear XD
              try clear b1O
              try clear XE
              try clear b1P
              try clear XF
              try clear XG
              try clear c61
              try clear p64
              try clear OB
              try clear a3c
              try clear a3d
              try clear XH
              try clear c68
              try clear c72
              try clear yD
              try clear yE
              try clear Cw
              try clear uR
              try clear uS
              try clear Jw
              try clear xZ
              try clear ya
              try clear yb
              try clear BU
              try clear BV
              try clear BW
              try clear yg
              try clear yh
              try clear yj
              try clear Cb
              try clear Cc
              try clear Ci
              try clear Cj
              try clear Jy
              try clear Re
              try clear Rf
              try clear Rg
              try clear a4W
              try clear a4X
              try clear a4Y
              try clear a5c
              try clear a5d
              try clear a5e
              try clear a5i
              try clear a5j
              try clear a5k
              try clear a5o
              try clear a5p
              try clear a5q
              try clear yF
              try clear yG
              try clear Cx
              try clear uT
              try clear uU
              try clear Jx
              try clear yc
              try clear ye
              try clear yf
              try clear BX
              try clear BZ
              try clear Ca
              try clear yl
              try clear ym
              try clear yo
              try clear Ce
              try clear Cf
              try clear Ck
              try clear Cl
              try clear Jz
              try clear Rh
              try clear Ri
              try clear Rj
              try clear a4Z
              try clear a5a
              try clear a5b
              try clear a5f
              try clear a5g
              try clear a5h
              try clear a5l
              try clear a5m
              try clear a5n
              try clear a5r
              try clear a5s
              try clear a5t
              try clear lY
              try clear sP
              try clear ou
              try clear yR
              try clear rz
              try clear p2
              try clear QW
              try clear ug
              try clear p21
              try clear El
              try clear xD
              try clear p22
              try clear Oy
              try clear Br
              try clear p6
              try clear q2
              try clear QX
              try clear uh
              try clear q21
              try clear Em
              try clear xE
              try clear q22
              try clear Oz
              try clear Bt
              obtain ⟨rV,mK,rfl,HA,Bq,cU,dr,bz,HB⟩:=hrel
              cases gk with
              |zero=>exact absurd HA.out (by simp [ay.l5])
              |succ k5=>
               have H:=HA.out
               clear HA
               simp only [ay.l5] at H
               by_cases Rk:mK<(l0.length:Int)
               ·rw [if_pos Rk] at H
                have b1W:decide (mK<(l0.length:Int))=true:=decide_eq_true Rk
                clear Rk
                obtain ⟨Ep,Gz⟩:∃y_:List Int,y_=(([mK]:List Int)):=⟨_,rfl⟩
                replace H:(if rV.length<3518437208883 then (ay.l5 k5 l0 l1 rU (rV++[(⟨Ep,false,0⟩:cq)]) (l0.length:Int) (wrap64 (mK+1))) else (none))=some (r1,r2,r3,r4,r5):=by first|(rw [Gz];with_reducible exact H)|(have dZ:=(Option.bind_some _ _).symm.trans H;rw [Gz];with_reducible exact dZ)|(have dZ:=(Option.bind_some _ _).symm.trans H;with_reducible exact dZ)|with_reducible exact H|(rw [Gz];exact H)|exact H
                have a3e:=Aside0.mk Gz
                clear Gz
                by_cases c76:rV.length<3518437208883
                ·rw [if_pos c76] at H
                 have b1X:=Aside0.mk c76
                 clear c76
                 obtain ⟨a9g,GA⟩:∃y_:List (cq),y_=(rV++[(⟨Ep,false,0⟩:cq)]):=⟨_,rfl⟩
                 replace H:(ay.l5 k5 l0 l1 rU a9g (l0.length:Int) (wrap64 (mK+1)))=some (r1,r2,r3,r4,r5):=by first|(rw [GA];with_reducible exact H)|(have dZ:=(Option.bind_some _ _).symm.trans H;rw [GA];with_reducible exact dZ)|(have dZ:=(Option.bind_some _ _).symm.trans H;with_reducible exact dZ)|with_reducible exact H|(rw [GA];exact H)|exact H
                 have b1Y:=Aside0.mk GA
                 clear GA
                 have H':=Aside0.mk H
                 clear H
                 go_wp2_with (first|((with_reducible refine bp (N:=128) rfl ?_);(try (refine gO (by rfl) ?_;dsimp only));refine Kd.BG (Kd.int .i64) _ 3 ?hg (N:=128) ?hd (xs:=([mK]:List Int)) (inner:=[.int .i64 mK]) (ok:=fun _=>True) (fK:=fun _=>True) ?hr ?hp (fun _ hk=>hk) trivial (Below.refl _ _) (Nat.le_refl _) (by simp) ?_;(case hd=>rfl);(case hg=>rfl);(case hr=>first|(go_simp;done)|(go_simp;rfl));(case hp=>exact (cT.one (show Kd.M (Kd.int .i64) _ _ _ mK [.int .i64 mK] from rfl) (cT.none _ _)));intro v244 w77 Er hb uZ nH;clear uZ nH;(first|rw [<-a3e.out] at Er|(simp only [Int.reduceToNat] at Er;rw [<-a3e.out] at Er));have aA:=Aside0.mk (Kd.sq (by (with_reducible repeat (first|apply Kd.bU|apply Kd.bV|apply Kd.cE));exact cU.out) (Kd.tD Er) hb);have aC:=Aside0.mk (Kd.sq (by (with_reducible repeat (first|apply Kd.bU|apply Kd.bV|apply Kd.cE));exact dr.out) (Kd.tD Er) hb);have aD:=Aside0.mk (Kd.kL Er (av ax));have aJ:=Aside0.mk (ai (g:=cn) (o:= .cells #[.bool cW,.int .i64 cN,.int .i64 cC,.slice none 0 0,.slice none 0 0] 29 (0,0)) (aI bz) hb);have bJ:=Aside0.mk (ah ax hb);clear cU;clear dr;clear bz;clear HB;have cU:=aA;have dr:=aC;have LP:=aD;have bz:=aJ;have HB:=bJ;clear aA aC aD aJ bJ;clear hb Er;obtain ⟨a0L,a0M,b5K⟩:=Kd.eJ LP.out;subst b5K)|((with_reducible refine gu (b:= .append) (xs:= #[.tmp 126,.tmp 130]) rfl ?_);(try (refine gO (by rfl) ?_;dsimp only));at_builtin;refine Kd.za iZ (w0:=w) w.heap.size rfl (.tmp 126) (.tmp 130) 47 49 (.agg #[(.slice none 0 0),(.bool false),(.int .i64 0)]) 40 rfl Try.underlying47 EK rfl (by decide) (by omega) u14 rV (⟨Ep,false,0⟩:cq) [.slice a0L Ep.length a0M,.bool false,.int .i64 0] (fun k_=>some k_≠(u8:Value).ownBlock) (fun k_=>some k_=(.slice a0L Ep.length a0M:Value).ownBlock) rfl rfl ?aP (fun k_ rH=>((Kd.dD (ok':=fun k_=>((fun k_=>some k_≠(u8:Value).ownBlock)) k_/\some k_≠(u14:Value).ownBlock) (Kd.iH (Kd.iH (LP.out) (Kd.jK cU.out) (by decide)) (Kd.jK dr.out) (by decide)) (fun k_ hk=>⟨hk.1.2,hk.2⟩))).1 k_ rH.symm) ?aF ?aO ?aB ?aS ?aL ?_;(case aP=>exact BL _ _ _ (⟨Ep,false,0⟩:cq) (Kd.dD (Kd.oc rfl (Kd.dD (ok':=fun k_=>((fun k_=>some k_≠(u8:Value).ownBlock)) k_/\some k_≠(u14:Value).ownBlock) (Kd.iH (Kd.iH (LP.out) (Kd.jK cU.out) (by decide)) (Kd.jK dr.out) (by decide)) (fun k_ hk=>⟨hk.1.2,hk.2⟩))) (fun _ h_=>h_)));(case aB=>exact ax);(case aF=>exact (fun k_ hk=>Kd.fresh' (Kd.RN (by (with_reducible repeat (first|apply Kd.bU|apply Kd.bV|apply Kd.cE));exact cU.out)) k_ hk));(case aO=>exact (by (with_reducible repeat (first|apply Kd.bU|apply Kd.bV|apply Kd.cE));exact Kd.dY dr.out (fun k_ hk=>⟨hk.1,fun e_=>hk.2 e_⟩)));(case aS=>exact (av ax));(case aL=>have:=b1X.out;omega);intro v247 w80 ho hb hg hat;rw [<-b1Y.out] at ho;have aA:=Aside0.mk (Kd.uM (ok:=(fun k_=>some k_≠(.slice a0L Ep.length a0M:Value).ownBlock)) (by (with_reducible repeat (first|apply Kd.bU|apply Kd.bV|apply Kd.cE));exact Kd.dY cU.out (fun _ hk=>⟨hk.2,hk.1⟩)) hg hat);have aC:=Aside0.mk (lu (g:=cn) (o:= .cells #[.bool cW,.int .i64 cN,.int .i64 cC,.slice none 0 0,.slice none 0 0] 29 (0,0)) (aI bz) hg (Kd.RO dr.out bz.out (by decide)));have aD:=Aside0.mk (hb);have aJ:=Aside0.mk (ho);clear cU;clear bz;clear HB;clear dr;clear LP;have cU:=aA;have bz:=aC;have HB:=aD;have b1Z:=aJ;clear aA aC aD aJ;clear ho hb hg hat))
                 go_roundg k5
                 case measure=>have:=ry.out;have:=qu.out;have:=uy.out;have:=tY.out;have:=Bq.out;omega
                 case rel=>exact ⟨(a9g),(wrap64 (mK+1)),(by first|rfl|(simp;done)|(simp [*];done)),H',⟨by have:=ry.out;have:=qu.out;have:=uy.out;have:=tY.out;have:=Bq.out;omega⟩,⟨by (with_reducible repeat (first|apply Kd.bU|apply Kd.bV|apply Kd.cE));exact Kd.dY cU.out (fun _ hk=>hk.2)⟩,⟨by (with_reducible repeat (first|apply Kd.bU|apply Kd.bV|apply Kd.cE));exact b1Z.out⟩,⟨by (with_reducible repeat (first|refine aq ?_ _|refine aj ?_|refine ak ?_ _));exact bz.out⟩,⟨ax⟩⟩
                ·rw [if_neg c76] at H
                 exact absurd H (by simp)
               ·rw [if_neg Rk] at H
                have b1W:decide (mK<(l0.length:Int))=false:=decide_eq_false Rk
                clear Rk
                by_cases KR:(l0.length:Int)=0
                ·rw [if_pos KR] at H
                 have b2a:((l0.length:Int)==0)=true:=beq_iff_eq.mpr KR
                 have b2b:((l0.length:Int) !=0)=false:=bne_eq_false_iff_eq.mpr KR
                 clear KR
                 replace H:=Option.bind_eq_some_iff.mp H
                 obtain ⟨zG,a9h,H⟩:=H
                 replace H:(some (true,0,1,zG,(([]:List (bM)))))=some (r1,r2,r3,r4,r5):=H
                 have A82:=Aside0.mk a9h
                 clear a9h
                 obtain ⟨TE,GC⟩:∃y_:List (bM),y_=(([]:List (bM))):=⟨_,rfl⟩
                 replace H:(some (true,0,1,zG,TE))=some (r1,r2,r3,r4,r5):=by first|(rw [GC];with_reducible exact H)|(have dZ:=(Option.bind_some _ _).symm.trans H;rw [GC];with_reducible exact dZ)|(have dZ:=(Option.bind_some _ _).symm.trans H;with_reducible exact dZ)|with_reducible exact H|(rw [GC];exact H)|exact H
                 have a3g:=Aside0.mk GC
                 clear GC
                 simp only [Option.some.injEq,Prod.mk.injEq] at H
                 obtain ⟨rfl,rfl,rfl,rfl,rfl⟩:=H
                 go_wp2_with (first|((with_reducible refine aY (f:=24) rfl ?_);refine bP (some 139) rfl rfl Try.func24 (by kernel_rfl) rfl #[.int .i64 (l1.length:Int)] rfl (by (try simp only [List.map_toArray,List.map_cons,List.map_nil]);first|done|rfl|(simp only [List.length_drop,List.length_take];rfl)) ?_;(with_reducible refine (bR.calls k5 (l1.length:Int) zG _ A82.out).mono ?_);rintro e w83 ⟨v250,rfl,tH,hb⟩;refine ⟨_,rfl,?_⟩;have aA:=Aside0.mk (Kd.jJ (by (with_reducible repeat (first|apply Kd.bU|apply Kd.bV|apply Kd.cE));exact cU.out) hb);have aC:=Aside0.mk (Kd.jJ (by (with_reducible repeat (first|apply Kd.bU|apply Kd.bV|apply Kd.cE));exact dr.out) hb);have aD:=Aside0.mk (Kd.kL tH (av ax));have aJ:=Aside0.mk (ai (g:=cn) (o:= .cells #[.bool cW,.int .i64 cN,.int .i64 cC,.slice none 0 0,.slice none 0 0] 29 (0,0)) (aI bz) hb);have bJ:=Aside0.mk (ah ax hb);clear cU;clear dr;clear bz;clear HB;have cU:=aA;have dr:=aC;have Cy:=aD;have bz:=aJ;have HB:=bJ;clear aA aC aD aJ bJ;(try clear hb);(try clear hb2);(try clear hk);(try clear hi);(try clear tH))|((with_reducible refine bp (N:=140) rfl ?_);(try (refine gO (by rfl) ?_;dsimp only));refine Kd.BG eY _ 26 ?hg (N:=140) ?hd (xs:=([]:List (bM))) (inner:=[]) (ok:=fun _=>True) (fK:=fun _=>True) ?hr ?hp (fun _ hk=>hk) trivial (Below.refl _ _) (Nat.le_refl _) (by simp) ?_;(case hd=>rfl);(case hg=>rfl);(case hr=>first|(go_simp;done)|(go_simp;rfl));(case hp=>exact (cT.none _ _));intro v253 XI JC hb uZ nH;clear uZ nH;(first|rw [<-a3g.out] at JC|(simp only [Int.reduceToNat] at JC;rw [<-a3g.out] at JC));have aA:=Aside0.mk (Kd.jJ (by (with_reducible repeat (first|apply Kd.bU|apply Kd.bV|apply Kd.cE));exact cU.out) hb);have aC:=Aside0.mk (Kd.jJ (by (with_reducible repeat (first|apply Kd.bU|apply Kd.bV|apply Kd.cE));exact dr.out) hb);have aD:=Aside0.mk (Kd.Dj (by (with_reducible repeat (first|apply Kd.dz|apply Kd.dG|apply Kd.ez));exact Cy.out) (Kd.tD JC) hb);have aJ:=Aside0.mk (Kd.kL (Kd.Ma JC (Kd.Yn (by (with_reducible repeat (first|apply Kd.dz|apply Kd.dG|apply Kd.ez));exact Cy.out))) (av ax));have bJ:=Aside0.mk (ai (g:=cn) (o:= .cells #[.bool cW,.int .i64 cN,.int .i64 cC,.slice none 0 0,.slice none 0 0] 29 (0,0)) (aI bz) hb);have bS:=Aside0.mk (ah ax hb);clear cU;clear dr;clear Cy;clear bz;clear HB;have cU:=aA;have dr:=aC;have Cy:=aD;have a3h:=aJ;have bz:=bJ;have HB:=bS;clear aA aC aD aJ bJ bS;clear hb JC;obtain ⟨a0N,a0O,b5L⟩:=Kd.eJ a3h.out;subst b5L;obtain ⟨TF,TG,b5M⟩:=Kd.eJ Cy.out;subst b5M;have hcz88_0:XI.cell? ⟨cn,0,none⟩=some (.bool cW):=(af bz.out 0).trans rfl;have hcz88_1:XI.cell? ⟨cn,1,none⟩=some (.int .i64 cN):=(af bz.out 1).trans rfl;have hcz88_2:XI.cell? ⟨cn,2,none⟩=some (.int .i64 cC):=(af bz.out 2).trans rfl;have hcz88_3:XI.cell? ⟨cn,3,none⟩=some (.slice none 0 0):=(af bz.out 3).trans rfl;have hcz88_4:XI.cell? ⟨cn,4,none⟩=some (.slice none 0 0):=(af bz.out 4).trans rfl;have hfz88_0:=aa bz.out 0;have hfz88_1:=aa bz.out 1;have hfz88_2:=aa bz.out 2;have hfz88_3:=aa bz.out 3;have hfz88_4:=aa bz.out 4))
                 refine bodyPost_ret (results_cell_row rfl _ _ cn 29 #[.bool true,.int .i64 0,.int .i64 1,.slice TF zG.length TG,.slice a0N TE.length a0O] (0,0) _ rfl (by (with_reducible repeat (first|refine aq ?_ _|refine aj ?_|refine ak ?_ _));refine aK (cs:= #[.bool true,.int .i64 0,.int .i64 1,.slice TF zG.length TG,.slice none 0 0]) ?_ 4 _ rfl;(with_reducible repeat (first|refine aq ?_ _|refine aj ?_|refine ak ?_ _));refine aK (cs:= #[.bool true,.int .i64 0,.int .i64 1,.slice none 0 0,.slice none 0 0]) ?_ 3 _ rfl;(with_reducible repeat (first|refine aq ?_ _|refine aj ?_|refine ak ?_ _));refine aK (cs:= #[.bool true,.int .i64 0,.int .i64 cC,.slice none 0 0,.slice none 0 0]) ?_ 2 _ rfl;(with_reducible repeat (first|refine aq ?_ _|refine aj ?_|refine ak ?_ _));refine aK (cs:= #[.bool true,.int .i64 cN,.int .i64 cC,.slice none 0 0,.slice none 0 0]) ?_ 1 _ rfl;(with_reducible repeat (first|refine aq ?_ _|refine aj ?_|refine ak ?_ _));refine aK (cs:= #[.bool cW,.int .i64 cN,.int .i64 cC,.slice none 0 0,.slice none 0 0]) ?_ 0 _ rfl;(with_reducible repeat (first|refine aq ?_ _|refine aj ?_|refine ak ?_ _));exact bz.out) Try.underlying29 rfl (by kernel_rfl)) rfl ?_
                 exact ⟨_,_,by first|rfl|(simp [aQ,aR]<;>rfl)|(simp [*,aQ,aR]<;>rfl),by (with_reducible repeat (first|apply Kd.dz|apply Kd.dG|apply Kd.ez));exact Kd.dD (Kd.jU (p:=⟨cn,4,none⟩) (Kd.jU (p:=⟨cn,3,none⟩) (Kd.jU (p:=⟨cn,2,none⟩) (Kd.jU (p:=⟨cn,1,none⟩) (Kd.jU (p:=⟨cn,0,none⟩) (Kd.nZ Cy.out bz.out (by decide)) (fun _ hk=>hk.2) (.bool true)) (fun _ hk=>hk.2) (.int .i64 0)) (fun _ hk=>hk.2) (.int .i64 1)) (fun _ hk=>hk.2) (.slice TF zG.length TG)) (fun _ hk=>hk.2) (.slice a0N TE.length a0O)) (fun _ hk=>hk.1.2),by (with_reducible repeat (first|apply Kd.dz|apply Kd.dG|apply Kd.ez));exact Kd.dD (Kd.jU (p:=⟨cn,4,none⟩) (Kd.jU (p:=⟨cn,3,none⟩) (Kd.jU (p:=⟨cn,2,none⟩) (Kd.jU (p:=⟨cn,1,none⟩) (Kd.jU (p:=⟨cn,0,none⟩) (Kd.nZ a3h.out bz.out (by decide)) (fun _ hk=>hk.2) (.bool true)) (fun _ hk=>hk.2) (.int .i64 0)) (fun _ hk=>hk.2) (.int .i64 1)) (fun _ hk=>hk.2) (.slice TF zG.length TG)) (fun _ hk=>hk.2) (.slice a0N TE.length a0O)) (fun _ hk=>hk.1.2),ax⟩
                ·rw [if_neg KR] at H
                 have b2a:((l0.length:Int)==0)=false:=beq_eq_false_iff_ne.mpr KR
                 have b2b:((l0.length:Int) !=0)=true:=bne_iff_ne.mpr KR
                 have c81b2:¬(l0=[]):=fun h_=>KR (by rw [h_];rfl)
                 replace H:=Option.bind_eq_some_iff.mp H
                 obtain ⟨qY,a9i,H⟩:=H
                 replace H:((dx.f k5 (l0.length:Int) rV 0 ([]:List (cq)) ([]:List (bM)) true).bind fun xA=>((bK.f k5 qY).bind fun wY=>(some (true,wY.1,wY.2,qY,xA))))=some (r1,r2,r3,r4,r5):=H
                 have A89:=Aside0.mk a9i
                 clear a9i
                 replace H:=Option.bind_eq_some_iff.mp H
                 obtain ⟨xA,a9j,H⟩:=H
                 replace H:((bK.f k5 qY).bind fun wY=>(some (true,wY.1,wY.2,qY,xA)))=some (r1,r2,r3,r4,r5):=H
                 have MA:=Aside0.mk a9j
                 clear a9j
                 replace H:=Option.bind_eq_some_iff.mp H
                 obtain ⟨⟨Bu,Es⟩,a9k,H⟩:=H
                 replace H:(some (true,Bu,Es,qY,xA))=some (r1,r2,r3,r4,r5):=H
                 have A91:=Aside0.mk a9k
                 clear a9k
                 simp only [Option.some.injEq,Prod.mk.injEq] at H
                 obtain ⟨rfl,rfl,rfl,rfl,rfl⟩:=H
                 obtain ⟨b5N,b5O,b5P⟩:=Kd.od cU.out
                 subst b5P
                 go_wp2_with (first|((with_reducible refine aY (f:=25) rfl ?_);refine bP (some 145) rfl rfl Try.func25 (by kernel_rfl) rfl #[.int .i64 (l1.length:Int),.slice b5N rU.length b5O,.int .i64 0,.slice none 0 0,.slice none 0 0,.bool false] rfl (by (try simp only [List.map_toArray,List.map_cons,List.map_nil]);first|done|rfl|(simp only [List.length_drop,List.length_take];rfl)) ?_;(refine (dx.calls k5 (l1.length:Int) _ _ rU 0 _ _ ([]:List (cq)) _ _ ([]:List (bM)) false qY _ ?cy ?cA ?iT ?iU ?TH ?TI A89.out).mono ?_);(case cy=>repeat (first|exact (Kd.sr cU.out).2.2|(with_reducible refine Kd.cX ?_ _)|(with_reducible refine Kd.cY ?_ _)|(with_reducible refine Kd.dB ?_)));(case cA=>exact (Kd.sr cU.out).2.1);(case iT=>exact Kd.ED _ _);(case iU=>exact Nat.le_refl _);(case TH=>exact Kd.ED _ _);(case TI=>exact Nat.le_refl _);rintro e w93 ⟨v256,rfl,tH,hb⟩;refine ⟨_,rfl,?_⟩;have aA:=Aside0.mk (Kd.jJ (by (with_reducible repeat (first|apply Kd.bU|apply Kd.bV|apply Kd.cE));exact cU.out) hb);have aC:=Aside0.mk (Kd.jJ (by (with_reducible repeat (first|apply Kd.bU|apply Kd.bV|apply Kd.cE));exact dr.out) hb);have aD:=Aside0.mk (Kd.kL tH (av ax));have aJ:=Aside0.mk (ai (g:=cn) (o:= .cells #[.bool cW,.int .i64 cN,.int .i64 cC,.slice none 0 0,.slice none 0 0] 29 (0,0)) (aI bz) hb);have bJ:=Aside0.mk (ah ax hb);clear cU;clear dr;clear bz;clear HB;have cU:=aA;have dr:=aC;have rW:=aD;have bz:=aJ;have HB:=bJ;clear aA aC aD aJ bJ;(try clear hb);(try clear hb2);(try clear hk);(try clear hi);(try clear tH);obtain ⟨b5Q,b5R,b5S⟩:=Kd.od dr.out;subst b5S)|((with_reducible refine aY (f:=25) rfl ?_);refine bP (some 149) rfl rfl Try.func25 (by kernel_rfl) rfl #[.int .i64 (l0.length:Int),.slice b5Q rV.length b5R,.int .i64 0,.slice none 0 0,.slice none 0 0,.bool true] rfl (by (try simp only [List.map_toArray,List.map_cons,List.map_nil]);first|done|rfl|(simp only [List.length_drop,List.length_take];rfl)) ?_;(refine (dx.calls k5 (l0.length:Int) _ _ rV 0 _ _ ([]:List (cq)) _ _ ([]:List (bM)) true xA _ ?cy ?cA ?iT ?iU ?TH ?TI MA.out).mono ?_);(case cy=>repeat (first|exact (Kd.sr dr.out).2.2|(with_reducible refine Kd.cX ?_ _)|(with_reducible refine Kd.cY ?_ _)|(with_reducible refine Kd.dB ?_)));(case cA=>exact (Kd.sr dr.out).2.1);(case iT=>exact Kd.ED _ _);(case iU=>exact Nat.le_refl _);(case TH=>exact Kd.ED _ _);(case TI=>exact Nat.le_refl _);rintro e w95 ⟨v259,rfl,tH,hb⟩;refine ⟨_,rfl,?_⟩;have aA:=Aside0.mk (Kd.jJ (by (with_reducible repeat (first|apply Kd.bU|apply Kd.bV|apply Kd.cE));exact cU.out) hb);have aC:=Aside0.mk (Kd.jJ (by (with_reducible repeat (first|apply Kd.bU|apply Kd.bV|apply Kd.cE));exact dr.out) hb);have aD:=Aside0.mk (Kd.Dj (by (with_reducible repeat (first|apply Kd.dz|apply Kd.dG|apply Kd.ez));exact rW.out) (Kd.tD tH) hb);have aJ:=Aside0.mk (Kd.kL (Kd.Ma tH (Kd.Yn (by (with_reducible repeat (first|apply Kd.dz|apply Kd.dG|apply Kd.ez));exact rW.out))) (av ax));have bJ:=Aside0.mk (ai (g:=cn) (o:= .cells #[.bool cW,.int .i64 cN,.int .i64 cC,.slice none 0 0,.slice none 0 0] 29 (0,0)) (aI bz) hb);have bS:=Aside0.mk (ah ax hb);clear cU;clear dr;clear rW;clear bz;clear HB;have cU:=aA;have dr:=aC;have rW:=aD;have GD:=aJ;have bz:=bJ;have HB:=bS;clear aA aC aD aJ bJ bS;(try clear hb);(try clear hb2);(try clear hk);(try clear hi);(try clear tH);obtain ⟨OE,OG,b5T⟩:=Kd.eJ rW.out;subst b5T)|((with_reducible refine aY (f:=26) rfl ?_);refine bP (some 151) rfl rfl Try.func26 (by kernel_rfl) rfl #[.slice OE qY.length OG] rfl (by (try simp only [List.map_toArray,List.map_cons,List.map_nil]);first|done|rfl|(simp only [List.length_drop,List.length_take];rfl)) ?_;(with_reducible refine (bK.calls k5 _ _ qY Bu Es _ ?cy ?cA A91.out).mono ?_);(case cy=>repeat (first|exact (Kd.jZ rW.out).2.2|(with_reducible refine Kd.cX ?_ _)|(with_reducible refine Kd.cY ?_ _)|(with_reducible refine Kd.dB ?_)));(case cA=>exact (Kd.jZ rW.out).2.1);rintro e XJ ⟨rfl,hb⟩;refine ⟨_,rfl,?_⟩;have aA:=Aside0.mk (Kd.jJ (by (with_reducible repeat (first|apply Kd.bU|apply Kd.bV|apply Kd.cE));exact cU.out) hb);have aC:=Aside0.mk (Kd.jJ (by (with_reducible repeat (first|apply Kd.bU|apply Kd.bV|apply Kd.cE));exact dr.out) hb);have aD:=Aside0.mk (Kd.lX (by (with_reducible repeat (first|apply Kd.dz|apply Kd.dG|apply Kd.ez));exact rW.out) hb);have aJ:=Aside0.mk (Kd.lX (by (with_reducible repeat (first|apply Kd.dz|apply Kd.dG|apply Kd.ez));exact GD.out) hb);have bJ:=Aside0.mk (ai (g:=cn) (o:= .cells #[.bool cW,.int .i64 cN,.int .i64 cC,.slice none 0 0,.slice none 0 0] 29 (0,0)) (aI bz) hb);have bS:=Aside0.mk (ah ax hb);clear cU;clear dr;clear rW;clear GD;clear bz;clear HB;have cU:=aA;have dr:=aC;have rW:=aD;have GD:=aJ;have bz:=bJ;have HB:=bS;clear aA aC aD aJ bJ bS;(try clear hb);(try clear hb2);(try clear hk);(try clear hi);obtain ⟨a0P,a0Q,b5U⟩:=Kd.eJ GD.out;subst b5U;have hcz99_0:XJ.cell? ⟨cn,0,none⟩=some (.bool cW):=(af bz.out 0).trans rfl;have hcz99_1:XJ.cell? ⟨cn,1,none⟩=some (.int .i64 cN):=(af bz.out 1).trans rfl;have hcz99_2:XJ.cell? ⟨cn,2,none⟩=some (.int .i64 cC):=(af bz.out 2).trans rfl;have hcz99_3:XJ.cell? ⟨cn,3,none⟩=some (.slice none 0 0):=(af bz.out 3).trans rfl;have hcz99_4:XJ.cell? ⟨cn,4,none⟩=some (.slice none 0 0):=(af bz.out 4).trans rfl;have hfz99_0:=aa bz.out 0;have hfz99_1:=aa bz.out 1;have hfz99_2:=aa bz.out 2;have hfz99_3:=aa bz.out 3;have hfz99_4:=aa bz.out 4))
                 refine bodyPost_ret (results_cell_row rfl _ _ cn 29 #[.bool true,.int .i64 Bu,.int .i64 Es,.slice OE qY.length OG,.slice a0P xA.length a0Q] (0,0) _ rfl (by (with_reducible repeat (first|refine aq ?_ _|refine aj ?_|refine ak ?_ _));refine aK (cs:= #[.bool true,.int .i64 Bu,.int .i64 Es,.slice OE qY.length OG,.slice none 0 0]) ?_ 4 _ rfl;(with_reducible repeat (first|refine aq ?_ _|refine aj ?_|refine ak ?_ _));refine aK (cs:= #[.bool true,.int .i64 Bu,.int .i64 Es,.slice none 0 0,.slice none 0 0]) ?_ 3 _ rfl;(with_reducible repeat (first|refine aq ?_ _|refine aj ?_|refine ak ?_ _));refine aK (cs:= #[.bool true,.int .i64 Bu,.int .i64 cC,.slice none 0 0,.slice none 0 0]) ?_ 2 _ rfl;(with_reducible repeat (first|refine aq ?_ _|refine aj ?_|refine ak ?_ _));refine aK (cs:= #[.bool true,.int .i64 cN,.int .i64 cC,.slice none 0 0,.slice none 0 0]) ?_ 1 _ rfl;(with_reducible repeat (first|refine aq ?_ _|refine aj ?_|refine ak ?_ _));refine aK (cs:= #[.bool cW,.int .i64 cN,.int .i64 cC,.slice none 0 0,.slice none 0 0]) ?_ 0 _ rfl;(with_reducible repeat (first|refine aq ?_ _|refine aj ?_|refine ak ?_ _));exact bz.out) Try.underlying29 rfl (by kernel_rfl)) rfl ?_
                 exact ⟨_,_,by first|rfl|(simp [aQ,aR]<;>rfl)|(simp [*,aQ,aR]<;>rfl),by (with_reducible repeat (first|apply Kd.dz|apply Kd.dG|apply Kd.ez));exact Kd.dD (Kd.jU (p:=⟨cn,4,none⟩) (Kd.jU (p:=⟨cn,3,none⟩) (Kd.jU (p:=⟨cn,2,none⟩) (Kd.jU (p:=⟨cn,1,none⟩) (Kd.jU (p:=⟨cn,0,none⟩) (Kd.nZ rW.out bz.out (by decide)) (fun _ hk=>hk.2) (.bool true)) (fun _ hk=>hk.2) (.int .i64 Bu)) (fun _ hk=>hk.2) (.int .i64 Es)) (fun _ hk=>hk.2) (.slice OE qY.length OG)) (fun _ hk=>hk.2) (.slice a0P xA.length a0Q)) (fun _ hk=>hk.1.2),by (with_reducible repeat (first|apply Kd.dz|apply Kd.dG|apply Kd.ez));exact Kd.dD (Kd.jU (p:=⟨cn,4,none⟩) (Kd.jU (p:=⟨cn,3,none⟩) (Kd.jU (p:=⟨cn,2,none⟩) (Kd.jU (p:=⟨cn,1,none⟩) (Kd.jU (p:=⟨cn,0,none⟩) (Kd.nZ GD.out bz.out (by decide)) (fun _ hk=>hk.2) (.bool true)) (fun _ hk=>hk.2) (.int .i64 Bu)) (fun _ hk=>hk.2) (.int .i64 Es)) (fun _ hk=>hk.2) (.slice OE qY.length OG)) (fun _ hk=>hk.2) (.slice a0P xA.length a0Q)) (fun _ hk=>hk.1.2),ax⟩
      ·replace c12:=Bool.eq_false_iff.mpr c12
       subst c12
       have H1:(some (false,0,0,([]:List (bM)),([]:List (bM))))=some (r1,r2,r3,r4,r5):=by rw [if_neg (show ¬(false=true) by decide)] at H;exact H
       clear H
       have H:=H1
       clear H1
       simp only [Option.some.injEq,Prod.mk.injEq] at H
       obtain ⟨rfl,rfl,rfl,rfl,rfl⟩:=H
       have hcz100_0:wr.cell? ⟨cn,0,none⟩=some (.bool false):=(af bz.out 0).trans rfl
       have hcz100_1:wr.cell? ⟨cn,1,none⟩=some (.int .i64 0):=(af bz.out 1).trans rfl
       have hcz100_2:wr.cell? ⟨cn,2,none⟩=some (.int .i64 0):=(af bz.out 2).trans rfl
       have hcz100_3:wr.cell? ⟨cn,3,none⟩=some (.slice none 0 0):=(af bz.out 3).trans rfl
       have hcz100_4:wr.cell? ⟨cn,4,none⟩=some (.slice none 0 0):=(af bz.out 4).trans rfl
       have hfz100_0:=aa bz.out 0
       have hfz100_1:=aa bz.out 1
       have hfz100_2:=aa bz.out 2
       have hfz100_3:=aa bz.out 3
       have hfz100_4:=aa bz.out 4
       go_wp2
       refine bodyPost_ret (results_cell_row rfl _ _ cn 29 #[.bool false,.int .i64 0,.int .i64 0,.slice none 0 0,.slice none 0 0] (0,0) _ rfl (by (with_reducible repeat (first|refine aq ?_ _|refine aj ?_|refine ak ?_ _));refine aK (cs:= #[.bool false,.int .i64 0,.int .i64 0,.slice none 0 0,.slice none 0 0]) ?_ 4 _ rfl;(with_reducible repeat (first|refine aq ?_ _|refine aj ?_|refine ak ?_ _));refine aK (cs:= #[.bool false,.int .i64 0,.int .i64 0,.slice none 0 0,.slice none 0 0]) ?_ 3 _ rfl;(with_reducible repeat (first|refine aq ?_ _|refine aj ?_|refine ak ?_ _));refine aK (cs:= #[.bool false,.int .i64 0,.int .i64 0,.slice none 0 0,.slice none 0 0]) ?_ 2 _ rfl;(with_reducible repeat (first|refine aq ?_ _|refine aj ?_|refine ak ?_ _));refine aK (cs:= #[.bool false,.int .i64 0,.int .i64 0,.slice none 0 0,.slice none 0 0]) ?_ 1 _ rfl;(with_reducible repeat (first|refine aq ?_ _|refine aj ?_|refine ak ?_ _));refine aK (cs:= #[.bool false,.int .i64 0,.int .i64 0,.slice none 0 0,.slice none 0 0]) ?_ 0 _ rfl;(with_reducible repeat (first|refine aq ?_ _|refine aj ?_|refine ak ?_ _));exact bz.out) Try.underlying29 rfl (by kernel_rfl)) rfl ?_
       exact ⟨_,_,by first|rfl|(simp [aQ,aR]<;>rfl)|(simp [*,aQ,aR]<;>rfl),by first|exact Kd.rB _ _ _ _ _|exact Kd.BI _ _ _ _ _|exact Kd.BJ _ _ _ _ _|exact Kd.BH _ _ _ _ _|exact Kd.yZ _ _ _ _ _,by first|exact Kd.rB _ _ _ _ _|exact Kd.BI _ _ _ _ _|exact Kd.BJ _ _ _ _ _|exact Kd.BH _ _ _ _ _|exact Kd.yZ _ _ _ _ _,ax⟩
end Go.Proofs.Ytnhknojfpjheoaa.P
