/-
  Part 13 of the proof of this: The law FnCover answers true at every argument.
-/
import Derived.Test.YtnhknojfpjheoaaKCover2
import Derived.Test.YtnhknojfpjheoaaKCover3
import Derived.Test.YtnhknojfpjheoaaKCover7
import Derived.Test.YtnhknojfpjheoaaKCover8
import Derived.Test.YtnhknojfpjheoaaKCover11
namespace Go.Proofs.Ytnhknojfpjheoaa.P
open Go.RowKit Go.Proofs.YtnhknojfpjheoaaW.PrintWords Go.Proofs.YtnhknojfpjheoaaW.PrintLast Go.Proofs.YtnhknojfpjheoaaW.PrintMore
attribute [local go_sem] max2_int min2_int max_two min_two max_three min_three max_four min_four
set_option linter.all false
mutual
def aC.j0:Nat->List Int->List (List Int)->Bool->Option (Bool×Int×Int×(List (bV))×(List (bV)))
 |0,_,_,_=>none
 |k+1,x0,x1,x5=>aC.l0 k x0 x1 x5 x1 (x1.length:Int) 0
def aC.l0:Nat->List Int->List (List Int)->Bool->List (List Int)->Int->Int->Option (Bool×Int×Int×(List (bV))×(List (bV)))
 |0,_,_,_,_,_,_=>none
 |k+1,x0,x1,x5,x30,x31,Tm=>if Tm<x31 then (if 0<=Tm then (if Tm<(x30.length:Int) then (if x5=true then ((bG.f k (eu x30 Tm) 6).bind fun t210=>(aC.l0 k x0 x1 t210 x30 x31 (wrap64 (Tm+1)))) else (aC.l0 k x0 x1 false x30 x31 (wrap64 (Tm+1)))) else (none)) else (none)) else (if x5=true then (aC.l1 k x0 x1 (([]:List (cC))) x0 (x0.length:Int) 0) else (some (false,0,0,([]:List (bV)),([]:List (bV)))))
def aC.l1:Nat->List Int->List (List Int)->List (cC)->List Int->Int->Int->Option (Bool×Int×Int×(List (bV))×(List (bV)))
 |0,_,_,_,_,_,_=>none
 |k+1,x0,x1,x8,Qt,Tn,IW=>if IW<Tn then (if 0<=IW then (if IW<(Qt.length:Int) then (aC.l2 k x0 x1 x8 (rd Qt IW) Qt Tn IW x1 (x1.length:Int) 0 ([]:List Int) false 1) else (none)) else (none)) else (aC.l3 k x0 x1 x8 (([]:List (cC))) x1 (x1.length:Int) 0)
def aC.l2:Nat->List Int->List (List Int)->List (cC)->Int->List Int->Int->Int->List (List Int)->Int->Int->List Int->Bool->Int->Option (Bool×Int×Int×(List (bV))×(List (bV)))
 |0,_,_,_,_,_,_,_,_,_,_,_,_,_=>none
 |k+1,x0,x1,x8,x10,Qt,Tn,IW,x53,x54,Qv,zO,Lm,Ln=>if Qv<x54 then (if 0<=Qv then (if Qv<(x53.length:Int) then ((bH.f k (eu x53 Qv) x10).bind fun VH=>(if VH=true then (if zO.length<17592186044416 then (aC.l2 k x0 x1 x8 x10 Qt Tn IW x53 x54 (wrap64 (Qv+1)) (zO++[Qv]) Lm Ln) else (none)) else (aC.l2 k x0 x1 x8 x10 Qt Tn IW x53 x54 (wrap64 (Qv+1)) zO Lm Ln))) else (none)) else (none)) else (if (zO.length:Int)=0 then (some (false,0,0,([]:List (bV)),([]:List (bV)))) else (if x8.length<3518437208883 then (aC.l1 k x0 x1 (x8++[(⟨zO,Lm,Ln⟩:cC)]) Qt Tn (wrap64 (IW+1))) else (none)))
def aC.l3:Nat->List Int->List (List Int)->List (cC)->List (cC)->List (List Int)->Int->Int->Option (Bool×Int×Int×(List (bV))×(List (bV)))
 |0,_,_,_,_,_,_,_=>none
 |k+1,x0,x1,x8,sU,MX,Qw,CN=>if CN<Qw then (if 0<=CN then (if CN<(MX.length:Int) then (if x8.length<3518437208883 then (aC.l4 k x0 x1 (x8++[(⟨(([CN]:List Int)),false,0⟩:cC)]) sU (eu MX CN) MX Qw CN x0 (x0.length:Int) 0 ([]:List Int) true 1) else (none)) else (none)) else (none)) else (aC.l5 k x0 x1 x8 sU (x0.length:Int) 0)
def aC.l4:Nat->List Int->List (List Int)->List (cC)->List (cC)->List Int->List (List Int)->Int->Int->List Int->Int->Int->List Int->Bool->Int->Option (Bool×Int×Int×(List (bV))×(List (bV)))
 |0,_,_,_,_,_,_,_,_,_,_,_,_,_,_=>none
 |k+1,x0,x1,x8,sU,x16,MX,Qw,CN,x95,x96,Qx,zP,Lq,Lr=>if Qx<x96 then (if 0<=Qx then (if Qx<(x95.length:Int) then ((bH.f k x16 (rd x95 Qx)).bind fun t236=>(if t236=true then (if zP.length<17592186044416 then (aC.l4 k x0 x1 x8 sU x16 MX Qw CN x95 x96 (wrap64 (Qx+1)) (zP++[Qx]) Lq Lr) else (none)) else (aC.l4 k x0 x1 x8 sU x16 MX Qw CN x95 x96 (wrap64 (Qx+1)) zP Lq Lr))) else (none)) else (none)) else (if (zP.length:Int)>0 then (if sU.length<3518437208883 then (aC.l3 k x0 x1 x8 (sU++[(⟨zP,Lq,Lr⟩:cC)]) MX Qw (wrap64 (CN+1))) else (none)) else (aC.l3 k x0 x1 x8 sU MX Qw (wrap64 (CN+1))))
def aC.l5:Nat->List Int->List (List Int)->List (cC)->List (cC)->Int->Int->Option (Bool×Int×Int×(List (bV))×(List (bV)))
 |0,_,_,_,_,_,_=>none
 |k+1,x0,x1,x8,sU,b1c,a2h=>if a2h<b1c then (if sU.length<3518437208883 then (aC.l5 k x0 x1 x8 (sU++[(⟨(([a2h]:List Int)),false,0⟩:cC)]) b1c (wrap64 (a2h+1))) else (none)) else (if (x0.length:Int)=0 then ((bU.f k (x1.length:Int)).bind fun AZ=>(some (true,0,1,AZ,(([]:List (bV)))))) else ((dI.f k (x1.length:Int) x8 0 ([]:List (cC)) ([]:List (bV)) false).bind fun rI=>((dI.f k (x0.length:Int) sU 0 ([]:List (cC)) ([]:List (bV)) true).bind fun yx=>((bM.f k rI).bind fun xZ=>(some (true,xZ.1,xZ.2,rI,yx))))))
end
def aC.f (k:Nat) (l0:List Int) (l1:List (List Int)):Option (Bool×Int×Int×(List (bV))×(List (bV))):=(bG.f k l0 6).bind fun t208=>(if t208=true then (aC.j0 k l0 l1 (decide ((l1.length:Int)<=7))) else (aC.j0 k l0 l1 false))
theorem aC.cH:∀k,(∀y0 y1 y2,aW (aC.j0 k y0 y1 y2) (aC.j0 (k+1) y0 y1 y2))/\(∀y0 y1 y2 y3 y4 y5,aW (aC.l0 k y0 y1 y2 y3 y4 y5) (aC.l0 (k+1) y0 y1 y2 y3 y4 y5))/\(∀y0 y1 y2 y3 y4 y5,aW (aC.l1 k y0 y1 y2 y3 y4 y5) (aC.l1 (k+1) y0 y1 y2 y3 y4 y5))/\(∀y0 y1 y2 y3 y4 y5 y6 y7 y8 y9 IX Qy Qz,aW (aC.l2 k y0 y1 y2 y3 y4 y5 y6 y7 y8 y9 IX Qy Qz) (aC.l2 (k+1) y0 y1 y2 y3 y4 y5 y6 y7 y8 y9 IX Qy Qz))/\(∀y0 y1 y2 y3 y4 y5 y6,aW (aC.l3 k y0 y1 y2 y3 y4 y5 y6) (aC.l3 (k+1) y0 y1 y2 y3 y4 y5 y6))/\(∀y0 y1 y2 y3 y4 y5 y6 y7 y8 y9 IX Qy Qz y13,aW (aC.l4 k y0 y1 y2 y3 y4 y5 y6 y7 y8 y9 IX Qy Qz y13) (aC.l4 (k+1) y0 y1 y2 y3 y4 y5 y6 y7 y8 y9 IX Qy Qz y13))/\(∀y0 y1 y2 y3 y4 y5,aW (aC.l5 k y0 y1 y2 y3 y4 y5) (aC.l5 (k+1) y0 y1 y2 y3 y4 y5))
 |0=>⟨fun _ _ _ r h=>by simp [aC.j0] at h,fun _ _ _ _ _ _ r h=>by simp [aC.l0] at h,fun _ _ _ _ _ _ r h=>by simp [aC.l1] at h,fun _ _ _ _ _ _ _ _ _ _ _ _ _ r h=>by simp [aC.l2] at h,fun _ _ _ _ _ _ _ r h=>by simp [aC.l3] at h,fun _ _ _ _ _ _ _ _ _ _ _ _ _ _ r h=>by simp [aC.l4] at h,fun _ _ _ _ _ _ r h=>by simp [aC.l5] at h⟩
 |k+1=>by
  obtain ⟨dP,ih1,ih2,ih3,ih4,ih5,IY⟩:=aC.cH k
  refine ⟨?_,?_,?_,?_,?_,?_,?_⟩
  ·intro y0 y1 y2
   unfold aC.j0
   repeat' first
   |(with_reducible exact dP _ _ _)
   |(with_reducible exact ih1 _ _ _ _ _ _)
   |(with_reducible exact ih2 _ _ _ _ _ _)
   |(with_reducible exact ih3 _ _ _ _ _ _ _ _ _ _ _ _ _)
   |(with_reducible exact ih4 _ _ _ _ _ _ _)
   |(with_reducible exact ih5 _ _ _ _ _ _ _ _ _ _ _ _ _ _)
   |(with_reducible exact IY _ _ _ _ _ _)
   |(with_reducible exact dI.mono _ _ _ _ _ _ _)
   |(with_reducible exact bH.mono _ _ _)
   |(with_reducible exact bG.mono _ _ _)
   |(with_reducible exact bM.mono _ _)
   |(with_reducible exact bU.mono _ _)
   |(with_reducible exact aW.refl _)
   |(with_reducible exact aW.none _)
   |(with_reducible refine aW.ite ?_ ?_)
   |(with_reducible refine aW.bind ?_ (fun _=>?_))
  ·intro y0 y1 y2 y3 y4 y5
   unfold aC.l0
   repeat' first
   |(with_reducible exact dP _ _ _)
   |(with_reducible exact ih1 _ _ _ _ _ _)
   |(with_reducible exact ih2 _ _ _ _ _ _)
   |(with_reducible exact ih3 _ _ _ _ _ _ _ _ _ _ _ _ _)
   |(with_reducible exact ih4 _ _ _ _ _ _ _)
   |(with_reducible exact ih5 _ _ _ _ _ _ _ _ _ _ _ _ _ _)
   |(with_reducible exact IY _ _ _ _ _ _)
   |(with_reducible exact dI.mono _ _ _ _ _ _ _)
   |(with_reducible exact bH.mono _ _ _)
   |(with_reducible exact bG.mono _ _ _)
   |(with_reducible exact bM.mono _ _)
   |(with_reducible exact bU.mono _ _)
   |(with_reducible exact aW.refl _)
   |(with_reducible exact aW.none _)
   |(with_reducible refine aW.ite ?_ ?_)
   |(with_reducible refine aW.bind ?_ (fun _=>?_))
  ·intro y0 y1 y2 y3 y4 y5
   unfold aC.l1
   repeat' first
   |(with_reducible exact dP _ _ _)
   |(with_reducible exact ih1 _ _ _ _ _ _)
   |(with_reducible exact ih2 _ _ _ _ _ _)
   |(with_reducible exact ih3 _ _ _ _ _ _ _ _ _ _ _ _ _)
   |(with_reducible exact ih4 _ _ _ _ _ _ _)
   |(with_reducible exact ih5 _ _ _ _ _ _ _ _ _ _ _ _ _ _)
   |(with_reducible exact IY _ _ _ _ _ _)
   |(with_reducible exact dI.mono _ _ _ _ _ _ _)
   |(with_reducible exact bH.mono _ _ _)
   |(with_reducible exact bG.mono _ _ _)
   |(with_reducible exact bM.mono _ _)
   |(with_reducible exact bU.mono _ _)
   |(with_reducible exact aW.refl _)
   |(with_reducible exact aW.none _)
   |(with_reducible refine aW.ite ?_ ?_)
   |(with_reducible refine aW.bind ?_ (fun _=>?_))
  ·intro y0 y1 y2 y3 y4 y5 y6 y7 y8 y9 IX Qy Qz
   unfold aC.l2
   repeat' first
   |(with_reducible exact dP _ _ _)
   |(with_reducible exact ih1 _ _ _ _ _ _)
   |(with_reducible exact ih2 _ _ _ _ _ _)
   |(with_reducible exact ih3 _ _ _ _ _ _ _ _ _ _ _ _ _)
   |(with_reducible exact ih4 _ _ _ _ _ _ _)
   |(with_reducible exact ih5 _ _ _ _ _ _ _ _ _ _ _ _ _ _)
   |(with_reducible exact IY _ _ _ _ _ _)
   |(with_reducible exact dI.mono _ _ _ _ _ _ _)
   |(with_reducible exact bH.mono _ _ _)
   |(with_reducible exact bG.mono _ _ _)
   |(with_reducible exact bM.mono _ _)
   |(with_reducible exact bU.mono _ _)
   |(with_reducible exact aW.refl _)
   |(with_reducible exact aW.none _)
   |(with_reducible refine aW.ite ?_ ?_)
   |(with_reducible refine aW.bind ?_ (fun _=>?_))
  ·intro y0 y1 y2 y3 y4 y5 y6
   unfold aC.l3
   repeat' first
   |(with_reducible exact dP _ _ _)
   |(with_reducible exact ih1 _ _ _ _ _ _)
   |(with_reducible exact ih2 _ _ _ _ _ _)
   |(with_reducible exact ih3 _ _ _ _ _ _ _ _ _ _ _ _ _)
   |(with_reducible exact ih4 _ _ _ _ _ _ _)
   |(with_reducible exact ih5 _ _ _ _ _ _ _ _ _ _ _ _ _ _)
   |(with_reducible exact IY _ _ _ _ _ _)
   |(with_reducible exact dI.mono _ _ _ _ _ _ _)
   |(with_reducible exact bH.mono _ _ _)
   |(with_reducible exact bG.mono _ _ _)
   |(with_reducible exact bM.mono _ _)
   |(with_reducible exact bU.mono _ _)
   |(with_reducible exact aW.refl _)
   |(with_reducible exact aW.none _)
   |(with_reducible refine aW.ite ?_ ?_)
   |(with_reducible refine aW.bind ?_ (fun _=>?_))
  ·intro y0 y1 y2 y3 y4 y5 y6 y7 y8 y9 IX Qy Qz y13
   unfold aC.l4
   repeat' first
   |(with_reducible exact dP _ _ _)
   |(with_reducible exact ih1 _ _ _ _ _ _)
   |(with_reducible exact ih2 _ _ _ _ _ _)
   |(with_reducible exact ih3 _ _ _ _ _ _ _ _ _ _ _ _ _)
   |(with_reducible exact ih4 _ _ _ _ _ _ _)
   |(with_reducible exact ih5 _ _ _ _ _ _ _ _ _ _ _ _ _ _)
   |(with_reducible exact IY _ _ _ _ _ _)
   |(with_reducible exact dI.mono _ _ _ _ _ _ _)
   |(with_reducible exact bH.mono _ _ _)
   |(with_reducible exact bG.mono _ _ _)
   |(with_reducible exact bM.mono _ _)
   |(with_reducible exact bU.mono _ _)
   |(with_reducible exact aW.refl _)
   |(with_reducible exact aW.none _)
   |(with_reducible refine aW.ite ?_ ?_)
   |(with_reducible refine aW.bind ?_ (fun _=>?_))
  ·intro y0 y1 y2 y3 y4 y5
   unfold aC.l5
   repeat' first
   |(with_reducible exact dP _ _ _)
   |(with_reducible exact ih1 _ _ _ _ _ _)
   |(with_reducible exact ih2 _ _ _ _ _ _)
   |(with_reducible exact ih3 _ _ _ _ _ _ _ _ _ _ _ _ _)
   |(with_reducible exact ih4 _ _ _ _ _ _ _)
   |(with_reducible exact ih5 _ _ _ _ _ _ _ _ _ _ _ _ _ _)
   |(with_reducible exact IY _ _ _ _ _ _)
   |(with_reducible exact dI.mono _ _ _ _ _ _ _)
   |(with_reducible exact bH.mono _ _ _)
   |(with_reducible exact bG.mono _ _ _)
   |(with_reducible exact bM.mono _ _)
   |(with_reducible exact bU.mono _ _)
   |(with_reducible exact aW.refl _)
   |(with_reducible exact aW.none _)
   |(with_reducible refine aW.ite ?_ ?_)
   |(with_reducible refine aW.bind ?_ (fun _=>?_))
theorem aC.mono:∀a0 a1 k,aW (aC.f k a0 a1) (aC.f (k+1) a0 a1):=by
 intro a0 a1 k
 obtain ⟨dP,ih1,ih2,ih3,ih4,ih5,IY⟩:=aC.cH k
 unfold aC.f
 repeat' first
  |(with_reducible exact dP _ _ _)
  |(with_reducible exact ih1 _ _ _ _ _ _)
  |(with_reducible exact ih2 _ _ _ _ _ _)
  |(with_reducible exact ih3 _ _ _ _ _ _ _ _ _ _ _ _ _)
  |(with_reducible exact ih4 _ _ _ _ _ _ _)
  |(with_reducible exact ih5 _ _ _ _ _ _ _ _ _ _ _ _ _ _)
  |(with_reducible exact IY _ _ _ _ _ _)
  |(with_reducible exact dI.mono _ _ _ _ _ _ _)
  |(with_reducible exact bH.mono _ _ _)
  |(with_reducible exact bG.mono _ _ _)
  |(with_reducible exact bM.mono _ _)
  |(with_reducible exact bU.mono _ _)
  |(with_reducible exact aW.refl _)
  |(with_reducible exact aW.none _)
  |(with_reducible refine aW.ite ?_ ?_)
  |(with_reducible refine aW.bind ?_ (fun _=>?_))
set_option maxHeartbeats 8000000 in
set_option maxRecDepth 100000 in
theorem aC.calls (k:Nat) (A0:Option Addr) (c0:Nat) (l0:List Int) (A1:Option Addr) (c1:Nat) (l1:List (List Int)) (r1:Bool) (r2:Int) (r3:Int) (r4:List (bV)) (r5:List (bV)) (w:World) (fE:Kd.C (Kd.int .i64) w A0 l0.length l0) (hc0:l0.length<=c0) (hr1:Kd.C (Kd.slice 3 (Kd.int .i64)) w A1 l1.length l1) (hc1:l1.length<=c1) (h:aC.f k l0 l1=some (r1,r2,r3,r4,r5)):
 Calls Try.prog 6 #[.slice A0 l0.length c0,.slice A1 l1.length c1] w fun e w'=>∃v3_ v4_:Value,e= .returned (.agg #[.bool r1,.int .i64 r2,.int .i64 r3,v3_,v4_])/\Kd.R fD 26 w' w.heap.size (fun k_=>some k_≠(v4_:Value).ownBlock) v3_ r4/\Kd.R fD 26 w' w.heap.size (fun k_=>some k_≠(v3_:Value).ownBlock) v4_ r5/\Below w.heap.size w w':=by
 have a0E:=Try.underlying29
 have b7X:=Try.underlying49
 have lY:=Try.underlying26
 have eL:=Aside0.mk fE
 have kB:=Aside0.mk hc0
 clear fE hc0
 have gV:=Aside0.mk hr1
 have iJ:=Aside0.mk hc1
 clear hr1 hc1
 have HB:=Aside0.mk (Below.refl w.heap.size w)
 have H:((bG.f k l0 6).bind fun t208=>(if t208=true then (aC.j0 k l0 l1 (decide ((l1.length:Int)<=7))) else (aC.j0 k l0 l1 false)))=some (r1,r2,r3,r4,r5):=h
 clear h
 have Bu:=Aside0.mk H
 clear H
 go_enter Try.func6,Try.ntmps6
 go_upto_region 1 with (first|((with_reducible refine bk (N:=4) rfl ?_);(try (refine gU (by rfl) ?_;dsimp only));refine bp ?hg (N:=4) ?hd (cs:= #[.bool false,.int .i64 0,.int .i64 0,.slice none 0 0,.slice none 0 0]) (t:=29) ?hr ?_;(case hd=>rfl);(case hg=>rfl);(case hr=>first|(go_simp;done)|(go_simp;rfl));intro cA hg w4 aU hb;have ay:=Aside0.mk (ai ax hb);have aA:=Aside0.mk (aU);have aD:=Aside0.mk ((by rw [hg];exact (av ax):w.heap.size<=cA));have aR:=Aside0.mk ((by rw [hg];exact (av ax):w.heap.size<=cA));clear HB;have HB:=ay;have bC:=aA;have GW207:=aD;have GE207:=aR;clear ay aA aD aR;clear hb aU hg))
 (try simp only [Act.put,List.setIfInBounds_toArray,List.set_cons_zero,List.set_cons_succ])
 go_cut [5] (fun v5 wc=>∃(kq:Nat) (yy:Bool),v5= .bool yy/\Aside0 (aC.j0 kq l0 l1 yy=some (r1,r2,r3,r4,r5))/\Aside0 (kq<=k)/\Aside0 (wc.heap[cA]? =some (.cells #[.bool false,.int .i64 0,.int .i64 0,(.slice none 0 0),(.slice none 0 0)] 29 (0,0)))/\Aside0 (Below w.heap.size w wc))
 case first=>
  have H:=Bu.out
  clear Bu
  replace H:=Option.bind_eq_some_iff.mp H
  obtain ⟨t208,xM,H⟩:=H
  replace H:(if t208=true then (aC.j0 k l0 l1 (decide ((l1.length:Int)<=7))) else (aC.j0 k l0 l1 false))=some (r1,r2,r3,r4,r5):=H
  have A5:=Aside0.mk xM
  clear xM
  by_cases c6:t208=true
  ·subst c6
   have H1:(aC.j0 k l0 l1 (decide ((l1.length:Int)<=7)))=some (r1,r2,r3,r4,r5):=by rw [if_pos rfl] at H;exact H
   clear H
   have H:=H1
   clear H1
   have H':=Aside0.mk H
   clear H
   go_wp2_with (first|((with_reducible refine aZ (f:=22) rfl ?_);refine bO (some 24) rfl rfl Try.func22 (by kernel_rfl) rfl #[.slice A0 l0.length c0,.int .i64 6] rfl (by (try simp only [List.map_toArray,List.map_cons,List.map_nil]);first|done|rfl|(simp only [List.length_drop,List.length_take];rfl)) ?_;(with_reducible refine (bG.calls k _ _ l0 6 true _ ?bX ?bY A5.out).mono ?_);(case bX=>repeat (first|exact (Kd.bQ eL.out HB.out)|(with_reducible refine Kd.cO ?_ _)|(with_reducible refine Kd.cP ?_ _)|(with_reducible refine Kd.dw ?_)));(case bY=>exact kB.out);rintro e w' ⟨rfl,⟨nd,rfl⟩⟩;refine ⟨_,rfl,?_⟩))
   go_meet
   case rel=>exact ⟨_,(decide ((l1.length:Int)<=7)),(by first|rfl|(simp;done)|(simp [*];done)),H',⟨by first|omega|exact Nat.le_refl _⟩,⟨by (with_reducible repeat (first|refine au ?_ _|refine ak ?_|refine aq ?_ _));exact bC.out⟩,⟨ax⟩⟩
  ·replace c6:=Bool.eq_false_iff.mpr c6
   subst c6
   have H1:(aC.j0 k l0 l1 false)=some (r1,r2,r3,r4,r5):=by rw [if_neg (show ¬(false=true) by decide)] at H;exact H
   clear H
   have H:=H1
   clear H1
   have H':=Aside0.mk H
   clear H
   go_wp2_with (first|((with_reducible refine aZ (f:=22) rfl ?_);refine bO (some 24) rfl rfl Try.func22 (by kernel_rfl) rfl #[.slice A0 l0.length c0,.int .i64 6] rfl (by (try simp only [List.map_toArray,List.map_cons,List.map_nil]);first|done|rfl|(simp only [List.length_drop,List.length_take];rfl)) ?_;(with_reducible refine (bG.calls k _ _ l0 6 false _ ?bX ?bY A5.out).mono ?_);(case bX=>repeat (first|exact (Kd.bQ eL.out HB.out)|(with_reducible refine Kd.cO ?_ _)|(with_reducible refine Kd.cP ?_ _)|(with_reducible refine Kd.dw ?_)));(case bY=>exact kB.out);rintro e w' ⟨rfl,⟨nd,rfl⟩⟩;refine ⟨_,rfl,?_⟩))
   go_meet
   case rel=>exact ⟨_,(false),(by first|rfl|(simp;done)|(simp [*];done)),H',⟨by first|omega|exact Nat.le_refl _⟩,⟨by (with_reducible repeat (first|refine au ?_ _|refine ak ?_|refine aq ?_ _));exact bC.out⟩,⟨ax⟩⟩
 case rest=>
  clear Bu
  try clear c1
  try clear c2
  try clear p2
  try clear c6
  obtain ⟨kq,yy,rfl,HA,rV,bC,HB⟩:=hcut
  cases kq with
  |zero=>exact absurd HA.out (by simp [aC.j0])
  |succ kj2=>
   have H:=HA.out
   clear HA
   simp only [aC.j0] at H
   have H':=Aside0.mk H
   clear H
   go_wp2
   go_loopg [5,32] kj2 (fun kq v5 v32 w'=>∃(yy:Bool) (jO:Int),v5= .bool yy/\v32= .int .i64 jO/\Aside0 (aC.l0 kq l0 l1 yy l1 (l1.length:Int) jO=some (r1,r2,r3,r4,r5))/\Aside0 (kq<=kj2)/\Aside0 (w'.heap[cA]? =some (.cells #[.bool false,.int .i64 0,.int .i64 0,(.slice none 0 0),(.slice none 0 0)] 29 (0,0)))/\Aside0 (Below w.heap.size w w'))
   case atStart=>exact ⟨(yy),(0),(by first|rfl|(simp;done)|(simp [*];done)),(by first|rfl|(simp;done)|(simp [*];done)),H',⟨Nat.le_refl _⟩,⟨by (with_reducible repeat (first|refine au ?_ _|refine ak ?_|refine aq ?_ _));exact bC.out⟩,⟨ax⟩⟩
   case round=>
    clear H'
    try clear c1
    try clear c2
    try clear p2
    try clear c6
    try clear p2
    obtain ⟨yy,jO,rfl,rfl,HA,qJ,bC,HB⟩:=hrel
    cases gk with
    |zero=>exact absurd HA.out (by simp [aC.l0])
    |succ k2=>
     have H:=HA.out
     clear HA
     simp only [aC.l0] at H
     by_cases c7:jO<(l1.length:Int)
     ·rw [if_pos c7] at H
      have si:decide (jO<(l1.length:Int))=true:=decide_eq_true c7
      clear c7
      by_cases c8:0<=jO
      ·rw [if_pos c8] at H
       have td:decide (0<=jO)=true:=decide_eq_true c8
       clear c8
       by_cases c9:jO<(l1.length:Int)
       ·rw [if_pos c9] at H
        have Fg:decide (jO<(l1.length:Int))=true:=decide_eq_true c9
        clear c9
        by_cases c10:yy=true
        ·subst c10
         have H1:((bG.f k2 (eu l1 jO) 6).bind fun t210=>(aC.l0 k2 l0 l1 t210 l1 (l1.length:Int) (wrap64 (jO+1))))=some (r1,r2,r3,r4,r5):=by rw [if_pos rfl] at H;exact H
         clear H
         have H:=H1
         clear H1
         replace H:=Option.bind_eq_some_iff.mp H
         obtain ⟨t210,OI,H⟩:=H
         replace H:(aC.l0 k2 l0 l1 t210 l1 (l1.length:Int) (wrap64 (jO+1)))=some (r1,r2,r3,r4,r5):=H
         have WK:=Aside0.mk OI
         clear OI
         have H':=Aside0.mk H
         clear H
         have vz:0<=(jO:Int):=of_decide_eq_true (by first|(with_reducible assumption)|assumption)
         have vA:jO<(l1.length:Int):=of_decide_eq_true (by first|(with_reducible assumption)|assumption)
         obtain ⟨b4j,b1g,b1h,a2i,mD,zQ,zR⟩:=qP gV.out jO vz vA
         cases a2i
         replace mD:=(HB.out.cell (World.block_lt_of_cell? w _ mD)).trans mD
         have Tp:=Aside0.mk zR
         have Tq:=Aside0.mk zQ
         clear zR zQ
         replace vz:=eq_true vz
         replace vA:=eq_true vA
         go_wp2_with (first|(go_at_call 22;(with_reducible refine (bG.calls k2 _ _ (eu l1 jO) 6 t210 _ ?bX ?bY WK.out).mono ?_);(case bX=>repeat (first|exact (Kd.bQ Tp.out HB.out)|(with_reducible refine Kd.cO ?_ _)|(with_reducible refine Kd.cP ?_ _)|(with_reducible refine Kd.dw ?_)));(case bY=>exact Tq.out);rintro e w' ⟨rfl,⟨nd,rfl⟩⟩))
         go_roundg k2
         case measure=>have:=rV.out;have:=qJ.out;omega
         case rel=>exact ⟨(t210),(wrap64 (jO+1)),(by first|rfl|(simp;done)|(simp [*];done)),(by first|rfl|(simp;done)|(simp [*];done)),H',⟨by have:=rV.out;have:=qJ.out;omega⟩,⟨by (with_reducible repeat (first|refine au ?_ _|refine ak ?_|refine aq ?_ _));exact bC.out⟩,⟨ax⟩⟩
        ·replace c10:=Bool.eq_false_iff.mpr c10
         subst c10
         have H1:(aC.l0 k2 l0 l1 false l1 (l1.length:Int) (wrap64 (jO+1)))=some (r1,r2,r3,r4,r5):=by rw [if_neg (show ¬(false=true) by decide)] at H;exact H
         clear H
         have H:=H1
         clear H1
         have H':=Aside0.mk H
         clear H
         have vz:0<=(jO:Int):=of_decide_eq_true (by first|(with_reducible assumption)|assumption)
         have vA:jO<(l1.length:Int):=of_decide_eq_true (by first|(with_reducible assumption)|assumption)
         obtain ⟨b4j,b1g,b1h,a2i,mD,zQ,zR⟩:=qP gV.out jO vz vA
         cases a2i
         replace mD:=(HB.out.cell (World.block_lt_of_cell? w _ mD)).trans mD
         have Tp:=Aside0.mk zR
         have Tq:=Aside0.mk zQ
         clear zR zQ
         replace vz:=eq_true vz
         replace vA:=eq_true vA
         go_wp2
         go_roundg k2
         case measure=>have:=rV.out;have:=qJ.out;omega
         case rel=>exact ⟨(false),(wrap64 (jO+1)),(by first|rfl|(simp;done)|(simp [*];done)),(by first|rfl|(simp;done)|(simp [*];done)),H',⟨by have:=rV.out;have:=qJ.out;omega⟩,⟨by (with_reducible repeat (first|refine au ?_ _|refine ak ?_|refine aq ?_ _));exact bC.out⟩,⟨ax⟩⟩
       ·rw [if_neg c9] at H
        exact absurd H (by simp)
      ·rw [if_neg c8] at H
       exact absurd H (by simp)
     ·rw [if_neg c7] at H
      have si:decide (jO<(l1.length:Int))=false:=decide_eq_false c7
      clear c7
      by_cases c12:yy=true
      ·subst c12
       have H1:(aC.l1 k2 l0 l1 (([]:List (cC))) l0 (l0.length:Int) 0)=some (r1,r2,r3,r4,r5):=by rw [if_pos rfl] at H;exact H
       clear H
       have H:=H1
       clear H1
       obtain ⟨b1i,IZ⟩:∃y_:List (cC),y_=(([]:List (cC))):=⟨_,rfl⟩
       replace H:(aC.l1 k2 l0 l1 b1i l0 (l0.length:Int) 0)=some (r1,r2,r3,r4,r5):=by first|(rw [IZ];with_reducible exact H)|(have dK:=(Option.bind_some _ _).symm.trans H;rw [IZ];with_reducible exact dK)|(have dK:=(Option.bind_some _ _).symm.trans H;with_reducible exact dK)|with_reducible exact H|(rw [IZ];exact H)|exact H
       have a4H:=Aside0.mk IZ
       clear IZ
       have H':=Aside0.mk H
       clear H
       go_wp2_with (first|((with_reducible refine bk (N:=45) rfl ?_);(try (refine gU (by rfl) ?_;dsimp only));refine Kd.a2Q jh _ 49 ?hg (N:=45) ?hd (xs:=([]:List (cC))) (inner:=[]) (ok:=fun _=>True) (fN:=fun _=>True) ?hr ?hp (fun _ hk=>hk) trivial (Below.refl _ _) (Nat.le_refl _) (by simp) ?_;(case hd=>rfl);(case hg=>rfl);(case hr=>first|(go_simp;done)|(go_simp;rfl));(case hp=>exact (cT.none _ _));intro v212 nY QA hb uw mG;clear uw mG;(first|rw [<-a4H.out] at QA|(simp only [Int.reduceToNat] at QA;rw [<-a4H.out] at QA));have ay:=Aside0.mk (Kd.JE QA (av ax));have aA:=Aside0.mk (ah (g:=cA) (o:= .cells #[.bool false,.int .i64 0,.int .i64 0,.slice none 0 0,.slice none 0 0] 29 (0,0)) (aJ bC) hb);have aD:=Aside0.mk (ai ax hb);clear bC;clear HB;have b4k:=ay;have bC:=aA;have HB:=aD;clear ay aA aD;clear hb QA))
       go_loopg [8,48] k2 (fun kq v8 v48 w'=>∃(qA:List (cC)) (gJ:Int) (dh:Bool) (cS:Int) (cI:Int),v48= .int .i64 gJ/\Aside0 (aC.l1 kq l0 l1 qA l0 (l0.length:Int) gJ=some (r1,r2,r3,r4,r5))/\Aside0 (kq<=k2)/\Aside0 (Kd.S jh 49 w' w.heap.size (fun _=>True) v8 qA)/\Aside0 (w'.heap[cA]? =some (.cells #[.bool dh,.int .i64 cS,.int .i64 cI,(.slice none 0 0),(.slice none 0 0)] 29 (0,0)))/\Aside0 (Below w.heap.size w w'))
       case atStart=>exact ⟨(b1i),(0),(false),(0),(0),(by first|rfl|(simp;done)|(simp [*];done)),H',⟨Nat.le_refl _⟩,⟨by (with_reducible repeat (first|apply Kd.cg|apply Kd.cj|apply Kd.cJ));exact b4k.out⟩,⟨by (with_reducible repeat (first|refine au ?_ _|refine ak ?_|refine aq ?_ _));exact bC.out⟩,⟨ax⟩⟩
       case round=>
        clear H'
        try clear c1
        try clear c2
        try clear p2
        try clear q2
        try clear hx2
        try clear c6
        try clear p6
        try clear c7
        try clear si
        try clear c8
        try clear td
        try clear c9
        try clear Fg
        try clear c10
        try clear c12
        try clear mD
        try clear p2
        try clear vz
        try clear vA
        obtain ⟨qA,gJ,dh,cS,cI,rfl,HA,vL,cY,bC,HB⟩:=hrel
        cases gk with
        |zero=>exact absurd HA.out (by simp [aC.l1])
        |succ k3=>
         have H:=HA.out
         clear HA
         simp only [aC.l1] at H
         by_cases c15:gJ<(l0.length:Int)
         ·rw [if_pos c15] at H
          have Ja:decide (gJ<(l0.length:Int))=true:=decide_eq_true c15
          clear c15
          by_cases c16:0<=gJ
          ·rw [if_pos c16] at H
           have NI:decide (0<=gJ)=true:=decide_eq_true c16
           clear c16
           by_cases c17:gJ<(l0.length:Int)
           ·rw [if_pos c17] at H
            have NJ:decide (gJ<(l0.length:Int))=true:=decide_eq_true c17
            clear c17
            have H':=Aside0.mk H
            clear H
            have Gk:0<=(gJ:Int):=of_decide_eq_true (by first|(with_reducible assumption)|assumption)
            have Gl:gJ<(l0.length:Int):=of_decide_eq_true (by first|(with_reducible assumption)|assumption)
            obtain ⟨ad214,b8F,tQ⟩:=Kd.fC eL.out gJ Gk Gl
            cases b8F
            replace tQ:=(HB.out.cell (World.block_lt_of_cell? w _ tQ)).trans tQ
            replace Gk:=eq_true Gk
            replace Gl:=eq_true Gl
            go_wp2_with (first|((with_reducible refine bk (N:=11) rfl ?_);(try (refine gU (by rfl) ?_;dsimp only));refine bp ?hg (N:=11) ?hd (cs:= #[.slice none 0 0,.bool false,.int .i64 0]) (t:=49) ?hr ?_;(case hd=>rfl);(case hg=>rfl);(case hr=>first|(go_simp;done)|(go_simp;rfl));intro fz hg CL aU hb;have ay:=Aside0.mk (Kd.jU (Kd.EZ (by (with_reducible repeat (first|apply Kd.cg|apply Kd.cj|apply Kd.cJ));exact cY.out) fz (Nat.le_of_eq hg.symm)) hb);have aA:=Aside0.mk (ah (g:=cA) (o:= .cells #[.bool dh,.int .i64 cS,.int .i64 cI,.slice none 0 0,.slice none 0 0] 29 (0,0)) (aJ bC) hb);have aD:=Aside0.mk (ai ax hb);have aR:=Aside0.mk (aU);have bK:=Aside0.mk ((by rw [hg];exact (av ax):w.heap.size<=fz));have bT:=Aside0.mk ((by rw [hg];exact (av ax):w.heap.size<=fz));have cm:=Aside0.mk ((by rw [hg];exact Nat.ne_of_lt (aY (g:=cA) (o:= .cells #[.bool dh,.int .i64 cS,.int .i64 cI,.slice none 0 0,.slice none 0 0] 29 (0,0)) (aJ bC)):cA≠fz));have iP:=Aside0.mk ((by rw [hg];exact Nat.ne_of_gt (aY (g:=cA) (o:= .cells #[.bool dh,.int .i64 cS,.int .i64 cI,.slice none 0 0,.slice none 0 0] 29 (0,0)) (aJ bC)):fz≠cA));clear cY;clear bC;clear HB;have cY:=ay;have bC:=aA;have HB:=aD;have ez:=aR;have GW215:=bK;have GE215:=bT;have og:=cm;have ya:=iP;clear ay aA aD aR bK bT cm iP;clear hb aU hg;have hnb19:=ya.out;have hnc19:=og.out;have zC:CL.cell? ⟨fz,0,none⟩=some (.slice none 0 0):=(ag ez.out 0).trans rfl;have zD:CL.cell? ⟨fz,1,none⟩=some (.bool false):=(ag ez.out 1).trans rfl;have Eb:CL.cell? ⟨fz,2,none⟩=some (.int .i64 0):=(ag ez.out 2).trans rfl;have zE:=aa ez.out 0;have zF:=aa ez.out 1;have Ec:=aa ez.out 2))
            go_loopg [55] k3 (fun kq v55 w'=>∃(gu:Int) (ek:List Int) (u216000:Value),v55= .int .i64 gu/\Aside0 (aC.l2 kq l0 l1 qA (rd l0 gJ) l0 (l0.length:Int) gJ l1 (l1.length:Int) gu ek false 1=some (r1,r2,r3,r4,r5))/\Aside0 (kq<=k3)/\Aside0 (Kd.S jh 49 w' w.heap.size (fun k_=>some k_≠(u216000:Value).ownBlock/\k_≠fz) u8 qA)/\Aside0 (Kd.R (Kd.int .i64) 3 w' w.heap.size (fun _=>True) u216000 ek)/\Aside0 (w'.heap[cA]? =some (.cells #[.bool dh,.int .i64 cS,.int .i64 cI,(.slice none 0 0),(.slice none 0 0)] 29 (0,0)))/\Aside0 (w'.heap[fz]? =some (.cells #[u216000,.bool false,.int .i64 1] 49 (0,0)))/\Aside0 (Below w.heap.size w w'))
            case atStart=>exact ⟨(0),(([]:List Int)),(.slice none 0 0),(by first|rfl|(simp;done)|(simp [*];done)),H',⟨Nat.le_refl _⟩,⟨by (with_reducible repeat (first|apply Kd.cg|apply Kd.cj|apply Kd.cJ));exact Kd.eR (Kd.qO (p:=⟨fz,2,none⟩) (Kd.qO (p:=⟨fz,1,none⟩) (Kd.qO (p:=⟨fz,0,none⟩) (Kd.eR cY.out (fun k_ hk=>(⟨hk,hk.2⟩:_/\k_≠fz))) (fun _ hk=>hk.2) (.slice none 0 0)) (fun _ hk=>hk.2) (.bool false)) (fun _ hk=>hk.2) (.int .i64 1)) (fun _ hk=>⟨(by simp [Value.ownBlock]),hk.1.2⟩)⟩,⟨by first|exact Kd.rX _ _ _ _ _|exact Kd.Di _ _ _ _ _|exact Kd.Dj _ _ _ _ _|exact Kd.Dh _ _ _ _ _|exact Kd.Ai _ _ _ _ _⟩,⟨by (with_reducible repeat (first|refine au ?_ _|refine ak ?_|refine aq ?_ _));refine di ?_ og.out _;(with_reducible repeat (first|refine au ?_ _|refine ak ?_|refine aq ?_ _));refine di ?_ og.out _;(with_reducible repeat (first|refine au ?_ _|refine ak ?_|refine aq ?_ _));refine di ?_ og.out _;(with_reducible repeat (first|refine au ?_ _|refine ak ?_|refine aq ?_ _));exact bC.out⟩,⟨by (with_reducible repeat (first|refine au ?_ _|refine ak ?_|refine aq ?_ _));refine aX (cs:= #[.slice none 0 0,.bool false,.int .i64 0]) ?_ 2 _ rfl;(with_reducible repeat (first|refine au ?_ _|refine ak ?_|refine aq ?_ _));refine aX (cs:= #[.slice none 0 0,.bool false,.int .i64 0]) ?_ 1 _ rfl;(with_reducible repeat (first|refine au ?_ _|refine ak ?_|refine aq ?_ _));refine aX (cs:= #[.slice none 0 0,.bool false,.int .i64 0]) ?_ 0 _ rfl;(with_reducible repeat (first|refine au ?_ _|refine ak ?_|refine aq ?_ _));exact ez.out⟩,⟨ax⟩⟩
            case round=>
             clear H'
             try clear c1
             try clear c2
             try clear p2
             try clear q2
             try clear hx2
             try clear c6
             try clear p6
             try clear c7
             try clear si
             try clear c8
             try clear td
             try clear c9
             try clear Fg
             try clear c10
             try clear c12
             try clear c15
             try clear Ja
             try clear c16
             try clear NI
             try clear c17
             try clear NJ
             try clear c19
             try clear c20
             try clear Ts
             try clear Tt
             try clear a2j
             try clear zC
             try clear zD
             try clear Eb
             try clear zE
             try clear zF
             try clear Ec
             try clear mD
             try clear tQ
             try clear p2
             try clear vz
             try clear Gk
             try clear p6
             try clear q2
             try clear vA
             try clear Gl
             obtain ⟨gu,ek,u216000,rfl,HA,uR,cY,jx,bC,ez,HB⟩:=hrel
             cases gk with
             |zero=>exact absurd HA.out (by simp [aC.l2])
             |succ k4=>
              have H:=HA.out
              clear HA
              simp only [aC.l2] at H
              by_cases Jb:gu<(l1.length:Int)
              ·rw [if_pos Jb] at H
               have NK:decide (gu<(l1.length:Int))=true:=decide_eq_true Jb
               clear Jb
               by_cases QB:0<=gu
               ·rw [if_pos QB] at H
                have VI:decide (0<=gu)=true:=decide_eq_true QB
                clear QB
                by_cases QD:gu<(l1.length:Int)
                ·rw [if_pos QD] at H
                 have VJ:decide (gu<(l1.length:Int))=true:=decide_eq_true QD
                 clear QD
                 replace H:=Option.bind_eq_some_iff.mp H
                 obtain ⟨VH,b1j,H⟩:=H
                 replace H:(if VH=true then (if ek.length<17592186044416 then (aC.l2 k4 l0 l1 qA (rd l0 gJ) l0 (l0.length:Int) gJ l1 (l1.length:Int) (wrap64 (gu+1)) (ek++[gu]) false 1) else (none)) else (aC.l2 k4 l0 l1 qA (rd l0 gJ) l0 (l0.length:Int) gJ l1 (l1.length:Int) (wrap64 (gu+1)) ek false 1))=some (r1,r2,r3,r4,r5):=H
                 have A24:=Aside0.mk b1j
                 clear b1j
                 by_cases QE:VH=true
                 ·subst QE
                  have H1:(if ek.length<17592186044416 then (aC.l2 k4 l0 l1 qA (rd l0 gJ) l0 (l0.length:Int) gJ l1 (l1.length:Int) (wrap64 (gu+1)) (ek++[gu]) false 1) else (none))=some (r1,r2,r3,r4,r5):=by rw [if_pos rfl] at H;exact H
                  clear H
                  have H:=H1
                  clear H1
                  by_cases MF:ek.length<17592186044416
                  ·rw [if_pos MF] at H
                   have b4l:=Aside0.mk MF
                   clear MF
                   obtain ⟨QF,Jc⟩:∃y_:List Int,y_=(ek++[gu]):=⟨_,rfl⟩
                   replace H:(aC.l2 k4 l0 l1 qA (rd l0 gJ) l0 (l0.length:Int) gJ l1 (l1.length:Int) (wrap64 (gu+1)) QF false 1)=some (r1,r2,r3,r4,r5):=by first|(rw [Jc];with_reducible exact H)|(have dK:=(Option.bind_some _ _).symm.trans H;rw [Jc];with_reducible exact dK)|(have dK:=(Option.bind_some _ _).symm.trans H;with_reducible exact dK)|with_reducible exact H|(rw [Jc];exact H)|exact H
                   have b4m:=Aside0.mk Jc
                   clear Jc
                   have H':=Aside0.mk H
                   clear H
                   have yz:0<=(gu:Int):=of_decide_eq_true (by first|(with_reducible assumption)|assumption)
                   have yA:gu<(l1.length:Int):=of_decide_eq_true (by first|(with_reducible assumption)|assumption)
                   obtain ⟨b4n,QG,QH,e216,oN,zS,zT⟩:=qP gV.out gu yz yA
                   cases e216
                   replace oN:=(HB.out.cell (World.block_lt_of_cell? w _ oN)).trans oN
                   have Ls:=Aside0.mk zT
                   have Lt:=Aside0.mk zS
                   clear zT zS
                   replace yz:=eq_true yz
                   replace yA:=eq_true yA
                   go_wp2_with (first|((with_reducible refine aZ (f:=23) rfl ?_);refine bO (some 62) rfl rfl Try.func23 (by kernel_rfl) rfl #[.slice QG (eu l1 gu).length QH,.int .i64 (rd l0 gJ)] rfl (by (try simp only [List.map_toArray,List.map_cons,List.map_nil]);first|done|rfl|(simp only [List.length_drop,List.length_take];rfl)) ?_;(with_reducible refine (bH.calls k4 _ _ (eu l1 gu) (rd l0 gJ) true _ ?bX ?bY A24.out).mono ?_);(case bX=>repeat (first|exact (Kd.bQ Ls.out HB.out)|(with_reducible refine Kd.cO ?_ _)|(with_reducible refine Kd.cP ?_ _)|(with_reducible refine Kd.dw ?_)));(case bY=>exact Lt.out);rintro e w' ⟨rfl,⟨nd,rfl⟩⟩;refine ⟨_,rfl,?_⟩;(try (rw [iC wr];generalize fY:World.drewN wr _=wr;have ay:Aside0 (Kd.R (Kd.int .i64) 3 wr w.heap.size (fun _=>True) u216000 ek):=⟨by rw [<-fY];exact (by (with_reducible repeat (first|apply Kd.cF|apply Kd.dm|apply Kd.dO));exact jx.out)⟩;have aA:Aside0 (Kd.S jh 49 wr w.heap.size (fun k_=>some k_≠(u216000:Value).ownBlock/\k_≠fz) u8 qA):=⟨by rw [<-fY];exact (by (with_reducible repeat (first|apply Kd.cg|apply Kd.cj|apply Kd.cJ));exact cY.out)⟩;have aD:Aside0 (wr.heap[cA]? =some (.cells #[.bool dh,.int .i64 cS,.int .i64 cI,.slice none 0 0,.slice none 0 0] 29 (0,0))):=⟨by rw [<-fY];exact (aJ bC)⟩;have aR:Aside0 (wr.heap[fz]? =some (.cells #[u216000,.bool false,.int .i64 1] 49 (0,0))):=⟨by rw [<-fY];exact (aJ ez)⟩;have bK:Aside0 (Below w.heap.size w wr):=⟨by rw [<-fY];exact ax⟩;clear jx cY bC ez HB fY;have jx:=ay;have cY:=aA;have bC:=aD;have ez:=aR;have HB:=bK;clear ay aA aD aR bK));have b4o:=ya.out;have b4p:=og.out;have tJ:wr.cell? ⟨fz,0,none⟩=some (u216000):=(ag ez.out 0).trans rfl;have tK:wr.cell? ⟨fz,1,none⟩=some (.bool false):=(ag ez.out 1).trans rfl;have Lu:wr.cell? ⟨fz,2,none⟩=some (.int .i64 1):=(ag ez.out 2).trans rfl;have tL:=aa ez.out 0;have tM:=aa ez.out 1;have Lv:=aa ez.out 2)|((with_reducible refine cK (b:= .append) (xs:= #[.tmp 64,.tmp 66]) rfl ?_);(try (refine gU (by rfl) ?_;dsimp only));at_builtin;refine Kd.fB (Kd.int .i64) (w0:=w) w.heap.size rfl (.tmp 64) (.tmp 66) 22 3 (.int .i64 0) 8 rfl Try.underlying22 info3 rfl (by decide) (by omega) u216000 ek gu [.int .i64 gu] (fun _=>True) (fun _=>False) rfl rfl ?aP (fun _ hk=>hk.elim) ?aF ?aO ?aB ?aS ?aL ?_;(case aP=>exact rfl);(case aB=>exact ax);(case aF=>exact (fun _ _=>trivial));(case aO=>exact (by (with_reducible repeat (first|apply Kd.cF|apply Kd.dm|apply Kd.dO));exact jx.out));(case aS=>exact (av ax));(case aL=>have:=b4l.out;omega);intro v219 w29 ho hb hg hat;rw [<-b4m.out] at ho;have ay:=Aside0.mk (Kd.wh (ok:=(fun k_=>k_≠fz)) (by (with_reducible repeat (first|apply Kd.cg|apply Kd.cj|apply Kd.cJ));exact Kd.eR cY.out (fun _ hk=>⟨hk.2,hk.1⟩)) hg hat);have aA:=Aside0.mk (lN (g:=cA) (o:= .cells #[.bool dh,.int .i64 cS,.int .i64 cI,.slice none 0 0,.slice none 0 0] 29 (0,0)) (aJ bC) hg (Kd.BG jx.out bC.out (by decide)));have aD:=Aside0.mk (lN (g:=fz) (o:= .cells #[u216000,.bool false,.int .i64 1] 49 (0,0)) (aJ ez) hg (Kd.BG jx.out ez.out (by decide)));have aR:=Aside0.mk (hb);have bK:=Aside0.mk (ho);clear cY;clear bC;clear ez;clear HB;clear jx;have cY:=ay;have bC:=aA;have ez:=aD;have HB:=aR;have a4J:=bK;clear ay aA aD aR bK;clear ho hb hg hat;obtain ⟨a2k,a2l,b8G⟩:=Kd.cX a4J.out;subst b8G;have yZ:w29.cell? ⟨fz,0,none⟩=some (u216000):=(ag ez.out 0).trans rfl;have za:w29.cell? ⟨fz,1,none⟩=some (.bool false):=(ag ez.out 1).trans rfl;have zb:w29.cell? ⟨fz,2,none⟩=some (.int .i64 1):=(ag ez.out 2).trans rfl;have ze:=aa ez.out 0;have zf:=aa ez.out 1;have zg:=aa ez.out 2))
                   go_roundg k4
                   case measure=>have:=rV.out;have:=qJ.out;have:=vL.out;have:=uR.out;omega
                   case rel=>exact ⟨(wrap64 (gu+1)),(QF),(.slice a2k QF.length a2l),(by first|rfl|(simp;done)|(simp [*];done)),H',⟨by have:=rV.out;have:=qJ.out;have:=vL.out;have:=uR.out;omega⟩,⟨by (with_reducible repeat (first|apply Kd.cg|apply Kd.cj|apply Kd.cJ));exact Kd.eR (Kd.qO (p:=⟨fz,0,none⟩) (Kd.eR cY.out (fun k_ hk=>(⟨hk,hk.1⟩:_/\k_≠fz))) (fun _ hk=>hk.2) (.slice a2k QF.length a2l)) (fun _ hk=>⟨hk.1.2,hk.1.1⟩)⟩,⟨by (with_reducible repeat (first|apply Kd.cF|apply Kd.dm|apply Kd.dO));exact Kd.dU (Kd.kr (p:=⟨fz,0,none⟩) (Kd.oM a4J.out ez.out (by decide)) (fun _ hk=>hk.2) (.slice a2k QF.length a2l)) (fun _ hk=>trivial)⟩,⟨by (with_reducible repeat (first|refine au ?_ _|refine ak ?_|refine aq ?_ _));refine di ?_ og.out _;(with_reducible repeat (first|refine au ?_ _|refine ak ?_|refine aq ?_ _));exact bC.out⟩,⟨by (with_reducible repeat (first|refine au ?_ _|refine ak ?_|refine aq ?_ _));refine aX (cs:= #[u216000,.bool false,.int .i64 1]) ?_ 0 _ rfl;(with_reducible repeat (first|refine au ?_ _|refine ak ?_|refine aq ?_ _));exact ez.out⟩,⟨ax⟩⟩
                  ·rw [if_neg MF] at H
                   exact absurd H (by simp)
                 ·replace QE:=Bool.eq_false_iff.mpr QE
                  subst QE
                  have H1:(aC.l2 k4 l0 l1 qA (rd l0 gJ) l0 (l0.length:Int) gJ l1 (l1.length:Int) (wrap64 (gu+1)) ek false 1)=some (r1,r2,r3,r4,r5):=by rw [if_neg (show ¬(false=true) by decide)] at H;exact H
                  clear H
                  have H:=H1
                  clear H1
                  have H':=Aside0.mk H
                  clear H
                  have yz:0<=(gu:Int):=of_decide_eq_true (by first|(with_reducible assumption)|assumption)
                  have yA:gu<(l1.length:Int):=of_decide_eq_true (by first|(with_reducible assumption)|assumption)
                  obtain ⟨b4n,QG,QH,e216,oN,zS,zT⟩:=qP gV.out gu yz yA
                  cases e216
                  replace oN:=(HB.out.cell (World.block_lt_of_cell? w _ oN)).trans oN
                  have Ls:=Aside0.mk zT
                  have Lt:=Aside0.mk zS
                  clear zT zS
                  replace yz:=eq_true yz
                  replace yA:=eq_true yA
                  go_wp2_with (first|((with_reducible refine aZ (f:=23) rfl ?_);refine bO (some 62) rfl rfl Try.func23 (by kernel_rfl) rfl #[.slice QG (eu l1 gu).length QH,.int .i64 (rd l0 gJ)] rfl (by (try simp only [List.map_toArray,List.map_cons,List.map_nil]);first|done|rfl|(simp only [List.length_drop,List.length_take];rfl)) ?_;(with_reducible refine (bH.calls k4 _ _ (eu l1 gu) (rd l0 gJ) false _ ?bX ?bY A24.out).mono ?_);(case bX=>repeat (first|exact (Kd.bQ Ls.out HB.out)|(with_reducible refine Kd.cO ?_ _)|(with_reducible refine Kd.cP ?_ _)|(with_reducible refine Kd.dw ?_)));(case bY=>exact Lt.out);rintro e w' ⟨rfl,⟨nd,rfl⟩⟩;refine ⟨_,rfl,?_⟩))
                  go_roundg k4
                  case measure=>have:=rV.out;have:=qJ.out;have:=vL.out;have:=uR.out;omega
                  case rel=>exact ⟨(wrap64 (gu+1)),(ek),(u216000),(by first|rfl|(simp;done)|(simp [*];done)),H',⟨by have:=rV.out;have:=qJ.out;have:=vL.out;have:=uR.out;omega⟩,⟨by (with_reducible repeat (first|apply Kd.cg|apply Kd.cj|apply Kd.cJ));exact cY.out⟩,⟨by (with_reducible repeat (first|apply Kd.cF|apply Kd.dm|apply Kd.dO));exact jx.out⟩,⟨by (with_reducible repeat (first|refine au ?_ _|refine ak ?_|refine aq ?_ _));exact bC.out⟩,⟨by (with_reducible repeat (first|refine au ?_ _|refine ak ?_|refine aq ?_ _));exact ez.out⟩,⟨ax⟩⟩
                ·rw [if_neg QD] at H
                 exact absurd H (by simp)
               ·rw [if_neg QB] at H
                exact absurd H (by simp)
              ·rw [if_neg Jb] at H
               have NK:decide (gu<(l1.length:Int))=false:=decide_eq_false Jb
               clear Jb
               by_cases CO:(ek.length:Int)=0
               ·rw [if_pos CO] at H
                have NL:((ek.length:Int)==0)=true:=beq_iff_eq.mpr CO
                have NM:((ek.length:Int) !=0)=false:=bne_eq_false_iff_eq.mpr CO
                clear CO
                simp only [Option.some.injEq,Prod.mk.injEq] at H
                obtain ⟨rfl,rfl,rfl,rfl,rfl⟩:=H
                have b3W:=ya.out
                have b3X:=og.out
                have Dq:wr.cell? ⟨fz,0,none⟩=some (u216000):=(ag ez.out 0).trans rfl
                have Dr:wr.cell? ⟨fz,1,none⟩=some (.bool false):=(ag ez.out 1).trans rfl
                have Ds:wr.cell? ⟨fz,2,none⟩=some (.int .i64 1):=(ag ez.out 2).trans rfl
                have Dt:=aa ez.out 0
                have Du:=aa ez.out 1
                have Dv:=aa ez.out 2
                obtain ⟨Ao35,co35,b8H⟩:=Kd.cX jx.out
                subst b8H
                have zh:wr.cell? ⟨cA,0,none⟩=some (.bool dh):=(ag bC.out 0).trans rfl
                have zi:wr.cell? ⟨cA,1,none⟩=some (.int .i64 cS):=(ag bC.out 1).trans rfl
                have zj:wr.cell? ⟨cA,2,none⟩=some (.int .i64 cI):=(ag bC.out 2).trans rfl
                have Dw:wr.cell? ⟨cA,3,none⟩=some (.slice none 0 0):=(ag bC.out 3).trans rfl
                have Dx:wr.cell? ⟨cA,4,none⟩=some (.slice none 0 0):=(ag bC.out 4).trans rfl
                have zk:=aa bC.out 0
                have zl:=aa bC.out 1
                have zm:=aa bC.out 2
                have Dy:=aa bC.out 3
                have Dz:=aa bC.out 4
                go_wp2
                refine bodyPost_ret (results_cell_row rfl _ _ cA 29 #[.bool false,.int .i64 0,.int .i64 0,.slice none 0 0,.slice none 0 0] (0,0) _ rfl (by (with_reducible repeat (first|refine au ?_ _|refine ak ?_|refine aq ?_ _));refine aX (cs:= #[.bool false,.int .i64 0,.int .i64 0,.slice none 0 0,.slice none 0 0]) ?_ 4 _ rfl;(with_reducible repeat (first|refine au ?_ _|refine ak ?_|refine aq ?_ _));refine aX (cs:= #[.bool false,.int .i64 0,.int .i64 0,.slice none 0 0,.slice none 0 0]) ?_ 3 _ rfl;(with_reducible repeat (first|refine au ?_ _|refine ak ?_|refine aq ?_ _));refine aX (cs:= #[.bool false,.int .i64 0,.int .i64 cI,.slice none 0 0,.slice none 0 0]) ?_ 2 _ rfl;(with_reducible repeat (first|refine au ?_ _|refine ak ?_|refine aq ?_ _));refine aX (cs:= #[.bool false,.int .i64 cS,.int .i64 cI,.slice none 0 0,.slice none 0 0]) ?_ 1 _ rfl;(with_reducible repeat (first|refine au ?_ _|refine ak ?_|refine aq ?_ _));refine aX (cs:= #[.bool dh,.int .i64 cS,.int .i64 cI,.slice none 0 0,.slice none 0 0]) ?_ 0 _ rfl;(with_reducible repeat (first|refine au ?_ _|refine ak ?_|refine aq ?_ _));exact bC.out) Try.underlying29 rfl (by kernel_rfl)) rfl ?_
                exact ⟨_,_,by first|rfl|(simp [aM,aQ]<;>rfl)|(simp [*,aM,aQ]<;>rfl),by first|exact Kd.rX _ _ _ _ _|exact Kd.Di _ _ _ _ _|exact Kd.Dj _ _ _ _ _|exact Kd.Dh _ _ _ _ _|exact Kd.Ai _ _ _ _ _,by first|exact Kd.rX _ _ _ _ _|exact Kd.Di _ _ _ _ _|exact Kd.Dj _ _ _ _ _|exact Kd.Dh _ _ _ _ _|exact Kd.Ai _ _ _ _ _,ax⟩
               ·rw [if_neg CO] at H
                have NL:((ek.length:Int)==0)=false:=beq_eq_false_iff_ne.mpr CO
                have NM:((ek.length:Int) !=0)=true:=bne_iff_ne.mpr CO
                have VK:¬(ek=[]):=fun h_=>CO (by rw [h_];rfl)
                by_cases QI:qA.length<3518437208883
                ·rw [if_pos QI] at H
                 have b4q:=Aside0.mk QI
                 clear QI
                 obtain ⟨b1k,Jd⟩:∃y_:List (cC),y_=(qA++[(⟨ek,false,1⟩:cC)]):=⟨_,rfl⟩
                 replace H:(aC.l1 k4 l0 l1 b1k l0 (l0.length:Int) (wrap64 (gJ+1)))=some (r1,r2,r3,r4,r5):=by first|(rw [Jd];with_reducible exact H)|(have dK:=(Option.bind_some _ _).symm.trans H;rw [Jd];with_reducible exact dK)|(have dK:=(Option.bind_some _ _).symm.trans H;with_reducible exact dK)|with_reducible exact H|(rw [Jd];exact H)|exact H
                 have b4r:=Aside0.mk Jd
                 clear Jd
                 have H':=Aside0.mk H
                 clear H
                 have b3B:=ya.out
                 have b3C:=og.out
                 have DI:wr.cell? ⟨fz,0,none⟩=some (u216000):=(ag ez.out 0).trans rfl
                 have DJ:wr.cell? ⟨fz,1,none⟩=some (.bool false):=(ag ez.out 1).trans rfl
                 have Lx:wr.cell? ⟨fz,2,none⟩=some (.int .i64 1):=(ag ez.out 2).trans rfl
                 have DK:=aa ez.out 0
                 have DL:=aa ez.out 1
                 have Lz:=aa ez.out 2
                 obtain ⟨VL,VM,b8I⟩:=Kd.cX jx.out
                 subst b8I
                 go_wp2_with (first|((with_reducible refine cK (b:= .append) (xs:= #[.tmp 75,.tmp 77]) rfl ?_);(try (refine gU (by rfl) ?_;dsimp only));at_builtin;refine Kd.Aj jh (w0:=w) w.heap.size rfl (.tmp 75) (.tmp 77) 47 49 (.agg #[(.slice none 0 0),(.bool false),(.int .i64 0)]) 40 rfl Try.underlying47 GL rfl (by decide) (by omega) u8 qA (⟨ek,false,1⟩:cC) [.slice VL ek.length VM,.bool false,.int .i64 1] (fun k_=>k_≠fz) (fun k_=>some k_=(.slice VL ek.length VM:Value).ownBlock) rfl rfl ?aP (fun k_ sq=>((Kd.dU (ok':=fun k_=>((fun k_=>k_≠fz)) k_/\some k_≠(u8:Value).ownBlock) (Kd.oM (Kd.iN (jx.out) (Kd.jV cY.out) (by decide)) ez.out (by decide)) (fun k_ hk=>⟨hk.2,hk.1.2⟩))).1 k_ sq.symm) ?aF ?aO ?aB ?aS ?aL ?_;(case aP=>exact Dm _ _ _ (⟨ek,false,1⟩:cC) (Kd.dU (Kd.rK rfl (Kd.dU (ok':=fun k_=>((fun k_=>k_≠fz)) k_/\some k_≠(u8:Value).ownBlock) (Kd.oM (Kd.iN (jx.out) (Kd.jV cY.out) (by decide)) ez.out (by decide)) (fun k_ hk=>⟨hk.2,hk.1.2⟩))) (fun _ h_=>h_)));(case aB=>exact ax);(case aF=>exact (fun k_ hk=>Kd.Wo (g:=fz) (o:= .cells #[.slice VL ek.length VM,.bool false,.int .i64 1] 49 (0,0)) (aJ ez) k_ hk));(case aO=>exact (by (with_reducible repeat (first|apply Kd.cg|apply Kd.cj|apply Kd.cJ));exact Kd.eR cY.out (fun k_ hk=>⟨hk.2,fun e_=>hk.1 e_⟩)));(case aS=>exact (av ax));(case aL=>have:=b4q.out;omega);intro v222 w41 ho hb hg hat;rw [<-b4r.out] at ho;have ay:=Aside0.mk (lN (g:=cA) (o:= .cells #[.bool dh,.int .i64 cS,.int .i64 cI,.slice none 0 0,.slice none 0 0] 29 (0,0)) (aJ bC) hg (Kd.Um cY.out bC.out (by decide)));have aA:=Aside0.mk (lN (g:=fz) (o:= .cells #[.slice VL ek.length VM,.bool false,.int .i64 1] 49 (0,0)) (aJ ez) hg (Kd.Wu cY.out (fun _ hk=>hk.2)));have aD:=Aside0.mk (hb);have aR:=Aside0.mk (ho);clear bC;clear ez;clear HB;clear cY;clear jx;have bC:=ay;have ez:=aA;have HB:=aD;have b4s:=aR;clear ay aA aD aR;clear ho hb hg hat))
                 go_roundg k4
                 case measure=>have:=rV.out;have:=qJ.out;have:=vL.out;have:=uR.out;omega
                 case rel=>exact ⟨(b1k),(wrap64 (gJ+1)),(dh),(cS),(cI),(by first|rfl|(simp;done)|(simp [*];done)),H',⟨by have:=rV.out;have:=qJ.out;have:=vL.out;have:=uR.out;omega⟩,⟨by (with_reducible repeat (first|apply Kd.cg|apply Kd.cj|apply Kd.cJ));exact Kd.eR b4s.out (fun _ hk=>trivial)⟩,⟨by (with_reducible repeat (first|refine au ?_ _|refine ak ?_|refine aq ?_ _));exact bC.out⟩,⟨ax⟩⟩
                ·rw [if_neg QI] at H
                 exact absurd H (by simp)
           ·rw [if_neg c17] at H
            exact absurd H (by simp)
          ·rw [if_neg c16] at H
           exact absurd H (by simp)
         ·rw [if_neg c15] at H
          have Ja:decide (gJ<(l0.length:Int))=false:=decide_eq_false c15
          clear c15
          obtain ⟨b1l,Je⟩:∃y_:List (cC),y_=(([]:List (cC))):=⟨_,rfl⟩
          replace H:(aC.l3 k3 l0 l1 qA b1l l1 (l1.length:Int) 0)=some (r1,r2,r3,r4,r5):=by first|(rw [Je];with_reducible exact H)|(have dK:=(Option.bind_some _ _).symm.trans H;rw [Je];with_reducible exact dK)|(have dK:=(Option.bind_some _ _).symm.trans H;with_reducible exact dK)|with_reducible exact H|(rw [Je];exact H)|exact H
          have a4K:=Aside0.mk Je
          clear Je
          have H':=Aside0.mk H
          clear H
          go_wp2_with (first|((with_reducible refine bk (N:=80) rfl ?_);(try (refine gU (by rfl) ?_;dsimp only));refine Kd.a2Q jh _ 49 ?hg (N:=80) ?hd (xs:=([]:List (cC))) (inner:=[]) (ok:=fun _=>True) (fN:=fun _=>True) ?hr ?hp (fun _ hk=>hk) trivial (Below.refl _ _) (Nat.le_refl _) (by simp) ?_;(case hd=>rfl);(case hg=>rfl);(case hr=>first|(go_simp;done)|(go_simp;rfl));(case hp=>exact (cT.none _ _));intro v225 w42 LA hb uw mG;clear uw mG;(first|rw [<-a4K.out] at LA|(simp only [Int.reduceToNat] at LA;rw [<-a4K.out] at LA));have ay:=Aside0.mk (Kd.sX (by (with_reducible repeat (first|apply Kd.cg|apply Kd.cj|apply Kd.cJ));exact cY.out) (Kd.a7O LA) hb);have aA:=Aside0.mk (Kd.JE (Kd.a7P LA (Kd.Ul (by (with_reducible repeat (first|apply Kd.cg|apply Kd.cj|apply Kd.cJ));exact cY.out))) (av ax));have aD:=Aside0.mk (ah (g:=cA) (o:= .cells #[.bool dh,.int .i64 cS,.int .i64 cI,.slice none 0 0,.slice none 0 0] 29 (0,0)) (aJ bC) hb);have aR:=Aside0.mk (ai ax hb);clear cY;clear bC;clear HB;have cY:=ay;have b4t:=aA;have bC:=aD;have HB:=aR;clear ay aA aD aR;clear hb LA))
          go_loopg [8,14,83] k3 (fun kq v8 v14 v83 w'=>∃(sJ:List (cC)) (mo:List (cC)) (fe:Int),v83= .int .i64 fe/\Aside0 (aC.l3 kq l0 l1 sJ mo l1 (l1.length:Int) fe=some (r1,r2,r3,r4,r5))/\Aside0 (kq<=k3)/\Aside0 (Kd.S jh 49 w' w.heap.size (fun k_=>some k_≠(v14:Value).ownBlock) v8 sJ)/\Aside0 (Kd.S jh 49 w' w.heap.size (fun k_=>some k_≠(v8:Value).ownBlock) v14 mo)/\Aside0 (w'.heap[cA]? =some (.cells #[.bool dh,.int .i64 cS,.int .i64 cI,(.slice none 0 0),(.slice none 0 0)] 29 (0,0)))/\Aside0 (Below w.heap.size w w'))
          case atStart=>exact ⟨(qA),(b1l),(0),(by first|rfl|(simp;done)|(simp [*];done)),H',⟨Nat.le_refl _⟩,⟨by (with_reducible repeat (first|apply Kd.cg|apply Kd.cj|apply Kd.cJ));exact Kd.eR cY.out (fun _ hk=>hk.2)⟩,⟨by (with_reducible repeat (first|apply Kd.cg|apply Kd.cj|apply Kd.cJ));exact Kd.eR b4t.out (fun _ hk=>hk.2)⟩,⟨by (with_reducible repeat (first|refine au ?_ _|refine ak ?_|refine aq ?_ _));exact bC.out⟩,⟨ax⟩⟩
          case round=>
           clear H'
           try clear c1
           try clear c2
           try clear p2
           try clear q2
           try clear hx2
           try clear c3
           try clear c6
           try clear p6
           try clear c7
           try clear si
           try clear c8
           try clear td
           try clear c9
           try clear Fg
           try clear c10
           try clear c12
           try clear c15
           try clear Ja
           try clear c16
           try clear NI
           try clear c17
           try clear NJ
           try clear c19
           try clear c20
           try clear Ts
           try clear Tt
           try clear a2j
           try clear Jb
           try clear NK
           try clear p21
           try clear q21
           try clear b1m
           try clear QB
           try clear VI
           try clear QD
           try clear VJ
           try clear QE
           try clear MF
           try clear c27
           try clear CO
           try clear NL
           try clear NM
           try clear VK
           try clear c33
           try clear QI
           try clear c38
           try clear zC
           try clear zD
           try clear Eb
           try clear tJ
           try clear tK
           try clear Lu
           try clear yZ
           try clear za
           try clear zb
           try clear Dq
           try clear Dr
           try clear Ds
           try clear zh
           try clear zi
           try clear zj
           try clear Dw
           try clear Dx
           try clear DI
           try clear DJ
           try clear Lx
           try clear zE
           try clear zF
           try clear Ec
           try clear tL
           try clear tM
           try clear Lv
           try clear ze
           try clear zf
           try clear zg
           try clear Dt
           try clear Du
           try clear Dv
           try clear zk
           try clear zl
           try clear zm
           try clear Dy
           try clear Dz
           try clear DK
           try clear DL
           try clear Lz
           try clear mD
           try clear tQ
           try clear oN
           try clear p2
           try clear Ts
           try clear vz
           try clear Gk
           try clear yz
           try clear p6
           try clear q2
           try clear Tt
           try clear vA
           try clear Gl
           try clear yA
           obtain ⟨sJ,mo,fe,rfl,HA,uR,cY,dB,bC,HB⟩:=hrel
           cases gk with
           |zero=>exact absurd HA.out (by simp [aC.l3])
           |succ k4=>
            have H:=HA.out
            clear HA
            simp only [aC.l3] at H
            by_cases zH:fe<(l1.length:Int)
            ·rw [if_pos zH] at H
             have NG:decide (fe<(l1.length:Int))=true:=decide_eq_true zH
             clear zH
             by_cases Cz:0<=fe
             ·rw [if_pos Cz] at H
              have Vj:decide (0<=fe)=true:=decide_eq_true Cz
              clear Cz
              by_cases CA:fe<(l1.length:Int)
              ·rw [if_pos CA] at H
               have Vk:decide (fe<(l1.length:Int))=true:=decide_eq_true CA
               clear CA
               obtain ⟨Gm,Jf⟩:∃y_:List Int,y_=(([fe]:List Int)):=⟨_,rfl⟩
               replace H:(if sJ.length<3518437208883 then (aC.l4 k4 l0 l1 (sJ++[(⟨Gm,false,0⟩:cC)]) mo (eu l1 fe) l1 (l1.length:Int) fe l0 (l0.length:Int) 0 ([]:List Int) true 1) else (none))=some (r1,r2,r3,r4,r5):=by first|(rw [Jf];with_reducible exact H)|(have dK:=(Option.bind_some _ _).symm.trans H;rw [Jf];with_reducible exact dK)|(have dK:=(Option.bind_some _ _).symm.trans H;with_reducible exact dK)|with_reducible exact H|(rw [Jf];exact H)|exact H
               have a4N:=Aside0.mk Jf
               clear Jf
               by_cases Tu:sJ.length<3518437208883
               ·rw [if_pos Tu] at H
                have b4u:=Aside0.mk Tu
                clear Tu
                obtain ⟨vB,Jg⟩:∃y_:List (cC),y_=(sJ++[(⟨Gm,false,0⟩:cC)]):=⟨_,rfl⟩
                replace H:(aC.l4 k4 l0 l1 vB mo (eu l1 fe) l1 (l1.length:Int) fe l0 (l0.length:Int) 0 ([]:List Int) true 1)=some (r1,r2,r3,r4,r5):=by first|(rw [Jg];with_reducible exact H)|(have dK:=(Option.bind_some _ _).symm.trans H;rw [Jg];with_reducible exact dK)|(have dK:=(Option.bind_some _ _).symm.trans H;with_reducible exact dK)|with_reducible exact H|(rw [Jg];exact H)|exact H
                have b4v:=Aside0.mk Jg
                clear Jg
                have H':=Aside0.mk H
                clear H
                have QJ:0<=(fe:Int):=of_decide_eq_true (by first|(with_reducible assumption)|assumption)
                have QK:fe<(l1.length:Int):=of_decide_eq_true (by first|(with_reducible assumption)|assumption)
                obtain ⟨ad227,Zc,Zd,b8J,zU,Tv,Tw⟩:=qP gV.out fe QJ QK
                cases b8J
                replace zU:=(HB.out.cell (World.block_lt_of_cell? w _ zU)).trans zU
                have Tx:=Aside0.mk Tw
                have Ty:=Aside0.mk Tv
                clear Tw Tv
                replace QJ:=eq_true QJ
                replace QK:=eq_true QK
                go_wp2_with (first|((with_reducible refine bk (N:=90) rfl ?_);(try (refine gU (by rfl) ?_;dsimp only));refine Kd.Ag (Kd.int .i64) _ 3 ?hg (N:=90) ?hd (xs:=([fe]:List Int)) (inner:=[.int .i64 fe]) (ok:=fun _=>True) (fN:=fun _=>True) ?hr ?hp (fun _ hk=>hk) trivial (Below.refl _ _) (Nat.le_refl _) (by simp) ?_;(case hd=>rfl);(case hg=>rfl);(case hr=>first|(go_simp;done)|(go_simp;rfl));(case hp=>exact (cT.one (show Kd.M (Kd.int .i64) _ _ _ fe [.int .i64 fe] from rfl) (cT.none _ _)));intro v229 w48 Gn hb uw mG;clear uw mG;(first|rw [<-a4N.out] at Gn|(simp only [Int.reduceToNat] at Gn;rw [<-a4N.out] at Gn));have ay:=Aside0.mk (Kd.sX (by (with_reducible repeat (first|apply Kd.cg|apply Kd.cj|apply Kd.cJ));exact cY.out) (Kd.um Gn) hb);have aA:=Aside0.mk (Kd.sX (by (with_reducible repeat (first|apply Kd.cg|apply Kd.cj|apply Kd.cJ));exact dB.out) (Kd.um Gn) hb);have aD:=Aside0.mk (Kd.gG Gn (av ax));have aR:=Aside0.mk (ah (g:=cA) (o:= .cells #[.bool dh,.int .i64 cS,.int .i64 cI,.slice none 0 0,.slice none 0 0] 29 (0,0)) (aJ bC) hb);have bK:=Aside0.mk (ai ax hb);clear cY;clear dB;clear bC;clear HB;have cY:=ay;have dB:=aA;have NP:=aD;have bC:=aR;have HB:=bK;clear ay aA aD aR bK;clear hb Gn;obtain ⟨a2m,a2o,b8K⟩:=Kd.cX NP.out;subst b8K)|((with_reducible refine cK (b:= .append) (xs:= #[.tmp 88,.tmp 92]) rfl ?_);(try (refine gU (by rfl) ?_;dsimp only));at_builtin;refine Kd.Aj jh (w0:=w) w.heap.size rfl (.tmp 88) (.tmp 92) 47 49 (.agg #[(.slice none 0 0),(.bool false),(.int .i64 0)]) 40 rfl Try.underlying47 GL rfl (by decide) (by omega) u8 sJ (⟨Gm,false,0⟩:cC) [.slice a2m Gm.length a2o,.bool false,.int .i64 0] (fun k_=>some k_≠(u14:Value).ownBlock) (fun k_=>some k_=(.slice a2m Gm.length a2o:Value).ownBlock) rfl rfl ?aP (fun k_ sq=>((Kd.dU (ok':=fun k_=>((fun k_=>some k_≠(u14:Value).ownBlock)) k_/\some k_≠(u8:Value).ownBlock) (Kd.iN (Kd.iN (NP.out) (Kd.jV dB.out) (by decide)) (Kd.jV cY.out) (by decide)) (fun k_ hk=>⟨hk.1.2,hk.2⟩))).1 k_ sq.symm) ?aF ?aO ?aB ?aS ?aL ?_;(case aP=>exact Dm _ _ _ (⟨Gm,false,0⟩:cC) (Kd.dU (Kd.rK rfl (Kd.dU (ok':=fun k_=>((fun k_=>some k_≠(u14:Value).ownBlock)) k_/\some k_≠(u8:Value).ownBlock) (Kd.iN (Kd.iN (NP.out) (Kd.jV dB.out) (by decide)) (Kd.jV cY.out) (by decide)) (fun k_ hk=>⟨hk.1.2,hk.2⟩))) (fun _ h_=>h_)));(case aB=>exact ax);(case aF=>exact (fun k_ hk=>Kd.fresh' (Kd.Ul (by (with_reducible repeat (first|apply Kd.cg|apply Kd.cj|apply Kd.cJ));exact dB.out)) k_ hk));(case aO=>exact (by (with_reducible repeat (first|apply Kd.cg|apply Kd.cj|apply Kd.cJ));exact Kd.eR cY.out (fun k_ hk=>⟨hk.1,fun e_=>hk.2 e_⟩)));(case aS=>exact (av ax));(case aL=>have:=b4u.out;omega);intro v232 w51 ho hb hg hat;rw [<-b4v.out] at ho;have ay:=Aside0.mk (Kd.wh (ok:=(fun k_=>some k_≠(.slice a2m Gm.length a2o:Value).ownBlock)) (by (with_reducible repeat (first|apply Kd.cg|apply Kd.cj|apply Kd.cJ));exact Kd.eR dB.out (fun _ hk=>⟨hk.2,hk.1⟩)) hg hat);have aA:=Aside0.mk (lN (g:=cA) (o:= .cells #[.bool dh,.int .i64 cS,.int .i64 cI,.slice none 0 0,.slice none 0 0] 29 (0,0)) (aJ bC) hg (Kd.Um cY.out bC.out (by decide)));have aD:=Aside0.mk (hb);have aR:=Aside0.mk (ho);clear dB;clear bC;clear HB;clear cY;clear NP;have dB:=ay;have bC:=aA;have HB:=aD;have NQ:=aR;clear ay aA aD aR;clear ho hb hg hat)|((with_reducible refine bk (N:=17) rfl ?_);(try (refine gU (by rfl) ?_;dsimp only));refine bp ?hg (N:=17) ?hd (cs:= #[.slice none 0 0,.bool false,.int .i64 0]) (t:=49) ?hr ?_;(case hd=>rfl);(case hg=>rfl);(case hr=>first|(go_simp;done)|(go_simp;rfl));intro er hg w52 aU hb;have ay:=Aside0.mk (Kd.jU (Kd.EZ (by (with_reducible repeat (first|apply Kd.cg|apply Kd.cj|apply Kd.cJ));exact dB.out) er (Nat.le_of_eq hg.symm)) hb);have aA:=Aside0.mk (Kd.jU (Kd.EZ (by (with_reducible repeat (first|apply Kd.cg|apply Kd.cj|apply Kd.cJ));exact NQ.out) er (Nat.le_of_eq hg.symm)) hb);have aD:=Aside0.mk (ah (g:=cA) (o:= .cells #[.bool dh,.int .i64 cS,.int .i64 cI,.slice none 0 0,.slice none 0 0] 29 (0,0)) (aJ bC) hb);have aR:=Aside0.mk (ai ax hb);have bK:=Aside0.mk (aU);have bT:=Aside0.mk ((by rw [hg];exact (av ax):w.heap.size<=er));have cm:=Aside0.mk ((by rw [hg];exact (av ax):w.heap.size<=er));have iP:=Aside0.mk ((by rw [hg];exact Nat.ne_of_lt (aY (g:=cA) (o:= .cells #[.bool dh,.int .i64 cS,.int .i64 cI,.slice none 0 0,.slice none 0 0] 29 (0,0)) (aJ bC)):cA≠er));have jk:=Aside0.mk ((by rw [hg];exact Nat.ne_of_gt (aY (g:=cA) (o:= .cells #[.bool dh,.int .i64 cS,.int .i64 cI,.slice none 0 0,.slice none 0 0] 29 (0,0)) (aJ bC)):er≠cA));clear dB;clear NQ;clear bC;clear HB;have dB:=ay;have NQ:=aA;have bC:=aD;have HB:=aR;have eA:=bK;have GW234:=bT;have GE234:=cm;have oh:=iP;have yb:=jk;clear ay aA aD aR bK bT cm iP jk;clear hb aU hg;have hnb53:=yb.out;have hnc53:=oh.out;have Tz:w52.cell? ⟨er,0,none⟩=some (.slice none 0 0):=(ag eA.out 0).trans rfl;have TA:w52.cell? ⟨er,1,none⟩=some (.bool false):=(ag eA.out 1).trans rfl;have TB:w52.cell? ⟨er,2,none⟩=some (.int .i64 0):=(ag eA.out 2).trans rfl;have TC:=aa eA.out 0;have TD:=aa eA.out 1;have TE:=aa eA.out 2))
                go_loopg [97] k4 (fun kq v97 w'=>∃(gv:Int) (en:List Int) (u235000:Value),v97= .int .i64 gv/\Aside0 (aC.l4 kq l0 l1 vB mo (eu l1 fe) l1 (l1.length:Int) fe l0 (l0.length:Int) gv en true 1=some (r1,r2,r3,r4,r5))/\Aside0 (kq<=k4)/\Aside0 (Kd.S jh 49 w' w.heap.size (fun k_=>some k_≠(u14:Value).ownBlock/\some k_≠(u235000:Value).ownBlock/\k_≠er) v232 vB)/\Aside0 (Kd.S jh 49 w' w.heap.size (fun k_=>some k_≠(v232:Value).ownBlock/\some k_≠(u235000:Value).ownBlock/\k_≠er) u14 mo)/\Aside0 (Kd.R (Kd.int .i64) 3 w' w.heap.size (fun _=>True) u235000 en)/\Aside0 (w'.heap[cA]? =some (.cells #[.bool dh,.int .i64 cS,.int .i64 cI,(.slice none 0 0),(.slice none 0 0)] 29 (0,0)))/\Aside0 (w'.heap[er]? =some (.cells #[u235000,.bool true,.int .i64 1] 49 (0,0)))/\Aside0 (Below w.heap.size w w'))
                case atStart=>exact ⟨(0),(([]:List Int)),(.slice none 0 0),(by first|rfl|(simp;done)|(simp [*];done)),H',⟨Nat.le_refl _⟩,⟨by (with_reducible repeat (first|apply Kd.cg|apply Kd.cj|apply Kd.cJ));exact Kd.eR (Kd.qO (p:=⟨er,2,none⟩) (Kd.qO (p:=⟨er,1,none⟩) (Kd.qO (p:=⟨er,0,none⟩) (Kd.eR NQ.out (fun k_ hk=>(⟨hk,hk.2⟩:_/\k_≠er))) (fun _ hk=>hk.2) (.slice none 0 0)) (fun _ hk=>hk.2) (.bool true)) (fun _ hk=>hk.2) (.int .i64 1)) (fun _ hk=>⟨hk.1.1,⟨(by simp [Value.ownBlock]),hk.1.2⟩⟩)⟩,⟨by (with_reducible repeat (first|apply Kd.cg|apply Kd.cj|apply Kd.cJ));exact Kd.eR (Kd.qO (p:=⟨er,2,none⟩) (Kd.qO (p:=⟨er,1,none⟩) (Kd.qO (p:=⟨er,0,none⟩) (Kd.eR dB.out (fun k_ hk=>(⟨hk,hk.2⟩:_/\k_≠er))) (fun _ hk=>hk.2) (.slice none 0 0)) (fun _ hk=>hk.2) (.bool true)) (fun _ hk=>hk.2) (.int .i64 1)) (fun _ hk=>⟨hk.1.1.2,⟨(by simp [Value.ownBlock]),hk.1.2⟩⟩)⟩,⟨by first|exact Kd.rX _ _ _ _ _|exact Kd.Di _ _ _ _ _|exact Kd.Dj _ _ _ _ _|exact Kd.Dh _ _ _ _ _|exact Kd.Ai _ _ _ _ _⟩,⟨by (with_reducible repeat (first|refine au ?_ _|refine ak ?_|refine aq ?_ _));refine di ?_ oh.out _;(with_reducible repeat (first|refine au ?_ _|refine ak ?_|refine aq ?_ _));refine di ?_ oh.out _;(with_reducible repeat (first|refine au ?_ _|refine ak ?_|refine aq ?_ _));refine di ?_ oh.out _;(with_reducible repeat (first|refine au ?_ _|refine ak ?_|refine aq ?_ _));exact bC.out⟩,⟨by (with_reducible repeat (first|refine au ?_ _|refine ak ?_|refine aq ?_ _));refine aX (cs:= #[.slice none 0 0,.bool true,.int .i64 0]) ?_ 2 _ rfl;(with_reducible repeat (first|refine au ?_ _|refine ak ?_|refine aq ?_ _));refine aX (cs:= #[.slice none 0 0,.bool false,.int .i64 0]) ?_ 1 _ rfl;(with_reducible repeat (first|refine au ?_ _|refine ak ?_|refine aq ?_ _));refine aX (cs:= #[.slice none 0 0,.bool false,.int .i64 0]) ?_ 0 _ rfl;(with_reducible repeat (first|refine au ?_ _|refine ak ?_|refine aq ?_ _));exact eA.out⟩,⟨ax⟩⟩
                case round=>
                 clear H'
                 try clear c1
                 try clear c2
                 try clear p2
                 try clear q2
                 try clear hx2
                 try clear c3
                 try clear c4
                 try clear c5
                 try clear c6
                 try clear p6
                 try clear c7
                 try clear si
                 try clear c8
                 try clear td
                 try clear c9
                 try clear Fg
                 try clear c10
                 try clear c12
                 try clear c15
                 try clear Ja
                 try clear c16
                 try clear NI
                 try clear c17
                 try clear NJ
                 try clear c19
                 try clear c20
                 try clear Ts
                 try clear Tt
                 try clear a2j
                 try clear Jb
                 try clear NK
                 try clear p21
                 try clear q21
                 try clear b1m
                 try clear QB
                 try clear VI
                 try clear p22
                 try clear q22
                 try clear b8L
                 try clear QD
                 try clear VJ
                 try clear QE
                 try clear MF
                 try clear c27
                 try clear CO
                 try clear NL
                 try clear NM
                 try clear VK
                 try clear c33
                 try clear QI
                 try clear c38
                 try clear zH
                 try clear NG
                 try clear Cz
                 try clear Vj
                 try clear CA
                 try clear Vk
                 try clear Tu
                 try clear c53
                 try clear zC
                 try clear zD
                 try clear Eb
                 try clear tJ
                 try clear tK
                 try clear Lu
                 try clear yZ
                 try clear za
                 try clear zb
                 try clear Dq
                 try clear Dr
                 try clear Ds
                 try clear zh
                 try clear zi
                 try clear zj
                 try clear Dw
                 try clear Dx
                 try clear DI
                 try clear DJ
                 try clear Lx
                 try clear Tz
                 try clear TA
                 try clear TB
                 try clear zE
                 try clear zF
                 try clear Ec
                 try clear tL
                 try clear tM
                 try clear Lv
                 try clear ze
                 try clear zf
                 try clear zg
                 try clear Dt
                 try clear Du
                 try clear Dv
                 try clear zk
                 try clear zl
                 try clear zm
                 try clear Dy
                 try clear Dz
                 try clear DK
                 try clear DL
                 try clear Lz
                 try clear TC
                 try clear TD
                 try clear TE
                 try clear mD
                 try clear tQ
                 try clear oN
                 try clear zU
                 try clear p2
                 try clear Ts
                 try clear vz
                 try clear p21
                 try clear Gk
                 try clear yz
                 try clear QJ
                 try clear p6
                 try clear q2
                 try clear Tt
                 try clear vA
                 try clear q21
                 try clear Gl
                 try clear yA
                 try clear QK
                 obtain ⟨gv,en,u235000,rfl,HA,CP,cY,dB,jy,bC,eA,HB⟩:=hrel
                 cases gk with
                 |zero=>exact absurd HA.out (by simp [aC.l4])
                 |succ k5=>
                  have H:=HA.out
                  clear HA
                  simp only [aC.l4] at H
                  by_cases QL:gv<(l0.length:Int)
                  ·rw [if_pos QL] at H
                   have a4O:decide (gv<(l0.length:Int))=true:=decide_eq_true QL
                   clear QL
                   by_cases Ze:0<=gv
                   ·rw [if_pos Ze] at H
                    have b4w:decide (0<=gv)=true:=decide_eq_true Ze
                    clear Ze
                    by_cases Zf:gv<(l0.length:Int)
                    ·rw [if_pos Zf] at H
                     have b4x:decide (gv<(l0.length:Int))=true:=decide_eq_true Zf
                     clear Zf
                     replace H:=Option.bind_eq_some_iff.mp H
                     obtain ⟨t236,b1o,H⟩:=H
                     replace H:(if t236=true then (if en.length<17592186044416 then (aC.l4 k5 l0 l1 vB mo (eu l1 fe) l1 (l1.length:Int) fe l0 (l0.length:Int) (wrap64 (gv+1)) (en++[gv]) true 1) else (none)) else (aC.l4 k5 l0 l1 vB mo (eu l1 fe) l1 (l1.length:Int) fe l0 (l0.length:Int) (wrap64 (gv+1)) en true 1))=some (r1,r2,r3,r4,r5):=H
                     have A58:=Aside0.mk b1o
                     clear b1o
                     by_cases Zg:t236=true
                     ·subst Zg
                      have H1:(if en.length<17592186044416 then (aC.l4 k5 l0 l1 vB mo (eu l1 fe) l1 (l1.length:Int) fe l0 (l0.length:Int) (wrap64 (gv+1)) (en++[gv]) true 1) else (none))=some (r1,r2,r3,r4,r5):=by rw [if_pos rfl] at H;exact H
                      clear H
                      have H:=H1
                      clear H1
                      by_cases Zh:en.length<17592186044416
                      ·rw [if_pos Zh] at H
                       have b4y:=Aside0.mk Zh
                       clear Zh
                       obtain ⟨LB,Jh⟩:∃y_:List Int,y_=(en++[gv]):=⟨_,rfl⟩
                       replace H:(aC.l4 k5 l0 l1 vB mo (eu l1 fe) l1 (l1.length:Int) fe l0 (l0.length:Int) (wrap64 (gv+1)) LB true 1)=some (r1,r2,r3,r4,r5):=by first|(rw [Jh];with_reducible exact H)|(have dK:=(Option.bind_some _ _).symm.trans H;rw [Jh];with_reducible exact dK)|(have dK:=(Option.bind_some _ _).symm.trans H;with_reducible exact dK)|with_reducible exact H|(rw [Jh];exact H)|exact H
                       have b4z:=Aside0.mk Jh
                       clear Jh
                       have H':=Aside0.mk H
                       clear H
                       have CQ:0<=(gv:Int):=of_decide_eq_true (by first|(with_reducible assumption)|assumption)
                       have CR:gv<(l0.length:Int):=of_decide_eq_true (by first|(with_reducible assumption)|assumption)
                       obtain ⟨b4A,a2p,rW⟩:=Kd.fC eL.out gv CQ CR
                       cases a2p
                       replace rW:=(HB.out.cell (World.block_lt_of_cell? w _ rW)).trans rW
                       replace CQ:=eq_true CQ
                       replace CR:=eq_true CR
                       go_wp2_with (first|((with_reducible refine aZ (f:=23) rfl ?_);refine bO (some 104) rfl rfl Try.func23 (by kernel_rfl) rfl #[.slice Zc (eu l1 fe).length Zd,.int .i64 (rd l0 gv)] rfl (by (try simp only [List.map_toArray,List.map_cons,List.map_nil]);first|done|rfl|(simp only [List.length_drop,List.length_take];rfl)) ?_;(with_reducible refine (bH.calls k5 _ _ (eu l1 fe) (rd l0 gv) true _ ?bX ?bY A58.out).mono ?_);(case bX=>repeat (first|exact (Kd.bQ Tx.out HB.out)|(with_reducible refine Kd.cO ?_ _)|(with_reducible refine Kd.cP ?_ _)|(with_reducible refine Kd.dw ?_)));(case bY=>exact Ty.out);rintro e w' ⟨rfl,⟨nd,rfl⟩⟩;refine ⟨_,rfl,?_⟩;(try (rw [iC wr];generalize fY:World.drewN wr _=wr;have ay:Aside0 (Kd.S jh 49 wr w.heap.size (fun k_=>some k_≠(u235000:Value).ownBlock/\some k_≠(v232:Value).ownBlock/\k_≠er) u14 mo):=⟨by rw [<-fY];exact (by (with_reducible repeat (first|apply Kd.cg|apply Kd.cj|apply Kd.cJ));exact Kd.eR dB.out (fun _ hk=>⟨hk.2.1,⟨hk.1,hk.2.2⟩⟩))⟩;have aA:Aside0 (Kd.R (Kd.int .i64) 3 wr w.heap.size (fun _=>True) u235000 en):=⟨by rw [<-fY];exact (by (with_reducible repeat (first|apply Kd.cF|apply Kd.dm|apply Kd.dO));exact jy.out)⟩;have aD:Aside0 (Kd.S jh 49 wr w.heap.size (fun k_=>some k_≠(u14:Value).ownBlock/\some k_≠(u235000:Value).ownBlock/\k_≠er) v232 vB):=⟨by rw [<-fY];exact (by (with_reducible repeat (first|apply Kd.cg|apply Kd.cj|apply Kd.cJ));exact cY.out)⟩;have aR:Aside0 (wr.heap[cA]? =some (.cells #[.bool dh,.int .i64 cS,.int .i64 cI,.slice none 0 0,.slice none 0 0] 29 (0,0))):=⟨by rw [<-fY];exact (aJ bC)⟩;have bK:Aside0 (wr.heap[er]? =some (.cells #[u235000,.bool true,.int .i64 1] 49 (0,0))):=⟨by rw [<-fY];exact (aJ eA)⟩;have bT:Aside0 (Below w.heap.size w wr):=⟨by rw [<-fY];exact ax⟩;clear dB jy cY bC eA HB fY;have dB:=ay;have jy:=aA;have cY:=aD;have bC:=aR;have eA:=bK;have HB:=bT;clear ay aA aD aR bK bT));have hnb61:=yb.out;have hnc61:=oh.out;have a6Z:wr.cell? ⟨er,0,none⟩=some (u235000):=(ag eA.out 0).trans rfl;have a7a:wr.cell? ⟨er,1,none⟩=some (.bool true):=(ag eA.out 1).trans rfl;have a7b:wr.cell? ⟨er,2,none⟩=some (.int .i64 1):=(ag eA.out 2).trans rfl;have a7c:=aa eA.out 0;have a7d:=aa eA.out 1;have a7e:=aa eA.out 2)|((with_reducible refine cK (b:= .append) (xs:= #[.tmp 106,.tmp 108]) rfl ?_);(try (refine gU (by rfl) ?_;dsimp only));at_builtin;refine Kd.fB (Kd.int .i64) (w0:=w) w.heap.size rfl (.tmp 106) (.tmp 108) 22 3 (.int .i64 0) 8 rfl Try.underlying22 info3 rfl (by decide) (by omega) u235000 en gv [.int .i64 gv] (fun _=>True) (fun _=>False) rfl rfl ?aP (fun _ hk=>hk.elim) ?aF ?aO ?aB ?aS ?aL ?_;(case aP=>exact rfl);(case aB=>exact ax);(case aF=>exact (fun _ _=>trivial));(case aO=>exact (by (with_reducible repeat (first|apply Kd.cF|apply Kd.dm|apply Kd.dO));exact jy.out));(case aS=>exact (av ax));(case aL=>have:=b4y.out;omega);intro v238 w63 ho hb hg hat;rw [<-b4z.out] at ho;have ay:=Aside0.mk (Kd.wh (ok:=(fun k_=>some k_≠(u14:Value).ownBlock/\k_≠er)) (by (with_reducible repeat (first|apply Kd.cg|apply Kd.cj|apply Kd.cJ));first|exact Kd.eR cY.out (fun _ hk=>⟨⟨hk.1,hk.2.2⟩,hk.2.1⟩)|exact Kd.eR cY.out (fun _ hk=>⟨⟨hk.2.1,hk.2.2⟩,hk.1⟩)) hg hat);have aA:=Aside0.mk (Kd.wh (ok:=(fun k_=>some k_≠(v232:Value).ownBlock/\k_≠er)) (by (with_reducible repeat (first|apply Kd.cg|apply Kd.cj|apply Kd.cJ));first|exact Kd.eR dB.out (fun _ hk=>⟨⟨hk.1,hk.2.2⟩,hk.2.1⟩)|exact Kd.eR dB.out (fun _ hk=>⟨⟨hk.2.1,hk.2.2⟩,hk.1⟩)) hg hat);have aD:=Aside0.mk (lN (g:=cA) (o:= .cells #[.bool dh,.int .i64 cS,.int .i64 cI,.slice none 0 0,.slice none 0 0] 29 (0,0)) (aJ bC) hg (Kd.BG jy.out bC.out (by decide)));have aR:=Aside0.mk (lN (g:=er) (o:= .cells #[u235000,.bool true,.int .i64 1] 49 (0,0)) (aJ eA) hg (Kd.BG jy.out eA.out (by decide)));have bK:=Aside0.mk (hb);have bT:=Aside0.mk (ho);clear cY;clear dB;clear bC;clear eA;clear HB;clear jy;have cY:=ay;have dB:=aA;have bC:=aD;have eA:=aR;have HB:=bK;have a4P:=bT;clear ay aA aD aR bK bT;clear ho hb hg hat;obtain ⟨VN,VO,b8M⟩:=Kd.cX a4P.out;subst b8M;have a7f:w63.cell? ⟨er,0,none⟩=some (u235000):=(ag eA.out 0).trans rfl;have a7g:w63.cell? ⟨er,1,none⟩=some (.bool true):=(ag eA.out 1).trans rfl;have a7h:w63.cell? ⟨er,2,none⟩=some (.int .i64 1):=(ag eA.out 2).trans rfl;have a7i:=aa eA.out 0;have a7j:=aa eA.out 1;have a7k:=aa eA.out 2))
                       go_roundg k5
                       case measure=>have:=rV.out;have:=qJ.out;have:=vL.out;have:=uR.out;have:=CP.out;omega
                       case rel=>exact ⟨(wrap64 (gv+1)),(LB),(.slice VN LB.length VO),(by first|rfl|(simp;done)|(simp [*];done)),H',⟨by have:=rV.out;have:=qJ.out;have:=vL.out;have:=uR.out;have:=CP.out;omega⟩,⟨by (with_reducible repeat (first|apply Kd.cg|apply Kd.cj|apply Kd.cJ));exact Kd.eR (Kd.qO (p:=⟨er,0,none⟩) (Kd.eR cY.out (fun k_ hk=>(⟨hk,hk.1.2⟩:_/\k_≠er))) (fun _ hk=>hk.2) (.slice VN LB.length VO)) (fun _ hk=>⟨hk.1.1.1,⟨hk.1.2,hk.1.1.2⟩⟩)⟩,⟨by (with_reducible repeat (first|apply Kd.cg|apply Kd.cj|apply Kd.cJ));exact Kd.eR (Kd.qO (p:=⟨er,0,none⟩) (Kd.eR dB.out (fun k_ hk=>(⟨hk,hk.1.2⟩:_/\k_≠er))) (fun _ hk=>hk.2) (.slice VN LB.length VO)) (fun _ hk=>⟨hk.1.1.1,⟨hk.1.2,hk.1.1.2⟩⟩)⟩,⟨by (with_reducible repeat (first|apply Kd.cF|apply Kd.dm|apply Kd.dO));exact Kd.dU (Kd.kr (p:=⟨er,0,none⟩) (Kd.oM a4P.out eA.out (by decide)) (fun _ hk=>hk.2) (.slice VN LB.length VO)) (fun _ hk=>trivial)⟩,⟨by (with_reducible repeat (first|refine au ?_ _|refine ak ?_|refine aq ?_ _));refine di ?_ oh.out _;(with_reducible repeat (first|refine au ?_ _|refine ak ?_|refine aq ?_ _));exact bC.out⟩,⟨by (with_reducible repeat (first|refine au ?_ _|refine ak ?_|refine aq ?_ _));refine aX (cs:= #[u235000,.bool true,.int .i64 1]) ?_ 0 _ rfl;(with_reducible repeat (first|refine au ?_ _|refine ak ?_|refine aq ?_ _));exact eA.out⟩,⟨ax⟩⟩
                      ·rw [if_neg Zh] at H
                       exact absurd H (by simp)
                     ·replace Zg:=Bool.eq_false_iff.mpr Zg
                      subst Zg
                      have H1:(aC.l4 k5 l0 l1 vB mo (eu l1 fe) l1 (l1.length:Int) fe l0 (l0.length:Int) (wrap64 (gv+1)) en true 1)=some (r1,r2,r3,r4,r5):=by rw [if_neg (show ¬(false=true) by decide)] at H;exact H
                      clear H
                      have H:=H1
                      clear H1
                      have H':=Aside0.mk H
                      clear H
                      have CQ:0<=(gv:Int):=of_decide_eq_true (by first|(with_reducible assumption)|assumption)
                      have CR:gv<(l0.length:Int):=of_decide_eq_true (by first|(with_reducible assumption)|assumption)
                      obtain ⟨b4A,a2p,rW⟩:=Kd.fC eL.out gv CQ CR
                      cases a2p
                      replace rW:=(HB.out.cell (World.block_lt_of_cell? w _ rW)).trans rW
                      replace CQ:=eq_true CQ
                      replace CR:=eq_true CR
                      go_wp2_with (first|((with_reducible refine aZ (f:=23) rfl ?_);refine bO (some 104) rfl rfl Try.func23 (by kernel_rfl) rfl #[.slice Zc (eu l1 fe).length Zd,.int .i64 (rd l0 gv)] rfl (by (try simp only [List.map_toArray,List.map_cons,List.map_nil]);first|done|rfl|(simp only [List.length_drop,List.length_take];rfl)) ?_;(with_reducible refine (bH.calls k5 _ _ (eu l1 fe) (rd l0 gv) false _ ?bX ?bY A58.out).mono ?_);(case bX=>repeat (first|exact (Kd.bQ Tx.out HB.out)|(with_reducible refine Kd.cO ?_ _)|(with_reducible refine Kd.cP ?_ _)|(with_reducible refine Kd.dw ?_)));(case bY=>exact Ty.out);rintro e w' ⟨rfl,⟨nd,rfl⟩⟩;refine ⟨_,rfl,?_⟩))
                      go_roundg k5
                      case measure=>have:=rV.out;have:=qJ.out;have:=vL.out;have:=uR.out;have:=CP.out;omega
                      case rel=>exact ⟨(wrap64 (gv+1)),(en),(u235000),(by first|rfl|(simp;done)|(simp [*];done)),H',⟨by have:=rV.out;have:=qJ.out;have:=vL.out;have:=uR.out;have:=CP.out;omega⟩,⟨by (with_reducible repeat (first|apply Kd.cg|apply Kd.cj|apply Kd.cJ));exact cY.out⟩,⟨by (with_reducible repeat (first|apply Kd.cg|apply Kd.cj|apply Kd.cJ));exact dB.out⟩,⟨by (with_reducible repeat (first|apply Kd.cF|apply Kd.dm|apply Kd.dO));exact jy.out⟩,⟨by (with_reducible repeat (first|refine au ?_ _|refine ak ?_|refine aq ?_ _));exact bC.out⟩,⟨by (with_reducible repeat (first|refine au ?_ _|refine ak ?_|refine aq ?_ _));exact eA.out⟩,⟨ax⟩⟩
                    ·rw [if_neg Zf] at H
                     exact absurd H (by simp)
                   ·rw [if_neg Ze] at H
                    exact absurd H (by simp)
                  ·rw [if_neg QL] at H
                   have a4O:decide (gv<(l0.length:Int))=false:=decide_eq_false QL
                   clear QL
                   by_cases QM:(en.length:Int)>0
                   ·rw [if_pos QM] at H
                    have a4Q:decide (0<(en.length:Int))=true:=decide_eq_true QM
                    have a4R:decide (0<en.length)=true:=decide_eq_true (by omega)
                    clear QM
                    by_cases Zi:mo.length<3518437208883
                    ·rw [if_pos Zi] at H
                     have b4B:=Aside0.mk Zi
                     clear Zi
                     obtain ⟨b1q,Ji⟩:∃y_:List (cC),y_=(mo++[(⟨en,true,1⟩:cC)]):=⟨_,rfl⟩
                     replace H:(aC.l3 k5 l0 l1 vB b1q l1 (l1.length:Int) (wrap64 (fe+1)))=some (r1,r2,r3,r4,r5):=by first|(rw [Ji];with_reducible exact H)|(have dK:=(Option.bind_some _ _).symm.trans H;rw [Ji];with_reducible exact dK)|(have dK:=(Option.bind_some _ _).symm.trans H;with_reducible exact dK)|with_reducible exact H|(rw [Ji];exact H)|exact H
                     have b4C:=Aside0.mk Ji
                     clear Ji
                     have H':=Aside0.mk H
                     clear H
                     have hnb68:=yb.out
                     have hnc68:=oh.out
                     have a7l:wr.cell? ⟨er,0,none⟩=some (u235000):=(ag eA.out 0).trans rfl
                     have a7m:wr.cell? ⟨er,1,none⟩=some (.bool true):=(ag eA.out 1).trans rfl
                     have a7n:wr.cell? ⟨er,2,none⟩=some (.int .i64 1):=(ag eA.out 2).trans rfl
                     have a7o:=aa eA.out 0
                     have a7p:=aa eA.out 1
                     have a7q:=aa eA.out 2
                     obtain ⟨QN,QO,b8N⟩:=Kd.cX jy.out
                     subst b8N
                     go_wp2_with (first|((with_reducible refine cK (b:= .append) (xs:= #[.tmp 116,.tmp 118]) rfl ?_);(try (refine gU (by rfl) ?_;dsimp only));at_builtin;refine Kd.Aj jh (w0:=w) w.heap.size rfl (.tmp 116) (.tmp 118) 47 49 (.agg #[(.slice none 0 0),(.bool false),(.int .i64 0)]) 40 rfl Try.underlying47 GL rfl (by decide) (by omega) u14 mo (⟨en,true,1⟩:cC) [.slice QN en.length QO,.bool true,.int .i64 1] (fun k_=>some k_≠(v232:Value).ownBlock/\k_≠er) (fun k_=>some k_=(.slice QN en.length QO:Value).ownBlock) rfl rfl ?aP (fun k_ sq=>((Kd.dU (ok':=fun k_=>((fun k_=>some k_≠(v232:Value).ownBlock/\k_≠er)) k_/\some k_≠(u14:Value).ownBlock) (Kd.oM (Kd.iN (Kd.iN (jy.out) (Kd.jV cY.out) (by decide)) (Kd.jV dB.out) (by decide)) eA.out (by decide)) (fun k_ hk=>⟨⟨hk.1.1.2,hk.2⟩,hk.1.2⟩))).1 k_ sq.symm) ?aF ?aO ?aB ?aS ?aL ?_;(case aP=>exact Dm _ _ _ (⟨en,true,1⟩:cC) (Kd.dU (Kd.rK rfl (Kd.dU (ok':=fun k_=>((fun k_=>some k_≠(v232:Value).ownBlock/\k_≠er)) k_/\some k_≠(u14:Value).ownBlock) (Kd.oM (Kd.iN (Kd.iN (jy.out) (Kd.jV cY.out) (by decide)) (Kd.jV dB.out) (by decide)) eA.out (by decide)) (fun k_ hk=>⟨⟨hk.1.1.2,hk.2⟩,hk.1.2⟩))) (fun _ h_=>h_)));(case aB=>exact ax);(case aF=>exact (fun k_ hk=>⟨Kd.fresh' (Kd.Ul (by (with_reducible repeat (first|apply Kd.cg|apply Kd.cj|apply Kd.cJ));exact cY.out)) k_ hk,Kd.Wo (g:=er) (o:= .cells #[.slice QN en.length QO,.bool true,.int .i64 1] 49 (0,0)) (aJ eA) k_ hk⟩));(case aO=>exact (by (with_reducible repeat (first|apply Kd.cg|apply Kd.cj|apply Kd.cJ));exact Kd.eR dB.out (fun k_ hk=>⟨⟨hk.1,hk.2.2⟩,fun e_=>hk.2.1 e_⟩)));(case aS=>exact (av ax));(case aL=>have:=b4B.out;omega);intro v241 w71 ho hb hg hat;rw [<-b4C.out] at ho;have ay:=Aside0.mk (Kd.wh (ok:=(fun k_=>some k_≠(.slice QN en.length QO:Value).ownBlock/\k_≠er)) (by (with_reducible repeat (first|apply Kd.cg|apply Kd.cj|apply Kd.cJ));exact Kd.eR cY.out (fun _ hk=>⟨⟨hk.2.1,hk.2.2⟩,hk.1⟩)) hg hat);have aA:=Aside0.mk (lN (g:=cA) (o:= .cells #[.bool dh,.int .i64 cS,.int .i64 cI,.slice none 0 0,.slice none 0 0] 29 (0,0)) (aJ bC) hg (Kd.Um dB.out bC.out (by decide)));have aD:=Aside0.mk (lN (g:=er) (o:= .cells #[.slice QN en.length QO,.bool true,.int .i64 1] 49 (0,0)) (aJ eA) hg (Kd.Wu dB.out (fun _ hk=>hk.2.2)));have aR:=Aside0.mk (hb);have bK:=Aside0.mk (ho);clear cY;clear bC;clear eA;clear HB;clear dB;clear jy;have cY:=ay;have bC:=aA;have eA:=aD;have HB:=aR;have b4D:=bK;clear ay aA aD aR bK;clear ho hb hg hat))
                     go_roundg k5
                     case measure=>have:=rV.out;have:=qJ.out;have:=vL.out;have:=uR.out;have:=CP.out;omega
                     case rel=>exact ⟨(vB),(b1q),(wrap64 (fe+1)),(by first|rfl|(simp;done)|(simp [*];done)),H',⟨by have:=rV.out;have:=qJ.out;have:=vL.out;have:=uR.out;have:=CP.out;omega⟩,⟨by (with_reducible repeat (first|apply Kd.cg|apply Kd.cj|apply Kd.cJ));exact Kd.eR cY.out (fun _ hk=>hk.2)⟩,⟨by (with_reducible repeat (first|apply Kd.cg|apply Kd.cj|apply Kd.cJ));exact Kd.eR b4D.out (fun _ hk=>hk.1)⟩,⟨by (with_reducible repeat (first|refine au ?_ _|refine ak ?_|refine aq ?_ _));exact bC.out⟩,⟨ax⟩⟩
                    ·rw [if_neg Zi] at H
                     exact absurd H (by simp)
                   ·rw [if_neg QM] at H
                    have a4Q:decide (0<(en.length:Int))=false:=decide_eq_false QM
                    have a4R:decide (0<en.length)=false:=decide_eq_false (by omega)
                    clear QM
                    have H':=Aside0.mk H
                    clear H
                    have hnb72:=yb.out
                    have hnc72:=oh.out
                    have a7r:wr.cell? ⟨er,0,none⟩=some (u235000):=(ag eA.out 0).trans rfl
                    have a7s:wr.cell? ⟨er,1,none⟩=some (.bool true):=(ag eA.out 1).trans rfl
                    have a7t:wr.cell? ⟨er,2,none⟩=some (.int .i64 1):=(ag eA.out 2).trans rfl
                    have a7u:=aa eA.out 0
                    have a7v:=aa eA.out 1
                    have a7w:=aa eA.out 2
                    obtain ⟨Ao74,co74,b8O⟩:=Kd.cX jy.out
                    subst b8O
                    go_wp2
                    go_roundg k5
                    case measure=>have:=rV.out;have:=qJ.out;have:=vL.out;have:=uR.out;have:=CP.out;omega
                    case rel=>exact ⟨(vB),(mo),(wrap64 (fe+1)),(by first|rfl|(simp;done)|(simp [*];done)),H',⟨by have:=rV.out;have:=qJ.out;have:=vL.out;have:=uR.out;have:=CP.out;omega⟩,⟨by (with_reducible repeat (first|apply Kd.cg|apply Kd.cj|apply Kd.cJ));exact Kd.eR cY.out (fun _ hk=>hk.1)⟩,⟨by (with_reducible repeat (first|apply Kd.cg|apply Kd.cj|apply Kd.cJ));exact Kd.eR dB.out (fun _ hk=>hk.1)⟩,⟨by (with_reducible repeat (first|refine au ?_ _|refine ak ?_|refine aq ?_ _));exact bC.out⟩,⟨ax⟩⟩
               ·rw [if_neg Tu] at H
                exact absurd H (by simp)
              ·rw [if_neg CA] at H
               exact absurd H (by simp)
             ·rw [if_neg Cz] at H
              exact absurd H (by simp)
            ·rw [if_neg zH] at H
             have NG:decide (fe<(l1.length:Int))=false:=decide_eq_false zH
             clear zH
             have H':=Aside0.mk H
             clear H
             go_wp2
             go_loopg [14,123] k4 (fun kq v14 v123 w'=>∃(sK:List (cC)) (nc:Int),v123= .int .i64 nc/\Aside0 (aC.l5 kq l0 l1 sJ sK (l0.length:Int) nc=some (r1,r2,r3,r4,r5))/\Aside0 (kq<=k4)/\Aside0 (Kd.S jh 49 w' w.heap.size (fun k_=>some k_≠(v14:Value).ownBlock) u8 sJ)/\Aside0 (Kd.S jh 49 w' w.heap.size (fun k_=>some k_≠(u8:Value).ownBlock) v14 sK)/\Aside0 (w'.heap[cA]? =some (.cells #[.bool dh,.int .i64 cS,.int .i64 cI,(.slice none 0 0),(.slice none 0 0)] 29 (0,0)))/\Aside0 (Below w.heap.size w w'))
             case atStart=>exact ⟨(mo),(0),(by first|rfl|(simp;done)|(simp [*];done)),H',⟨Nat.le_refl _⟩,⟨by (with_reducible repeat (first|apply Kd.cg|apply Kd.cj|apply Kd.cJ));exact cY.out⟩,⟨by (with_reducible repeat (first|apply Kd.cg|apply Kd.cj|apply Kd.cJ));exact dB.out⟩,⟨by (with_reducible repeat (first|refine au ?_ _|refine ak ?_|refine aq ?_ _));exact bC.out⟩,⟨ax⟩⟩
             case round=>
              clear H'
              try clear c1
              try clear c2
              try clear p2
              try clear q2
              try clear hx2
              try clear c3
              try clear c4
              try clear c5
              try clear c6
              try clear p6
              try clear c7
              try clear si
              try clear c8
              try clear td
              try clear c9
              try clear Fg
              try clear c10
              try clear c12
              try clear c15
              try clear Ja
              try clear c16
              try clear NI
              try clear c17
              try clear NJ
              try clear c19
              try clear c20
              try clear Ts
              try clear Tt
              try clear a2j
              try clear Jb
              try clear NK
              try clear p21
              try clear q21
              try clear b1m
              try clear QB
              try clear VI
              try clear p22
              try clear q22
              try clear b8L
              try clear QD
              try clear VJ
              try clear p23
              try clear q23
              try clear hx23
              try clear QE
              try clear MF
              try clear c27
              try clear CO
              try clear NL
              try clear NM
              try clear VK
              try clear c33
              try clear QI
              try clear c38
              try clear zH
              try clear NG
              try clear Cz
              try clear Vj
              try clear CA
              try clear Vk
              try clear Tu
              try clear c53
              try clear QL
              try clear a4O
              try clear Ze
              try clear b4w
              try clear Zf
              try clear b4x
              try clear Zg
              try clear Zh
              try clear c61
              try clear p64
              try clear QM
              try clear a4Q
              try clear a4R
              try clear Zi
              try clear c68
              try clear c72
              try clear zC
              try clear zD
              try clear Eb
              try clear tJ
              try clear tK
              try clear Lu
              try clear yZ
              try clear za
              try clear zb
              try clear Dq
              try clear Dr
              try clear Ds
              try clear zh
              try clear zi
              try clear zj
              try clear Dw
              try clear Dx
              try clear DI
              try clear DJ
              try clear Lx
              try clear Tz
              try clear TA
              try clear TB
              try clear a6Z
              try clear a7a
              try clear a7b
              try clear a7f
              try clear a7g
              try clear a7h
              try clear a7l
              try clear a7m
              try clear a7n
              try clear a7r
              try clear a7s
              try clear a7t
              try clear zE
              try clear zF
              try clear Ec
              try clear tL
              try clear tM
              try clear Lv
              try clear ze
              try clear zf
              try clear zg
              try clear Dt
              try clear Du
              try clear Dv
              try clear zk
              try clear zl
              try clear zm
              try clear Dy
              try clear Dz
              try clear DK
              try clear DL
              try clear Lz
              try clear TC
              try clear TD
              try clear TE
              try clear a7c
              try clear a7d
              try clear a7e
              try clear a7i
              try clear a7j
              try clear a7k
              try clear a7o
              try clear a7p
              try clear a7q
              try clear a7u
              try clear a7v
              try clear a7w
              try clear mD
              try clear tQ
              try clear oN
              try clear zU
              try clear rW
              try clear p2
              try clear Ts
              try clear vz
              try clear p21
              try clear Gk
              try clear yz
              try clear p22
              try clear QJ
              try clear CQ
              try clear p6
              try clear q2
              try clear Tt
              try clear vA
              try clear q21
              try clear Gl
              try clear yA
              try clear q22
              try clear QK
              try clear CR
              obtain ⟨sK,nc,rfl,HA,CP,cY,dB,bC,HB⟩:=hrel
              cases gk with
              |zero=>exact absurd HA.out (by simp [aC.l5])
              |succ k5=>
               have H:=HA.out
               clear HA
               simp only [aC.l5] at H
               by_cases TF:nc<(l0.length:Int)
               ·rw [if_pos TF] at H
                have b4E:decide (nc<(l0.length:Int))=true:=decide_eq_true TF
                clear TF
                obtain ⟨Gp,Jj⟩:∃y_:List Int,y_=(([nc]:List Int)):=⟨_,rfl⟩
                replace H:(if sK.length<3518437208883 then (aC.l5 k5 l0 l1 sJ (sK++[(⟨Gp,false,0⟩:cC)]) (l0.length:Int) (wrap64 (nc+1))) else (none))=some (r1,r2,r3,r4,r5):=by first|(rw [Jj];with_reducible exact H)|(have dK:=(Option.bind_some _ _).symm.trans H;rw [Jj];with_reducible exact dK)|(have dK:=(Option.bind_some _ _).symm.trans H;with_reducible exact dK)|with_reducible exact H|(rw [Jj];exact H)|exact H
                have a4S:=Aside0.mk Jj
                clear Jj
                by_cases c76:sK.length<3518437208883
                ·rw [if_pos c76] at H
                 have b4F:=Aside0.mk c76
                 clear c76
                 obtain ⟨b1r,Jk⟩:∃y_:List (cC),y_=(sK++[(⟨Gp,false,0⟩:cC)]):=⟨_,rfl⟩
                 replace H:(aC.l5 k5 l0 l1 sJ b1r (l0.length:Int) (wrap64 (nc+1)))=some (r1,r2,r3,r4,r5):=by first|(rw [Jk];with_reducible exact H)|(have dK:=(Option.bind_some _ _).symm.trans H;rw [Jk];with_reducible exact dK)|(have dK:=(Option.bind_some _ _).symm.trans H;with_reducible exact dK)|with_reducible exact H|(rw [Jk];exact H)|exact H
                 have b4G:=Aside0.mk Jk
                 clear Jk
                 have H':=Aside0.mk H
                 clear H
                 go_wp2_with (first|((with_reducible refine bk (N:=128) rfl ?_);(try (refine gU (by rfl) ?_;dsimp only));refine Kd.Ag (Kd.int .i64) _ 3 ?hg (N:=128) ?hd (xs:=([nc]:List Int)) (inner:=[.int .i64 nc]) (ok:=fun _=>True) (fN:=fun _=>True) ?hr ?hp (fun _ hk=>hk) trivial (Below.refl _ _) (Nat.le_refl _) (by simp) ?_;(case hd=>rfl);(case hg=>rfl);(case hr=>first|(go_simp;done)|(go_simp;rfl));(case hp=>exact (cT.one (show Kd.M (Kd.int .i64) _ _ _ nc [.int .i64 nc] from rfl) (cT.none _ _)));intro v244 w77 Gq hb uw mG;clear uw mG;(first|rw [<-a4S.out] at Gq|(simp only [Int.reduceToNat] at Gq;rw [<-a4S.out] at Gq));have ay:=Aside0.mk (Kd.sX (by (with_reducible repeat (first|apply Kd.cg|apply Kd.cj|apply Kd.cJ));exact cY.out) (Kd.um Gq) hb);have aA:=Aside0.mk (Kd.sX (by (with_reducible repeat (first|apply Kd.cg|apply Kd.cj|apply Kd.cJ));exact dB.out) (Kd.um Gq) hb);have aD:=Aside0.mk (Kd.gG Gq (av ax));have aR:=Aside0.mk (ah (g:=cA) (o:= .cells #[.bool dh,.int .i64 cS,.int .i64 cI,.slice none 0 0,.slice none 0 0] 29 (0,0)) (aJ bC) hb);have bK:=Aside0.mk (ai ax hb);clear cY;clear dB;clear bC;clear HB;have cY:=ay;have dB:=aA;have NR:=aD;have bC:=aR;have HB:=bK;clear ay aA aD aR bK;clear hb Gq;obtain ⟨a2q,a2r,b8P⟩:=Kd.cX NR.out;subst b8P)|((with_reducible refine cK (b:= .append) (xs:= #[.tmp 126,.tmp 130]) rfl ?_);(try (refine gU (by rfl) ?_;dsimp only));at_builtin;refine Kd.Aj jh (w0:=w) w.heap.size rfl (.tmp 126) (.tmp 130) 47 49 (.agg #[(.slice none 0 0),(.bool false),(.int .i64 0)]) 40 rfl Try.underlying47 GL rfl (by decide) (by omega) u14 sK (⟨Gp,false,0⟩:cC) [.slice a2q Gp.length a2r,.bool false,.int .i64 0] (fun k_=>some k_≠(u8:Value).ownBlock) (fun k_=>some k_=(.slice a2q Gp.length a2r:Value).ownBlock) rfl rfl ?aP (fun k_ sq=>((Kd.dU (ok':=fun k_=>((fun k_=>some k_≠(u8:Value).ownBlock)) k_/\some k_≠(u14:Value).ownBlock) (Kd.iN (Kd.iN (NR.out) (Kd.jV cY.out) (by decide)) (Kd.jV dB.out) (by decide)) (fun k_ hk=>⟨hk.1.2,hk.2⟩))).1 k_ sq.symm) ?aF ?aO ?aB ?aS ?aL ?_;(case aP=>exact Dm _ _ _ (⟨Gp,false,0⟩:cC) (Kd.dU (Kd.rK rfl (Kd.dU (ok':=fun k_=>((fun k_=>some k_≠(u8:Value).ownBlock)) k_/\some k_≠(u14:Value).ownBlock) (Kd.iN (Kd.iN (NR.out) (Kd.jV cY.out) (by decide)) (Kd.jV dB.out) (by decide)) (fun k_ hk=>⟨hk.1.2,hk.2⟩))) (fun _ h_=>h_)));(case aB=>exact ax);(case aF=>exact (fun k_ hk=>Kd.fresh' (Kd.Ul (by (with_reducible repeat (first|apply Kd.cg|apply Kd.cj|apply Kd.cJ));exact cY.out)) k_ hk));(case aO=>exact (by (with_reducible repeat (first|apply Kd.cg|apply Kd.cj|apply Kd.cJ));exact Kd.eR dB.out (fun k_ hk=>⟨hk.1,fun e_=>hk.2 e_⟩)));(case aS=>exact (av ax));(case aL=>have:=b4F.out;omega);intro v247 w80 ho hb hg hat;rw [<-b4G.out] at ho;have ay:=Aside0.mk (Kd.wh (ok:=(fun k_=>some k_≠(.slice a2q Gp.length a2r:Value).ownBlock)) (by (with_reducible repeat (first|apply Kd.cg|apply Kd.cj|apply Kd.cJ));exact Kd.eR cY.out (fun _ hk=>⟨hk.2,hk.1⟩)) hg hat);have aA:=Aside0.mk (lN (g:=cA) (o:= .cells #[.bool dh,.int .i64 cS,.int .i64 cI,.slice none 0 0,.slice none 0 0] 29 (0,0)) (aJ bC) hg (Kd.Um dB.out bC.out (by decide)));have aD:=Aside0.mk (hb);have aR:=Aside0.mk (ho);clear cY;clear bC;clear HB;clear dB;clear NR;have cY:=ay;have bC:=aA;have HB:=aD;have b4H:=aR;clear ay aA aD aR;clear ho hb hg hat))
                 go_roundg k5
                 case measure=>have:=rV.out;have:=qJ.out;have:=vL.out;have:=uR.out;have:=CP.out;omega
                 case rel=>exact ⟨(b1r),(wrap64 (nc+1)),(by first|rfl|(simp;done)|(simp [*];done)),H',⟨by have:=rV.out;have:=qJ.out;have:=vL.out;have:=uR.out;have:=CP.out;omega⟩,⟨by (with_reducible repeat (first|apply Kd.cg|apply Kd.cj|apply Kd.cJ));exact Kd.eR cY.out (fun _ hk=>hk.2)⟩,⟨by (with_reducible repeat (first|apply Kd.cg|apply Kd.cj|apply Kd.cJ));exact b4H.out⟩,⟨by (with_reducible repeat (first|refine au ?_ _|refine ak ?_|refine aq ?_ _));exact bC.out⟩,⟨ax⟩⟩
                ·rw [if_neg c76] at H
                 exact absurd H (by simp)
               ·rw [if_neg TF] at H
                have b4E:decide (nc<(l0.length:Int))=false:=decide_eq_false TF
                clear TF
                by_cases MZ:(l0.length:Int)=0
                ·rw [if_pos MZ] at H
                 have b4I:((l0.length:Int)==0)=true:=beq_iff_eq.mpr MZ
                 have b4J:((l0.length:Int) !=0)=false:=bne_eq_false_iff_eq.mpr MZ
                 clear MZ
                 replace H:=Option.bind_eq_some_iff.mp H
                 obtain ⟨AZ,b1s,H⟩:=H
                 replace H:(some (true,0,1,AZ,(([]:List (bV)))))=some (r1,r2,r3,r4,r5):=H
                 have A82:=Aside0.mk b1s
                 clear b1s
                 obtain ⟨VP,Jl⟩:∃y_:List (bV),y_=(([]:List (bV))):=⟨_,rfl⟩
                 replace H:(some (true,0,1,AZ,VP))=some (r1,r2,r3,r4,r5):=by first|(rw [Jl];with_reducible exact H)|(have dK:=(Option.bind_some _ _).symm.trans H;rw [Jl];with_reducible exact dK)|(have dK:=(Option.bind_some _ _).symm.trans H;with_reducible exact dK)|with_reducible exact H|(rw [Jl];exact H)|exact H
                 have a4U:=Aside0.mk Jl
                 clear Jl
                 simp only [Option.some.injEq,Prod.mk.injEq] at H
                 obtain ⟨rfl,rfl,rfl,rfl,rfl⟩:=H
                 go_wp2_with (first|((with_reducible refine aZ (f:=24) rfl ?_);refine bO (some 139) rfl rfl Try.func24 (by kernel_rfl) rfl #[.int .i64 (l1.length:Int)] rfl (by (try simp only [List.map_toArray,List.map_cons,List.map_nil]);first|done|rfl|(simp only [List.length_drop,List.length_take];rfl)) ?_;(with_reducible refine (bU.calls k5 (l1.length:Int) AZ _ A82.out).mono ?_);rintro e w83 ⟨v250,rfl,sk,hb⟩;refine ⟨_,rfl,?_⟩;have ay:=Aside0.mk (Kd.jU (by (with_reducible repeat (first|apply Kd.cg|apply Kd.cj|apply Kd.cJ));exact cY.out) hb);have aA:=Aside0.mk (Kd.jU (by (with_reducible repeat (first|apply Kd.cg|apply Kd.cj|apply Kd.cJ));exact dB.out) hb);have aD:=Aside0.mk (Kd.gG sk (av ax));have aR:=Aside0.mk (ah (g:=cA) (o:= .cells #[.bool dh,.int .i64 cS,.int .i64 cI,.slice none 0 0,.slice none 0 0] 29 (0,0)) (aJ bC) hb);have bK:=Aside0.mk (ai ax hb);clear cY;clear dB;clear bC;clear HB;have cY:=ay;have dB:=aA;have Ed:=aD;have bC:=aR;have HB:=bK;clear ay aA aD aR bK;(try clear hb);(try clear hb2);(try clear hk);(try clear hi);(try clear sk))|((with_reducible refine bk (N:=140) rfl ?_);(try (refine gU (by rfl) ?_;dsimp only));refine Kd.Ag fD _ 26 ?hg (N:=140) ?hd (xs:=([]:List (bV))) (inner:=[]) (ok:=fun _=>True) (fN:=fun _=>True) ?hr ?hp (fun _ hk=>hk) trivial (Below.refl _ _) (Nat.le_refl _) (by simp) ?_;(case hd=>rfl);(case hg=>rfl);(case hr=>first|(go_simp;done)|(go_simp;rfl));(case hp=>exact (cT.none _ _));intro v253 Zj LC hb uw mG;clear uw mG;(first|rw [<-a4U.out] at LC|(simp only [Int.reduceToNat] at LC;rw [<-a4U.out] at LC));have ay:=Aside0.mk (Kd.jU (by (with_reducible repeat (first|apply Kd.cg|apply Kd.cj|apply Kd.cJ));exact cY.out) hb);have aA:=Aside0.mk (Kd.jU (by (with_reducible repeat (first|apply Kd.cg|apply Kd.cj|apply Kd.cJ));exact dB.out) hb);have aD:=Aside0.mk (Kd.EX (by (with_reducible repeat (first|apply Kd.cF|apply Kd.dm|apply Kd.dO));exact Ed.out) (Kd.um LC) hb);have aR:=Aside0.mk (Kd.gG (Kd.Oc LC (Kd.a0c (by (with_reducible repeat (first|apply Kd.cF|apply Kd.dm|apply Kd.dO));exact Ed.out))) (av ax));have bK:=Aside0.mk (ah (g:=cA) (o:= .cells #[.bool dh,.int .i64 cS,.int .i64 cI,.slice none 0 0,.slice none 0 0] 29 (0,0)) (aJ bC) hb);have bT:=Aside0.mk (ai ax hb);clear cY;clear dB;clear Ed;clear bC;clear HB;have cY:=ay;have dB:=aA;have Ed:=aD;have a4V:=aR;have bC:=bK;have HB:=bT;clear ay aA aD aR bK bT;clear hb LC;obtain ⟨a2s,a2t,b8Q⟩:=Kd.cX a4V.out;subst b8Q;obtain ⟨VQ,VR,b8R⟩:=Kd.cX Ed.out;subst b8R;have hcz88_0:Zj.cell? ⟨cA,0,none⟩=some (.bool dh):=(ag bC.out 0).trans rfl;have hcz88_1:Zj.cell? ⟨cA,1,none⟩=some (.int .i64 cS):=(ag bC.out 1).trans rfl;have hcz88_2:Zj.cell? ⟨cA,2,none⟩=some (.int .i64 cI):=(ag bC.out 2).trans rfl;have hcz88_3:Zj.cell? ⟨cA,3,none⟩=some (.slice none 0 0):=(ag bC.out 3).trans rfl;have hcz88_4:Zj.cell? ⟨cA,4,none⟩=some (.slice none 0 0):=(ag bC.out 4).trans rfl;have hfz88_0:=aa bC.out 0;have hfz88_1:=aa bC.out 1;have hfz88_2:=aa bC.out 2;have hfz88_3:=aa bC.out 3;have hfz88_4:=aa bC.out 4))
                 refine bodyPost_ret (results_cell_row rfl _ _ cA 29 #[.bool true,.int .i64 0,.int .i64 1,.slice VQ AZ.length VR,.slice a2s VP.length a2t] (0,0) _ rfl (by (with_reducible repeat (first|refine au ?_ _|refine ak ?_|refine aq ?_ _));refine aX (cs:= #[.bool true,.int .i64 0,.int .i64 1,.slice VQ AZ.length VR,.slice none 0 0]) ?_ 4 _ rfl;(with_reducible repeat (first|refine au ?_ _|refine ak ?_|refine aq ?_ _));refine aX (cs:= #[.bool true,.int .i64 0,.int .i64 1,.slice none 0 0,.slice none 0 0]) ?_ 3 _ rfl;(with_reducible repeat (first|refine au ?_ _|refine ak ?_|refine aq ?_ _));refine aX (cs:= #[.bool true,.int .i64 0,.int .i64 cI,.slice none 0 0,.slice none 0 0]) ?_ 2 _ rfl;(with_reducible repeat (first|refine au ?_ _|refine ak ?_|refine aq ?_ _));refine aX (cs:= #[.bool true,.int .i64 cS,.int .i64 cI,.slice none 0 0,.slice none 0 0]) ?_ 1 _ rfl;(with_reducible repeat (first|refine au ?_ _|refine ak ?_|refine aq ?_ _));refine aX (cs:= #[.bool dh,.int .i64 cS,.int .i64 cI,.slice none 0 0,.slice none 0 0]) ?_ 0 _ rfl;(with_reducible repeat (first|refine au ?_ _|refine ak ?_|refine aq ?_ _));exact bC.out) Try.underlying29 rfl (by kernel_rfl)) rfl ?_
                 exact ⟨_,_,by first|rfl|(simp [aM,aQ]<;>rfl)|(simp [*,aM,aQ]<;>rfl),by (with_reducible repeat (first|apply Kd.cF|apply Kd.dm|apply Kd.dO));exact Kd.dU (Kd.kr (p:=⟨cA,4,none⟩) (Kd.kr (p:=⟨cA,3,none⟩) (Kd.kr (p:=⟨cA,2,none⟩) (Kd.kr (p:=⟨cA,1,none⟩) (Kd.kr (p:=⟨cA,0,none⟩) (Kd.oM Ed.out bC.out (by decide)) (fun _ hk=>hk.2) (.bool true)) (fun _ hk=>hk.2) (.int .i64 0)) (fun _ hk=>hk.2) (.int .i64 1)) (fun _ hk=>hk.2) (.slice VQ AZ.length VR)) (fun _ hk=>hk.2) (.slice a2s VP.length a2t)) (fun _ hk=>hk.1.2),by (with_reducible repeat (first|apply Kd.cF|apply Kd.dm|apply Kd.dO));exact Kd.dU (Kd.kr (p:=⟨cA,4,none⟩) (Kd.kr (p:=⟨cA,3,none⟩) (Kd.kr (p:=⟨cA,2,none⟩) (Kd.kr (p:=⟨cA,1,none⟩) (Kd.kr (p:=⟨cA,0,none⟩) (Kd.oM a4V.out bC.out (by decide)) (fun _ hk=>hk.2) (.bool true)) (fun _ hk=>hk.2) (.int .i64 0)) (fun _ hk=>hk.2) (.int .i64 1)) (fun _ hk=>hk.2) (.slice VQ AZ.length VR)) (fun _ hk=>hk.2) (.slice a2s VP.length a2t)) (fun _ hk=>hk.1.2),ax⟩
                ·rw [if_neg MZ] at H
                 have b4I:((l0.length:Int)==0)=false:=beq_eq_false_iff_ne.mpr MZ
                 have b4J:((l0.length:Int) !=0)=true:=bne_iff_ne.mpr MZ
                 have c81b2:¬(l0=[]):=fun h_=>MZ (by rw [h_];rfl)
                 replace H:=Option.bind_eq_some_iff.mp H
                 obtain ⟨rI,b1t,H⟩:=H
                 replace H:((dI.f k5 (l0.length:Int) sK 0 ([]:List (cC)) ([]:List (bV)) true).bind fun yx=>((bM.f k5 rI).bind fun xZ=>(some (true,xZ.1,xZ.2,rI,yx))))=some (r1,r2,r3,r4,r5):=H
                 have A89:=Aside0.mk b1t
                 clear b1t
                 replace H:=Option.bind_eq_some_iff.mp H
                 obtain ⟨yx,b1u,H⟩:=H
                 replace H:((bM.f k5 rI).bind fun xZ=>(some (true,xZ.1,xZ.2,rI,yx)))=some (r1,r2,r3,r4,r5):=H
                 have OH:=Aside0.mk b1u
                 clear b1u
                 replace H:=Option.bind_eq_some_iff.mp H
                 obtain ⟨⟨CT,Gr⟩,b1v,H⟩:=H
                 replace H:(some (true,CT,Gr,rI,yx))=some (r1,r2,r3,r4,r5):=H
                 have A91:=Aside0.mk b1v
                 clear b1v
                 simp only [Option.some.injEq,Prod.mk.injEq] at H
                 obtain ⟨rfl,rfl,rfl,rfl,rfl⟩:=H
                 obtain ⟨b8S,b8T,b8U⟩:=Kd.rL cY.out
                 subst b8U
                 go_wp2_with (first|((with_reducible refine aZ (f:=25) rfl ?_);refine bO (some 145) rfl rfl Try.func25 (by kernel_rfl) rfl #[.int .i64 (l1.length:Int),.slice b8S sJ.length b8T,.int .i64 0,.slice none 0 0,.slice none 0 0,.bool false] rfl (by (try simp only [List.map_toArray,List.map_cons,List.map_nil]);first|done|rfl|(simp only [List.length_drop,List.length_take];rfl)) ?_;(refine (dI.calls k5 (l1.length:Int) _ _ sJ 0 _ _ ([]:List (cC)) _ _ ([]:List (bV)) false rI _ ?bX ?bY ?iY ?iZ ?VS ?VT A89.out).mono ?_);(case bX=>repeat (first|exact (Kd.sY cY.out).2.2|(with_reducible refine Kd.cO ?_ _)|(with_reducible refine Kd.cP ?_ _)|(with_reducible refine Kd.dw ?_)));(case bY=>exact (Kd.sY cY.out).2.1);(case iY=>exact Kd.GC _ _);(case iZ=>exact Nat.le_refl _);(case VS=>exact Kd.GC _ _);(case VT=>exact Nat.le_refl _);rintro e w93 ⟨v256,rfl,sk,hb⟩;refine ⟨_,rfl,?_⟩;have ay:=Aside0.mk (Kd.jU (by (with_reducible repeat (first|apply Kd.cg|apply Kd.cj|apply Kd.cJ));exact cY.out) hb);have aA:=Aside0.mk (Kd.jU (by (with_reducible repeat (first|apply Kd.cg|apply Kd.cj|apply Kd.cJ));exact dB.out) hb);have aD:=Aside0.mk (Kd.gG sk (av ax));have aR:=Aside0.mk (ah (g:=cA) (o:= .cells #[.bool dh,.int .i64 cS,.int .i64 cI,.slice none 0 0,.slice none 0 0] 29 (0,0)) (aJ bC) hb);have bK:=Aside0.mk (ai ax hb);clear cY;clear dB;clear bC;clear HB;have cY:=ay;have dB:=aA;have sL:=aD;have bC:=aR;have HB:=bK;clear ay aA aD aR bK;(try clear hb);(try clear hb2);(try clear hk);(try clear hi);(try clear sk);obtain ⟨b8V,b8W,b8X⟩:=Kd.rL dB.out;subst b8X)|((with_reducible refine aZ (f:=25) rfl ?_);refine bO (some 149) rfl rfl Try.func25 (by kernel_rfl) rfl #[.int .i64 (l0.length:Int),.slice b8V sK.length b8W,.int .i64 0,.slice none 0 0,.slice none 0 0,.bool true] rfl (by (try simp only [List.map_toArray,List.map_cons,List.map_nil]);first|done|rfl|(simp only [List.length_drop,List.length_take];rfl)) ?_;(refine (dI.calls k5 (l0.length:Int) _ _ sK 0 _ _ ([]:List (cC)) _ _ ([]:List (bV)) true yx _ ?bX ?bY ?iY ?iZ ?VS ?VT OH.out).mono ?_);(case bX=>repeat (first|exact (Kd.sY dB.out).2.2|(with_reducible refine Kd.cO ?_ _)|(with_reducible refine Kd.cP ?_ _)|(with_reducible refine Kd.dw ?_)));(case bY=>exact (Kd.sY dB.out).2.1);(case iY=>exact Kd.GC _ _);(case iZ=>exact Nat.le_refl _);(case VS=>exact Kd.GC _ _);(case VT=>exact Nat.le_refl _);rintro e w95 ⟨v259,rfl,sk,hb⟩;refine ⟨_,rfl,?_⟩;have ay:=Aside0.mk (Kd.jU (by (with_reducible repeat (first|apply Kd.cg|apply Kd.cj|apply Kd.cJ));exact cY.out) hb);have aA:=Aside0.mk (Kd.jU (by (with_reducible repeat (first|apply Kd.cg|apply Kd.cj|apply Kd.cJ));exact dB.out) hb);have aD:=Aside0.mk (Kd.EX (by (with_reducible repeat (first|apply Kd.cF|apply Kd.dm|apply Kd.dO));exact sL.out) (Kd.um sk) hb);have aR:=Aside0.mk (Kd.gG (Kd.Oc sk (Kd.a0c (by (with_reducible repeat (first|apply Kd.cF|apply Kd.dm|apply Kd.dO));exact sL.out))) (av ax));have bK:=Aside0.mk (ah (g:=cA) (o:= .cells #[.bool dh,.int .i64 cS,.int .i64 cI,.slice none 0 0,.slice none 0 0] 29 (0,0)) (aJ bC) hb);have bT:=Aside0.mk (ai ax hb);clear cY;clear dB;clear sL;clear bC;clear HB;have cY:=ay;have dB:=aA;have sL:=aD;have Jm:=aR;have bC:=bK;have HB:=bT;clear ay aA aD aR bK bT;(try clear hb);(try clear hb2);(try clear hk);(try clear hi);(try clear sk);obtain ⟨QS,QT,b8Y⟩:=Kd.cX sL.out;subst b8Y)|((with_reducible refine aZ (f:=26) rfl ?_);refine bO (some 151) rfl rfl Try.func26 (by kernel_rfl) rfl #[.slice QS rI.length QT] rfl (by (try simp only [List.map_toArray,List.map_cons,List.map_nil]);first|done|rfl|(simp only [List.length_drop,List.length_take];rfl)) ?_;(with_reducible refine (bM.calls k5 _ _ rI CT Gr _ ?bX ?bY A91.out).mono ?_);(case bX=>repeat (first|exact (Kd.kE sL.out).2.2|(with_reducible refine Kd.cO ?_ _)|(with_reducible refine Kd.cP ?_ _)|(with_reducible refine Kd.dw ?_)));(case bY=>exact (Kd.kE sL.out).2.1);rintro e Zk ⟨rfl,hb⟩;refine ⟨_,rfl,?_⟩;have ay:=Aside0.mk (Kd.jU (by (with_reducible repeat (first|apply Kd.cg|apply Kd.cj|apply Kd.cJ));exact cY.out) hb);have aA:=Aside0.mk (Kd.jU (by (with_reducible repeat (first|apply Kd.cg|apply Kd.cj|apply Kd.cJ));exact dB.out) hb);have aD:=Aside0.mk (Kd.mC (by (with_reducible repeat (first|apply Kd.cF|apply Kd.dm|apply Kd.dO));exact sL.out) hb);have aR:=Aside0.mk (Kd.mC (by (with_reducible repeat (first|apply Kd.cF|apply Kd.dm|apply Kd.dO));exact Jm.out) hb);have bK:=Aside0.mk (ah (g:=cA) (o:= .cells #[.bool dh,.int .i64 cS,.int .i64 cI,.slice none 0 0,.slice none 0 0] 29 (0,0)) (aJ bC) hb);have bT:=Aside0.mk (ai ax hb);clear cY;clear dB;clear sL;clear Jm;clear bC;clear HB;have cY:=ay;have dB:=aA;have sL:=aD;have Jm:=aR;have bC:=bK;have HB:=bT;clear ay aA aD aR bK bT;(try clear hb);(try clear hb2);(try clear hk);(try clear hi);obtain ⟨a2u,a2v,b8Z⟩:=Kd.cX Jm.out;subst b8Z;have hcz99_0:Zk.cell? ⟨cA,0,none⟩=some (.bool dh):=(ag bC.out 0).trans rfl;have hcz99_1:Zk.cell? ⟨cA,1,none⟩=some (.int .i64 cS):=(ag bC.out 1).trans rfl;have hcz99_2:Zk.cell? ⟨cA,2,none⟩=some (.int .i64 cI):=(ag bC.out 2).trans rfl;have hcz99_3:Zk.cell? ⟨cA,3,none⟩=some (.slice none 0 0):=(ag bC.out 3).trans rfl;have hcz99_4:Zk.cell? ⟨cA,4,none⟩=some (.slice none 0 0):=(ag bC.out 4).trans rfl;have hfz99_0:=aa bC.out 0;have hfz99_1:=aa bC.out 1;have hfz99_2:=aa bC.out 2;have hfz99_3:=aa bC.out 3;have hfz99_4:=aa bC.out 4))
                 refine bodyPost_ret (results_cell_row rfl _ _ cA 29 #[.bool true,.int .i64 CT,.int .i64 Gr,.slice QS rI.length QT,.slice a2u yx.length a2v] (0,0) _ rfl (by (with_reducible repeat (first|refine au ?_ _|refine ak ?_|refine aq ?_ _));refine aX (cs:= #[.bool true,.int .i64 CT,.int .i64 Gr,.slice QS rI.length QT,.slice none 0 0]) ?_ 4 _ rfl;(with_reducible repeat (first|refine au ?_ _|refine ak ?_|refine aq ?_ _));refine aX (cs:= #[.bool true,.int .i64 CT,.int .i64 Gr,.slice none 0 0,.slice none 0 0]) ?_ 3 _ rfl;(with_reducible repeat (first|refine au ?_ _|refine ak ?_|refine aq ?_ _));refine aX (cs:= #[.bool true,.int .i64 CT,.int .i64 cI,.slice none 0 0,.slice none 0 0]) ?_ 2 _ rfl;(with_reducible repeat (first|refine au ?_ _|refine ak ?_|refine aq ?_ _));refine aX (cs:= #[.bool true,.int .i64 cS,.int .i64 cI,.slice none 0 0,.slice none 0 0]) ?_ 1 _ rfl;(with_reducible repeat (first|refine au ?_ _|refine ak ?_|refine aq ?_ _));refine aX (cs:= #[.bool dh,.int .i64 cS,.int .i64 cI,.slice none 0 0,.slice none 0 0]) ?_ 0 _ rfl;(with_reducible repeat (first|refine au ?_ _|refine ak ?_|refine aq ?_ _));exact bC.out) Try.underlying29 rfl (by kernel_rfl)) rfl ?_
                 exact ⟨_,_,by first|rfl|(simp [aM,aQ]<;>rfl)|(simp [*,aM,aQ]<;>rfl),by (with_reducible repeat (first|apply Kd.cF|apply Kd.dm|apply Kd.dO));exact Kd.dU (Kd.kr (p:=⟨cA,4,none⟩) (Kd.kr (p:=⟨cA,3,none⟩) (Kd.kr (p:=⟨cA,2,none⟩) (Kd.kr (p:=⟨cA,1,none⟩) (Kd.kr (p:=⟨cA,0,none⟩) (Kd.oM sL.out bC.out (by decide)) (fun _ hk=>hk.2) (.bool true)) (fun _ hk=>hk.2) (.int .i64 CT)) (fun _ hk=>hk.2) (.int .i64 Gr)) (fun _ hk=>hk.2) (.slice QS rI.length QT)) (fun _ hk=>hk.2) (.slice a2u yx.length a2v)) (fun _ hk=>hk.1.2),by (with_reducible repeat (first|apply Kd.cF|apply Kd.dm|apply Kd.dO));exact Kd.dU (Kd.kr (p:=⟨cA,4,none⟩) (Kd.kr (p:=⟨cA,3,none⟩) (Kd.kr (p:=⟨cA,2,none⟩) (Kd.kr (p:=⟨cA,1,none⟩) (Kd.kr (p:=⟨cA,0,none⟩) (Kd.oM Jm.out bC.out (by decide)) (fun _ hk=>hk.2) (.bool true)) (fun _ hk=>hk.2) (.int .i64 CT)) (fun _ hk=>hk.2) (.int .i64 Gr)) (fun _ hk=>hk.2) (.slice QS rI.length QT)) (fun _ hk=>hk.2) (.slice a2u yx.length a2v)) (fun _ hk=>hk.1.2),ax⟩
      ·replace c12:=Bool.eq_false_iff.mpr c12
       subst c12
       have H1:(some (false,0,0,([]:List (bV)),([]:List (bV))))=some (r1,r2,r3,r4,r5):=by rw [if_neg (show ¬(false=true) by decide)] at H;exact H
       clear H
       have H:=H1
       clear H1
       simp only [Option.some.injEq,Prod.mk.injEq] at H
       obtain ⟨rfl,rfl,rfl,rfl,rfl⟩:=H
       have hcz100_0:wr.cell? ⟨cA,0,none⟩=some (.bool false):=(ag bC.out 0).trans rfl
       have hcz100_1:wr.cell? ⟨cA,1,none⟩=some (.int .i64 0):=(ag bC.out 1).trans rfl
       have hcz100_2:wr.cell? ⟨cA,2,none⟩=some (.int .i64 0):=(ag bC.out 2).trans rfl
       have hcz100_3:wr.cell? ⟨cA,3,none⟩=some (.slice none 0 0):=(ag bC.out 3).trans rfl
       have hcz100_4:wr.cell? ⟨cA,4,none⟩=some (.slice none 0 0):=(ag bC.out 4).trans rfl
       have hfz100_0:=aa bC.out 0
       have hfz100_1:=aa bC.out 1
       have hfz100_2:=aa bC.out 2
       have hfz100_3:=aa bC.out 3
       have hfz100_4:=aa bC.out 4
       go_wp2
       refine bodyPost_ret (results_cell_row rfl _ _ cA 29 #[.bool false,.int .i64 0,.int .i64 0,.slice none 0 0,.slice none 0 0] (0,0) _ rfl (by (with_reducible repeat (first|refine au ?_ _|refine ak ?_|refine aq ?_ _));refine aX (cs:= #[.bool false,.int .i64 0,.int .i64 0,.slice none 0 0,.slice none 0 0]) ?_ 4 _ rfl;(with_reducible repeat (first|refine au ?_ _|refine ak ?_|refine aq ?_ _));refine aX (cs:= #[.bool false,.int .i64 0,.int .i64 0,.slice none 0 0,.slice none 0 0]) ?_ 3 _ rfl;(with_reducible repeat (first|refine au ?_ _|refine ak ?_|refine aq ?_ _));refine aX (cs:= #[.bool false,.int .i64 0,.int .i64 0,.slice none 0 0,.slice none 0 0]) ?_ 2 _ rfl;(with_reducible repeat (first|refine au ?_ _|refine ak ?_|refine aq ?_ _));refine aX (cs:= #[.bool false,.int .i64 0,.int .i64 0,.slice none 0 0,.slice none 0 0]) ?_ 1 _ rfl;(with_reducible repeat (first|refine au ?_ _|refine ak ?_|refine aq ?_ _));refine aX (cs:= #[.bool false,.int .i64 0,.int .i64 0,.slice none 0 0,.slice none 0 0]) ?_ 0 _ rfl;(with_reducible repeat (first|refine au ?_ _|refine ak ?_|refine aq ?_ _));exact bC.out) Try.underlying29 rfl (by kernel_rfl)) rfl ?_
       exact ⟨_,_,by first|rfl|(simp [aM,aQ]<;>rfl)|(simp [*,aM,aQ]<;>rfl),by first|exact Kd.rX _ _ _ _ _|exact Kd.Di _ _ _ _ _|exact Kd.Dj _ _ _ _ _|exact Kd.Dh _ _ _ _ _|exact Kd.Ai _ _ _ _ _,by first|exact Kd.rX _ _ _ _ _|exact Kd.Di _ _ _ _ _|exact Kd.Dj _ _ _ _ _|exact Kd.Dh _ _ _ _ _|exact Kd.Ai _ _ _ _ _,ax⟩
end Go.Proofs.Ytnhknojfpjheoaa.P
