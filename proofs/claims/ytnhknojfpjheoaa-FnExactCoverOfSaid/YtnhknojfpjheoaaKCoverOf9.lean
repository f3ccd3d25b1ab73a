/-
  Part 9 of the proof of this: The law FnExactCoverOf answers true at every argument.
-/
import Derived.Test.YtnhknojfpjheoaaKCoverOf2
import Derived.Test.YtnhknojfpjheoaaKCoverOf6
import Derived.Test.YtnhknojfpjheoaaKCoverOf8
namespace Go.Proofs.Ytnhknojfpjheoaa.P
open Go.RowKit Go.Proofs.YtnhknojfpjheoaaW.PrintWords Go.Proofs.YtnhknojfpjheoaaW.PrintLast Go.Proofs.YtnhknojfpjheoaaW.PrintMore
attribute [local go_sem] max2_int min2_int max_two min_two max_three min_three max_four min_four
set_option linter.all false
def cV.l0:Nat->List (bM)->List Int->Int->Int->List Int->Bool->Int->Int->Int->Option (Bool)
 |0,_,_,_,_,_,_,_,_,_=>none
 |k+1,x0,QE,x12,KE,a4K,QF,Jf,Jg,Jh=>if KE<x12 then (if 0<=KE then (if KE<(QE.length:Int) then (if 0<=(rd QE KE) then (if (rd QE KE)<(x0.length:Int) then ((fl.f k Jg Jh ((aW x0 (rd QE KE)).f0) ((aW x0 (rd QE KE)).f1)).bind fun a2w=>(cV.l0 k x0 QE x12 (wrap64 (KE+1)) a4K QF Jf a2w.1 a2w.2)) else (none)) else (none)) else (none)) else (none)) else (if QF=true then ((cm.f Jf 1 Jg Jh).bind fun Ji=>(some (!Ji))) else ((cm.f Jg Jh Jf 1).bind fun Jj=>(some (!Jj))))
def cV.f (k:Nat) (l0:List (bM)) (en:List Int) (aV:Bool) (dn:Int):Option (Bool):=cV.l0 k l0 en (en.length:Int) 0 en aV dn 0 1
theorem cV.cI:∀k,(∀y0 y1 y2 y3 y4 y5 y6 y7 y8,aT (cV.l0 k y0 y1 y2 y3 y4 y5 y6 y7 y8) (cV.l0 (k+1) y0 y1 y2 y3 y4 y5 y6 y7 y8))
 |0=>fun _ _ _ _ _ _ _ _ _ r h=>by simp [cV.l0] at h
 |k+1=>by
  have dL:=cV.cI k
  ·intro y0 y1 y2 y3 y4 y5 y6 y7 y8
   unfold cV.l0
   repeat' first
   |(with_reducible exact dL _ _ _ _ _ _ _ _ _)
   |(with_reducible exact fl.mono _ _ _ _ _)
   |(with_reducible exact aT.refl _)
   |(with_reducible exact aT.none _)
   |(with_reducible refine aT.ite ?_ ?_)
   |(with_reducible refine aT.bind ?_ (fun _=>?_))
theorem cV.mono:∀a0 a1 a2 a3 k,aT (cV.f k a0 a1 a2 a3) (cV.f (k+1) a0 a1 a2 a3):=by
 intro a0 a1 a2 a3 k
 have dL:=cV.cI k
 unfold cV.f
 repeat' first
  |(with_reducible exact dL _ _ _ _ _ _ _ _ _)
  |(with_reducible exact fl.mono _ _ _ _ _)
  |(with_reducible exact aT.refl _)
  |(with_reducible exact aT.none _)
  |(with_reducible refine aT.ite ?_ ?_)
  |(with_reducible refine aT.bind ?_ (fun _=>?_))
set_option maxHeartbeats 8000000 in
set_option maxRecDepth 100000 in
theorem cV.calls (k:Nat) (A0:Option Addr) (c0:Nat) (l0:List (bM)) (nr:Option Addr) (mP:Nat) (en:List Int) (aV:Bool) (dn:Int) (r:Bool) (w:World) (fy:Kd.C eY w A0 l0.length l0) (hc0:l0.length<=c0) (a2x:Kd.C (Kd.int .i64) w nr en.length en) (a2y:en.length<=mP) (h:cV.f k l0 en aV dn=some r):
 Calls Try.prog 49 #[.slice A0 l0.length c0,.agg #[.slice nr en.length mP,.bool aV,.int .i64 dn]] w fun e w'=>e= .returned (.bool r)/\Below w.heap.size w w':=by
 have b5o:=Try.underlying49
 have mM:=Try.underlying26
 have eE:=Aside0.mk fy
 have lR:=Aside0.mk hc0
 clear fy hc0
 have b1s:=Aside0.mk a2x
 have HC1_0:=Aside0.mk a2y
 clear a2x a2y
 have HB:=Aside0.mk (Below.refl w.heap.size w)
 have H:(cV.l0 k l0 en (en.length:Int) 0 en aV dn 0 1)=some r:=h
 clear h
 have H':=Aside0.mk H
 clear H
 go_enter Try.func49,Try.ntmps49
 go_wp2_with (first|((with_reducible refine bp (N:=3) rfl ?_);refine bw ?hg (N:=3) ?hd (cs:= #[.slice nr en.length mP,.bool aV,.int .i64 dn]) (t:=49) ?hr ?_;(case hd=>rfl);(case hg=>rfl);(case hr=>first|(go_simp;done)|(go_simp;rfl));intro fo hg w3 aU hb;have aA:=Aside0.mk (ah ax hb);have aC:=Aside0.mk (aU);have aD:=Aside0.mk ((by rw [hg];exact (av ax):w.heap.size<=fo));have aJ:=Aside0.mk ((by rw [hg];exact (av ax):w.heap.size<=fo));clear HB;have HB:=aA;have dh:=aC;have GW178:=aD;have GE178:=aJ;clear aA aC aD aJ;clear hb aU hg)|((with_reducible refine bp (N:=5) rfl ?_);refine bw ?hg (N:=5) ?hd (cs:= #[.int .i64 0,.int .i64 0]) (t:=26) ?hr ?_;(case hd=>rfl);(case hg=>rfl);(case hr=>first|(go_simp;done)|(go_simp;rfl));intro ic hg w4 aU hb;have aA:=Aside0.mk (ai (g:=fo) (o:= .cells #[.slice nr en.length mP,.bool aV,.int .i64 dn] 49 (0,0)) (aI dh) hb);have aC:=Aside0.mk (ah ax hb);have aD:=Aside0.mk (aU);have aJ:=Aside0.mk ((by rw [hg];exact (av ax):w.heap.size<=ic));have bJ:=Aside0.mk ((by rw [hg];exact (av ax):w.heap.size<=ic));have bS:=Aside0.mk ((by rw [hg];exact Nat.ne_of_lt (aZ (g:=fo) (o:= .cells #[.slice nr en.length mP,.bool aV,.int .i64 dn] 49 (0,0)) (aI dh)):fo≠ic));have cw:=Aside0.mk ((by rw [hg];exact Nat.ne_of_gt (aZ (g:=fo) (o:= .cells #[.slice nr en.length mP,.bool aV,.int .i64 dn] 49 (0,0)) (aI dh)):ic≠fo));clear dh;clear HB;have dh:=aA;have HB:=aC;have eo:=aD;have GW179:=aJ;have GE179:=bJ;have mI:=bS;have tW:=cw;clear aA aC aD aJ bJ bS cw;clear hb aU hg;have b4U:=tW.out;have b4V:=mI.out;have MF:w4.cell? ⟨ic,0,none⟩=some (.int .i64 0):=(af eo.out 0).trans rfl;have MG:w4.cell? ⟨ic,1,none⟩=some (.int .i64 0):=(af eo.out 1).trans rfl;have MH:=aa eo.out 0;have MI:=aa eo.out 1;have Mw:w4.cell? ⟨fo,0,none⟩=some (.slice nr en.length mP):=(af dh.out 0).trans rfl;have Mx:w4.cell? ⟨fo,1,none⟩=some (.bool aV):=(af dh.out 1).trans rfl;have UI:w4.cell? ⟨fo,2,none⟩=some (.int .i64 dn):=(af dh.out 2).trans rfl;have My:=aa dh.out 0;have Mz:=aa dh.out 1;have UJ:=aa dh.out 2))
 go_loopg [13] k (fun kq v13 w'=>∃(gm:Int) (eu:Int) (dW:Int),v13= .int .i64 gm/\Aside0 (cV.l0 kq l0 en (en.length:Int) gm en aV dn eu dW=some r)/\Aside0 (kq<=k)/\Aside0 (w'.heap[fo]? =some (.cells #[(.slice nr en.length mP),.bool aV,.int .i64 dn] 49 (0,0)))/\Aside0 (w'.heap[ic]? =some (.cells #[.int .i64 eu,.int .i64 dW] 26 (0,0)))/\Aside0 (Below w.heap.size w w'))
 case atStart=>exact ⟨(0),(0),(1),(by first|rfl|(simp;done)|(simp [*];done)),H',⟨Nat.le_refl _⟩,⟨by (with_reducible repeat (first|refine aq ?_ _|refine aj ?_|refine ak ?_ _));refine dm ?_ mI.out _;(with_reducible repeat (first|refine aq ?_ _|refine aj ?_|refine ak ?_ _));refine dm ?_ mI.out _;(with_reducible repeat (first|refine aq ?_ _|refine aj ?_|refine ak ?_ _));exact dh.out⟩,⟨by (with_reducible repeat (first|refine aq ?_ _|refine aj ?_|refine ak ?_ _));refine aK (cs:= #[.int .i64 0,.int .i64 0]) ?_ 1 _ rfl;(with_reducible repeat (first|refine aq ?_ _|refine aj ?_|refine ak ?_ _));refine aK (cs:= #[.int .i64 0,.int .i64 0]) ?_ 0 _ rfl;(with_reducible repeat (first|refine aq ?_ _|refine aj ?_|refine ak ?_ _));exact eo.out⟩,⟨ax⟩⟩
 case round=>
  clear H'
  try clear c1
  try clear p2
  try clear c4
  try clear c5
  try clear MF
  try clear MG
  try clear Mw
  try clear Mx
  try clear UI
  try clear MH
  try clear MI
  try clear My
  try clear Mz
  try clear UJ
  obtain ⟨gm,eu,dW,rfl,HA,fR,dh,eo,HB⟩:=hrel
  cases gk with
  |zero=>exact absurd HA.out (by simp [cV.l0])
  |succ k1=>
   have H:=HA.out
   clear HA
   simp only [cV.l0] at H
   by_cases c8:gm<(en.length:Int)
   ·rw [if_pos c8] at H
    have su:decide (gm<(en.length:Int))=true:=decide_eq_true c8
    clear c8
    by_cases c9:0<=gm
    ·rw [if_pos c9] at H
     have Dr:decide (0<=gm)=true:=decide_eq_true c9
     clear c9
     by_cases c10:gm<(en.length:Int)
     ·rw [if_pos c10] at H
      have b0M:decide (gm<(en.length:Int))=true:=decide_eq_true c10
      clear c10
      by_cases c11:0<=(rd en gm)
      ·rw [if_pos c11] at H
       have b0N:decide (0<=(rd en gm))=true:=decide_eq_true c11
       clear c11
       by_cases c12:(rd en gm)<(l0.length:Int)
       ·rw [if_pos c12] at H
        have Sm:decide ((rd en gm)<(l0.length:Int))=true:=decide_eq_true c12
        clear c12
        replace H:=Option.bind_eq_some_iff.mp H
        obtain ⟨⟨t182,t183⟩,MC,H⟩:=H
        replace H:(cV.l0 k1 l0 en (en.length:Int) (wrap64 (gm+1)) en aV dn t182 t183)=some r:=H
        have A13:=Aside0.mk MC
        clear MC
        have H':=Aside0.mk H
        clear H
        have a0k:0<=(gm:Int):=of_decide_eq_true (by first|(with_reducible assumption)|assumption)
        have a0l:gm<(en.length:Int):=of_decide_eq_true (by first|(with_reducible assumption)|assumption)
        obtain ⟨b1t,b5p,Jk⟩:=Kd.gq b1s.out gm a0k a0l
        cases b5p
        replace Jk:=(HB.out.cell (World.block_lt_of_cell? w _ Jk)).trans Jk
        replace a0k:=eq_true a0k
        replace a0l:=eq_true a0l
        try go_wp2
        have aA:=Aside0.mk (aj dh.out)
        have aC:=Aside0.mk (aj eo.out)
        have aD:=Aside0.mk (bB HB.out)
        clear dh
        clear eo
        clear HB
        have dh:=aA
        have eo:=aC
        have HB:=aD
        clear aA aC aD
        have a0m:0<=((rd en gm):Int):=of_decide_eq_true (by first|(with_reducible assumption)|assumption)
        have a0n:(rd en gm)<(l0.length:Int):=of_decide_eq_true (by first|(with_reducible assumption)|assumption)
        obtain ⟨Tj,b5q,yB,yC⟩:=iN eE.out (rd en gm) a0m a0n
        have Cq:=yC
        have Cr:=yB
        cases b5q
        replace yB:=(HB.out.cell (World.block_lt_of_cell? w _ yB)).trans yB
        replace yC:=(HB.out.cell (World.block_lt_of_cell? w _ yC)).trans yC
        replace a0m:=eq_true a0m
        replace a0n:=eq_true a0n
        refine eX (n:=7) (S:=fun w'=>w'.cell? ⟨ic,0,none⟩=some (.int .i64 eu)/\w'.cell? ⟨ic,1,none⟩=some (.int .i64 dW)/\w'.cell? (Tj.add (((rd en gm)).toNat*2))=some (.int .i64 ((aW l0 (rd en gm)).f0))/\w'.cell? ⟨(Tj.add (((rd en gm)).toNat*2)).block,(Tj.add (((rd en gm)).toNat*2)).off+1,none⟩=some (.int .i64 ((aW l0 (rd en gm)).f1))) (ds:=[6]) #[false,false,false,false,false,false,false] (by kernel_rfl) rfl rfl ⟨(af eo.out 0).trans rfl,(af eo.out 1).trans rfl,((HB.out.cell (World.block_lt_of_cell? w _ Cr)).trans Cr),((HB.out.cell (World.block_lt_of_cell? w _ Cq)).trans Cq)⟩ (fun hHeld=>?_)
        generalize wr.drew=nh at dh eo HB yB yC hHeld⊢
        refine aX (i:=1) (N:=some 18) ?_
        refine aX (i:=2) (N:=some 19) ?_
        refine aX (i:=3) (N:=some 20) ?_
        refine dy (i:=0) (N:=some 17) (v:=?_) (a':=?_) #[true,true,true,true,false,false,false] rfl rfl (by kernel_rfl) (fun _ _ _ h=>h) (Or.inl ⟨by rfl,?_⟩) hHeld ?_ ?_
        rotate_left
        ·rintro w' ⟨s0,s1,s2,s3⟩
         go_simp
         with_reducible rfl
        rotate_left
        ·exact eG
        refine dy (i:=4) (N:=some 21) (v:=?_) (a':=?_) #[true,true,true,true,true,false,false] rfl rfl (by kernel_rfl) (fun _ _ _ h=>h) (Or.inl ⟨by rfl,?_⟩) hHeld ?_ ?_
        rotate_left
        ·rintro w' ⟨s0,s1,s2,s3⟩
         go_simp
         with_reducible rfl
        rotate_left
        ·exact eG
        refine fA (i:=5) (N:=some 22) #[true,true,true,true,true,true,false] rfl rfl (by kernel_rfl) (by decide) (fun K hK=>?_)
        refine nG Try.func51 (by kernel_rfl) rfl #[.agg #[.int .i64 eu,.int .i64 dW],.agg #[.int .i64 ((aW l0 (rd en gm)).f0),.int .i64 ((aW l0 (rd en gm)).f1)]] (by rfl) rfl rfl (by (try simp only [List.map_toArray,List.map_cons,List.map_nil]);first|done|rfl|(simp only [List.length_drop,List.length_take];rfl)) ?_
        with_reducible refine (fl.calls k1 eu dW ((aW l0 (rd en gm)).f0) ((aW l0 (rd en gm)).f1) t182 t183 _ A13.out).mono ?_
        rintro e rJ ⟨rfl,hb⟩
        refine ⟨_,rfl,?_⟩
        have aA:=Aside0.mk (ai (g:=fo) (o:= .cells #[.slice (some b1t) en.length mP,.bool aV,.int .i64 dn] 49 (0,0)) (aI dh) hb)
        have aC:=Aside0.mk (ai (g:=ic) (o:= .cells #[.int .i64 eu,.int .i64 dW] 26 (0,0)) (aI eo) hb)
        have aD:=Aside0.mk (ah ax hb)
        clear dh
        clear eo
        clear HB
        have dh:=aA
        have eo:=aC
        have HB:=aD
        clear aA aC aD
        (try clear hb)
        (try clear hb2)
        (try clear hk)
        (try clear hi)
        refine hK.out _ _ ⟨(af eo.out 0).trans rfl,(af eo.out 1).trans rfl,((HB.out.cell (World.block_lt_of_cell? w _ Cr)).trans Cr),((HB.out.cell (World.block_lt_of_cell? w _ Cq)).trans Cq)⟩ (fun hHeld=>?_)
        clear hK K
        refine eF (a':=?_) ?_ ?_
        rotate_left
        ·show Act.put _ (some 22) _=_
         simp only [Act.put,List.setIfInBounds_toArray,List.set_cons_zero,List.set_cons_succ,cZ,dX]
         rfl
        refine pP (i:=6) (N:=none) #[true,true,true,true,true,true,true] rfl rfl (by kernel_rfl) (by decide) (fun K hK=>?_)
        have b4T:rJ.cell? ⟨ic,0,none⟩=some (.int .i64 eu):=(af eo.out 0).trans rfl
        have b1k:=aa eo.out 0
        have hns16_0:=mI.out
        have hms16_0:=tW.out
        have hs17:rJ.cell? ⟨ic,1,none⟩=some (.int .i64 dW):=(af eo.out 1).trans rfl
        have hfs17:=aa eo.out 1
        have hns17_0:=mI.out
        have hms17_0:=tW.out
        refine kY (w1:=?_) (by rfl) rfl ?_ ?_
        rotate_left
        ·go_simp
         rfl
        refine hK.out _ _ ?_
        clear hK K
        refine fV (by kernel_rfl) ?_
        try go_wp2
        go_roundg k1
        case measure=>have:=fR.out;omega
        case rel=>exact ⟨(wrap64 (gm+1)),(t182),(t183),(by first|rfl|(simp;done)|(simp [*];done)),H',⟨by have:=fR.out;omega⟩,⟨by (with_reducible repeat (first|refine aq ?_ _|refine aj ?_|refine ak ?_ _));refine dm ?_ mI.out _;(with_reducible repeat (first|refine aq ?_ _|refine aj ?_|refine ak ?_ _));refine dm ?_ mI.out _;(with_reducible repeat (first|refine aq ?_ _|refine aj ?_|refine ak ?_ _));exact dh.out⟩,⟨by (with_reducible repeat (first|refine aq ?_ _|refine aj ?_|refine ak ?_ _));refine aK (cs:= #[.int .i64 t182,.int .i64 dW]) ?_ 1 _ rfl;(with_reducible repeat (first|refine aq ?_ _|refine aj ?_|refine ak ?_ _));refine aK (cs:= #[.int .i64 eu,.int .i64 dW]) ?_ 0 _ rfl;(with_reducible repeat (first|refine aq ?_ _|refine aj ?_|refine ak ?_ _));exact eo.out⟩,⟨ax⟩⟩
       ·rw [if_neg c12] at H
        exact absurd H (by simp)
      ·rw [if_neg c11] at H
       exact absurd H (by simp)
     ·rw [if_neg c10] at H
      exact absurd H (by simp)
    ·rw [if_neg c9] at H
     exact absurd H (by simp)
   ·rw [if_neg c8] at H
    have su:decide (gm<(en.length:Int))=false:=decide_eq_false c8
    clear c8
    by_cases c18:aV=true
    ·subst c18
     have H1:((cm.f dn 1 eu dW).bind fun Ji=>(some (!Ji)))=some r:=by rw [if_pos rfl] at H;exact H
     clear H
     have H:=H1
     clear H1
     replace H:=Option.bind_eq_some_iff.mp H
     obtain ⟨Ji,a8r,H⟩:=H
     replace H:(some (!Ji))=some r:=H
     have A19:=Aside0.mk a8r
     clear a8r
     obtain rfl:=Option.some.inj H
     have hnb20:=mI.out
     have hnc20:=tW.out
     have BO:wr.cell? ⟨fo,0,none⟩=some (.slice nr en.length mP):=(af dh.out 0).trans rfl
     have BP:wr.cell? ⟨fo,1,none⟩=some (.bool true):=(af dh.out 1).trans rfl
     have a3I:wr.cell? ⟨fo,2,none⟩=some (.int .i64 dn):=(af dh.out 2).trans rfl
     have BQ:=aa dh.out 0
     have BS:=aa dh.out 1
     have a3J:=aa dh.out 2
     go_wp2_with (first|((with_reducible refine bp (N:=8) rfl ?_);refine bw ?hg (N:=8) ?hd (cs:= #[.int .i64 0,.int .i64 0]) (t:=26) ?hr ?_;(case hd=>rfl);(case hg=>rfl);(case hr=>first|(go_simp;done)|(go_simp;rfl));intro ld hg wI aU hb;have aA:=Aside0.mk (ai (g:=fo) (o:= .cells #[.slice nr en.length mP,.bool true,.int .i64 dn] 49 (0,0)) (aI dh) hb);have aC:=Aside0.mk (ai (g:=ic) (o:= .cells #[.int .i64 eu,.int .i64 dW] 26 (0,0)) (aI eo) hb);have aD:=Aside0.mk (ah ax hb);have aJ:=Aside0.mk (aU);have bJ:=Aside0.mk ((by rw [hg];exact (av ax):w.heap.size<=ld));have bS:=Aside0.mk ((by rw [hg];exact (av ax):w.heap.size<=ld));have cw:=Aside0.mk ((by rw [hg];exact Nat.ne_of_lt (aZ (g:=fo) (o:= .cells #[.slice nr en.length mP,.bool true,.int .i64 dn] 49 (0,0)) (aI dh)):fo≠ld));have iL:=Aside0.mk ((by rw [hg];exact Nat.ne_of_gt (aZ (g:=fo) (o:= .cells #[.slice nr en.length mP,.bool true,.int .i64 dn] 49 (0,0)) (aI dh)):ld≠fo));have je:=Aside0.mk ((by rw [hg];exact Nat.ne_of_lt (aZ (g:=ic) (o:= .cells #[.int .i64 eu,.int .i64 dW] 26 (0,0)) (aI eo)):ic≠ld));have jP:=Aside0.mk ((by rw [hg];exact Nat.ne_of_gt (aZ (g:=ic) (o:= .cells #[.int .i64 eu,.int .i64 dW] 26 (0,0)) (aI eo)):ld≠ic));clear dh;clear eo;clear HB;have dh:=aA;have eo:=aC;have HB:=aD;have nS:=aJ;have b1u:=bJ;have b1v:=bS;have pL:=cw;have Ba:=iL;have pM:=je;have Bb:=jP;clear aA aC aD aJ bJ bS cw iL je jP;clear hb aU hg;have hnb23:=Ba.out;have hnc23:=pL.out;have b1w:=Bb.out;have b1x:=pM.out;have Hz:wI.cell? ⟨ld,0,none⟩=some (.int .i64 0):=(af nS.out 0).trans rfl;have HJ:wI.cell? ⟨ld,1,none⟩=some (.int .i64 0):=(af nS.out 1).trans rfl;have HV:=aa nS.out 0;have HY:=aa nS.out 1;have IK:wI.cell? ⟨fo,0,none⟩=some (.slice nr en.length mP):=(af dh.out 0).trans rfl;have IL:wI.cell? ⟨fo,1,none⟩=some (.bool true):=(af dh.out 1).trans rfl;have hcz26_2:wI.cell? ⟨fo,2,none⟩=some (.int .i64 dn):=(af dh.out 2).trans rfl;have IM:=aa dh.out 0;have IP:=aa dh.out 1;have hfz26_2:=aa dh.out 2;have a4t:wI.cell? ⟨ic,0,none⟩=some (.int .i64 eu):=(af eo.out 0).trans rfl;have a4u:wI.cell? ⟨ic,1,none⟩=some (.int .i64 dW):=(af eo.out 1).trans rfl;have a4v:=aa eo.out 0;have a4w:=aa eo.out 1)|((with_reducible refine aY (f:=65) rfl ?_);refine bP (some 31) rfl rfl Try.func65 (by kernel_rfl) rfl #[.agg #[.int .i64 dn,.int .i64 1],.agg #[.int .i64 eu,.int .i64 dW]] rfl (by (try simp only [List.map_toArray,List.map_cons,List.map_nil]);first|done|rfl|(simp only [List.length_drop,List.length_take];rfl)) ?_;(with_reducible refine (cm.calls dn 1 eu dW Ji _ A19.out).mono ?_);rintro e wq ⟨rfl,hb⟩;refine ⟨_,rfl,?_⟩;have aA:=Aside0.mk (ai (g:=fo) (o:= .cells #[.slice nr en.length mP,.bool true,.int .i64 dn] 49 (0,0)) (by (with_reducible repeat (first|refine aq ?_ _|refine aj ?_|refine ak ?_ _));refine dm ?_ pL.out _;(with_reducible repeat (first|refine aq ?_ _|refine aj ?_|refine ak ?_ _));refine dm ?_ pL.out _;(with_reducible repeat (first|refine aq ?_ _|refine aj ?_|refine ak ?_ _));exact dh.out) hb);have aC:=Aside0.mk (ai (g:=ic) (o:= .cells #[.int .i64 eu,.int .i64 dW] 26 (0,0)) (by (with_reducible repeat (first|refine aq ?_ _|refine aj ?_|refine ak ?_ _));refine dm ?_ pM.out _;(with_reducible repeat (first|refine aq ?_ _|refine aj ?_|refine ak ?_ _));refine dm ?_ pM.out _;(with_reducible repeat (first|refine aq ?_ _|refine aj ?_|refine ak ?_ _));exact eo.out) hb);have aD:=Aside0.mk (ai (g:=ld) (o:= .cells #[.int .i64 dn,.int .i64 1] 26 (0,0)) (by (with_reducible repeat (first|refine aq ?_ _|refine aj ?_|refine ak ?_ _));refine aK (cs:= #[.int .i64 dn,.int .i64 0]) ?_ 1 _ rfl;(with_reducible repeat (first|refine aq ?_ _|refine aj ?_|refine ak ?_ _));refine aK (cs:= #[.int .i64 0,.int .i64 0]) ?_ 0 _ rfl;(with_reducible repeat (first|refine aq ?_ _|refine aj ?_|refine ak ?_ _));exact nS.out) hb);have aJ:=Aside0.mk (ah ax hb);clear dh;clear eo;clear nS;clear HB;have dh:=aA;have eo:=aC;have nS:=aD;have HB:=aJ;clear aA aC aD aJ;(try clear hb);(try clear hb2);(try clear hk);(try clear hi)))
     go_ret
     exact ⟨by first|rfl|(simp [aQ,aR]<;>rfl)|(simp [*,aQ,aR]<;>rfl),ax⟩
    ·replace c18:=Bool.eq_false_iff.mpr c18
     subst c18
     have H1:((cm.f eu dW dn 1).bind fun Jj=>(some (!Jj)))=some r:=by rw [if_neg (show ¬(false=true) by decide)] at H;exact H
     clear H
     have H:=H1
     clear H1
     replace H:=Option.bind_eq_some_iff.mp H
     obtain ⟨Jj,a8s,H⟩:=H
     replace H:(some (!Jj))=some r:=H
     have A29:=Aside0.mk a8s
     clear a8s
     obtain rfl:=Option.some.inj H
     have hnb30:=mI.out
     have hnc30:=tW.out
     have xZ:wr.cell? ⟨fo,0,none⟩=some (.slice nr en.length mP):=(af dh.out 0).trans rfl
     have ya:wr.cell? ⟨fo,1,none⟩=some (.bool false):=(af dh.out 1).trans rfl
     have yb:wr.cell? ⟨fo,2,none⟩=some (.int .i64 dn):=(af dh.out 2).trans rfl
     have yc:=aa dh.out 0
     have ye:=aa dh.out 1
     have yf:=aa dh.out 2
     go_wp2_with (first|((with_reducible refine bp (N:=8) rfl ?_);refine bw ?hg (N:=8) ?hd (cs:= #[.int .i64 0,.int .i64 0]) (t:=26) ?hr ?_;(case hd=>rfl);(case hg=>rfl);(case hr=>first|(go_simp;done)|(go_simp;rfl));intro ld hg qd aU hb;have aA:=Aside0.mk (ai (g:=fo) (o:= .cells #[.slice nr en.length mP,.bool false,.int .i64 dn] 49 (0,0)) (aI dh) hb);have aC:=Aside0.mk (ai (g:=ic) (o:= .cells #[.int .i64 eu,.int .i64 dW] 26 (0,0)) (aI eo) hb);have aD:=Aside0.mk (ah ax hb);have aJ:=Aside0.mk (aU);have bJ:=Aside0.mk ((by rw [hg];exact (av ax):w.heap.size<=ld));have bS:=Aside0.mk ((by rw [hg];exact (av ax):w.heap.size<=ld));have cw:=Aside0.mk ((by rw [hg];exact Nat.ne_of_lt (aZ (g:=fo) (o:= .cells #[.slice nr en.length mP,.bool false,.int .i64 dn] 49 (0,0)) (aI dh)):fo≠ld));have iL:=Aside0.mk ((by rw [hg];exact Nat.ne_of_gt (aZ (g:=fo) (o:= .cells #[.slice nr en.length mP,.bool false,.int .i64 dn] 49 (0,0)) (aI dh)):ld≠fo));have je:=Aside0.mk ((by rw [hg];exact Nat.ne_of_lt (aZ (g:=ic) (o:= .cells #[.int .i64 eu,.int .i64 dW] 26 (0,0)) (aI eo)):ic≠ld));have jP:=Aside0.mk ((by rw [hg];exact Nat.ne_of_gt (aZ (g:=ic) (o:= .cells #[.int .i64 eu,.int .i64 dW] 26 (0,0)) (aI eo)):ld≠ic));clear dh;clear eo;clear HB;have dh:=aA;have eo:=aC;have HB:=aD;have nS:=aJ;have b1u:=bJ;have b1v:=bS;have pL:=cw;have Ba:=iL;have pM:=je;have Bb:=jP;clear aA aC aD aJ bJ bS cw iL je jP;clear hb aU hg;have b1y:=Ba.out;have b1z:=pL.out;have hnb34:=Bb.out;have hnc34:=pM.out;have hcz35_0:qd.cell? ⟨ld,0,none⟩=some (.int .i64 0):=(af nS.out 0).trans rfl;have hcz35_1:qd.cell? ⟨ld,1,none⟩=some (.int .i64 0):=(af nS.out 1).trans rfl;have hfz35_0:=aa nS.out 0;have hfz35_1:=aa nS.out 1;have yg:qd.cell? ⟨fo,0,none⟩=some (.slice nr en.length mP):=(af dh.out 0).trans rfl;have yh:qd.cell? ⟨fo,1,none⟩=some (.bool false):=(af dh.out 1).trans rfl;have yj:qd.cell? ⟨fo,2,none⟩=some (.int .i64 dn):=(af dh.out 2).trans rfl;have yl:=aa dh.out 0;have ym:=aa dh.out 1;have yo:=aa dh.out 2;have Ia:qd.cell? ⟨ic,0,none⟩=some (.int .i64 eu):=(af eo.out 0).trans rfl;have Ib:qd.cell? ⟨ic,1,none⟩=some (.int .i64 dW):=(af eo.out 1).trans rfl;have Ic:=aa eo.out 0;have Ie:=aa eo.out 1)|((with_reducible refine aY (f:=65) rfl ?_);refine bP (some 35) rfl rfl Try.func65 (by kernel_rfl) rfl #[.agg #[.int .i64 eu,.int .i64 dW],.agg #[.int .i64 dn,.int .i64 1]] rfl (by (try simp only [List.map_toArray,List.map_cons,List.map_nil]);first|done|rfl|(simp only [List.length_drop,List.length_take];rfl)) ?_;(with_reducible refine (cm.calls eu dW dn 1 Jj _ A29.out).mono ?_);rintro e w38 ⟨rfl,hb⟩;refine ⟨_,rfl,?_⟩;have aA:=Aside0.mk (ai (g:=fo) (o:= .cells #[.slice nr en.length mP,.bool false,.int .i64 dn] 49 (0,0)) (by (with_reducible repeat (first|refine aq ?_ _|refine aj ?_|refine ak ?_ _));refine dm ?_ pL.out _;(with_reducible repeat (first|refine aq ?_ _|refine aj ?_|refine ak ?_ _));refine dm ?_ pL.out _;(with_reducible repeat (first|refine aq ?_ _|refine aj ?_|refine ak ?_ _));exact dh.out) hb);have aC:=Aside0.mk (ai (g:=ic) (o:= .cells #[.int .i64 eu,.int .i64 dW] 26 (0,0)) (by (with_reducible repeat (first|refine aq ?_ _|refine aj ?_|refine ak ?_ _));refine dm ?_ pM.out _;(with_reducible repeat (first|refine aq ?_ _|refine aj ?_|refine ak ?_ _));refine dm ?_ pM.out _;(with_reducible repeat (first|refine aq ?_ _|refine aj ?_|refine ak ?_ _));exact eo.out) hb);have aD:=Aside0.mk (ai (g:=ld) (o:= .cells #[.int .i64 dn,.int .i64 1] 26 (0,0)) (by (with_reducible repeat (first|refine aq ?_ _|refine aj ?_|refine ak ?_ _));refine aK (cs:= #[.int .i64 dn,.int .i64 0]) ?_ 1 _ rfl;(with_reducible repeat (first|refine aq ?_ _|refine aj ?_|refine ak ?_ _));refine aK (cs:= #[.int .i64 0,.int .i64 0]) ?_ 0 _ rfl;(with_reducible repeat (first|refine aq ?_ _|refine aj ?_|refine ak ?_ _));exact nS.out) hb);have aJ:=Aside0.mk (ah ax hb);clear dh;clear eo;clear nS;clear HB;have dh:=aA;have eo:=aC;have nS:=aD;have HB:=aJ;clear aA aC aD aJ;(try clear hb);(try clear hb2);(try clear hk);(try clear hi)))
     go_ret
     exact ⟨by first|rfl|(simp [aQ,aR]<;>rfl)|(simp [*,aQ,aR]<;>rfl),ax⟩
def bK.l0:Nat->List (bM)->Int->Int->Int->Int->Option (Int×Int)
 |0,_,_,_,_,_=>none
 |k+1,x7,x8,x9,QG,QH=>if x9<x8 then (if 0<=x9 then (if x9<(x7.length:Int) then ((fl.f k QG QH ((aW x7 x9).f0) ((aW x7 x9).f1)).bind fun a2z=>(bK.l0 k x7 x8 (wrap64 (x9+1)) a2z.1 a2z.2)) else (none)) else (none)) else (some (QG,QH))
def bK.f (k:Nat) (l0:List (bM)):Option (Int×Int):=bK.l0 k l0 (l0.length:Int) 0 0 1
theorem bK.cI:∀k,(∀y0 y1 y2 y3 y4,aT (bK.l0 k y0 y1 y2 y3 y4) (bK.l0 (k+1) y0 y1 y2 y3 y4))
 |0=>fun _ _ _ _ _ r h=>by simp [bK.l0] at h
 |k+1=>by
  have dL:=bK.cI k
  ·intro y0 y1 y2 y3 y4
   unfold bK.l0
   repeat' first
   |(with_reducible exact dL _ _ _ _ _)
   |(with_reducible exact fl.mono _ _ _ _ _)
   |(with_reducible exact aT.refl _)
   |(with_reducible exact aT.none _)
   |(with_reducible refine aT.ite ?_ ?_)
   |(with_reducible refine aT.bind ?_ (fun _=>?_))
theorem bK.mono:∀a0 k,aT (bK.f k a0) (bK.f (k+1) a0):=by
 intro a0 k
 have dL:=bK.cI k
 unfold bK.f
 repeat' first
  |(with_reducible exact dL _ _ _ _ _)
  |(with_reducible exact fl.mono _ _ _ _ _)
  |(with_reducible exact aT.refl _)
  |(with_reducible exact aT.none _)
  |(with_reducible refine aT.ite ?_ ?_)
  |(with_reducible refine aT.bind ?_ (fun _=>?_))
set_option maxHeartbeats 8000000 in
set_option maxRecDepth 100000 in
theorem bK.calls (k:Nat) (A0:Option Addr) (c0:Nat) (l0:List (bM)) (r1:Int) (r2:Int) (w:World) (fy:Kd.C eY w A0 l0.length l0) (hc0:l0.length<=c0) (h:bK.f k l0=some (r1,r2)):
 Calls Try.prog 26 #[.slice A0 l0.length c0] w fun e w'=>e= .returned (.agg #[.int .i64 r1,.int .i64 r2])/\Below w.heap.size w w':=by
 have mM:=Try.underlying26
 have eE:=Aside0.mk fy
 have lR:=Aside0.mk hc0
 clear fy hc0
 have HB:=Aside0.mk (Below.refl w.heap.size w)
 have H:(bK.l0 k l0 (l0.length:Int) 0 0 1)=some (r1,r2):=h
 clear h
 have H':=Aside0.mk H
 clear H
 go_enter Try.func26,Try.ntmps26
 go_wp2_with (first|((with_reducible refine bp (N:=2) rfl ?_);refine bw ?hg (N:=2) ?hd (cs:= #[.int .i64 0,.int .i64 0]) (t:=26) ?hr ?_;(case hd=>rfl);(case hg=>rfl);(case hr=>first|(go_simp;done)|(go_simp;rfl));intro mJ hg w2 aU hb;have aA:=Aside0.mk (ah ax hb);have aC:=Aside0.mk (aU);have aD:=Aside0.mk ((by rw [hg];exact (av ax):w.heap.size<=mJ));have aJ:=Aside0.mk ((by rw [hg];exact (av ax):w.heap.size<=mJ));clear HB;have HB:=aA;have kz:=aC;have GW187:=aD;have GE187:=aJ;clear aA aC aD aJ;clear hb aU hg)|((with_reducible refine bp (N:=3) rfl ?_);refine bw ?hg (N:=3) ?hd (cs:= #[.int .i64 0,.int .i64 0]) (t:=26) ?hr ?_;(case hd=>rfl);(case hg=>rfl);(case hr=>first|(go_simp;done)|(go_simp;rfl));intro lf hg w3 aU hb;have aA:=Aside0.mk (ai (g:=mJ) (o:= .cells #[.int .i64 0,.int .i64 0] 26 (0,0)) (aI kz) hb);have aC:=Aside0.mk (ah ax hb);have aD:=Aside0.mk (aU);have aJ:=Aside0.mk ((by rw [hg];exact (av ax):w.heap.size<=lf));have bJ:=Aside0.mk ((by rw [hg];exact (av ax):w.heap.size<=lf));have bS:=Aside0.mk ((by rw [hg];exact Nat.ne_of_lt (aZ (g:=mJ) (o:= .cells #[.int .i64 0,.int .i64 0] 26 (0,0)) (aI kz)):mJ≠lf));have cw:=Aside0.mk ((by rw [hg];exact Nat.ne_of_gt (aZ (g:=mJ) (o:= .cells #[.int .i64 0,.int .i64 0] 26 (0,0)) (aI kz)):lf≠mJ));clear kz;clear HB;have kz:=aA;have HB:=aC;have iC:=aD;have GW188:=aJ;have GE188:=bJ;have pN:=bS;have Bc:=cw;clear aA aC aD aJ bJ bS cw;clear hb aU hg;have hnb4:=Bc.out;have hnc4:=pN.out;have VX:w3.cell? ⟨lf,0,none⟩=some (.int .i64 0):=(af iC.out 0).trans rfl;have VY:w3.cell? ⟨lf,1,none⟩=some (.int .i64 0):=(af iC.out 1).trans rfl;have VZ:=aa iC.out 0;have Wa:=aa iC.out 1))
 go_loopg [9] k (fun kq v9 w'=>∃(cj:Int) (ig:Int) (ij:Int),v9= .int .i64 cj/\Aside0 (bK.l0 kq l0 (l0.length:Int) cj ig ij=some (r1,r2))/\Aside0 (kq<=k)/\Aside0 (w'.heap[mJ]? =some (.cells #[.int .i64 0,.int .i64 0] 26 (0,0)))/\Aside0 (w'.heap[lf]? =some (.cells #[.int .i64 ig,.int .i64 ij] 26 (0,0)))/\Aside0 (Below w.heap.size w w'))
 case atStart=>exact ⟨(0),(0),(1),(by first|rfl|(simp;done)|(simp [*];done)),H',⟨Nat.le_refl _⟩,⟨by (with_reducible repeat (first|refine aq ?_ _|refine aj ?_|refine ak ?_ _));refine dm ?_ pN.out _;(with_reducible repeat (first|refine aq ?_ _|refine aj ?_|refine ak ?_ _));refine dm ?_ pN.out _;(with_reducible repeat (first|refine aq ?_ _|refine aj ?_|refine ak ?_ _));exact kz.out⟩,⟨by (with_reducible repeat (first|refine aq ?_ _|refine aj ?_|refine ak ?_ _));refine aK (cs:= #[.int .i64 0,.int .i64 0]) ?_ 1 _ rfl;(with_reducible repeat (first|refine aq ?_ _|refine aj ?_|refine ak ?_ _));refine aK (cs:= #[.int .i64 0,.int .i64 0]) ?_ 0 _ rfl;(with_reducible repeat (first|refine aq ?_ _|refine aj ?_|refine ak ?_ _));exact iC.out⟩,⟨ax⟩⟩
 case round=>
  clear H'
  try clear c2
  try clear p2
  try clear c4
  try clear VX
  try clear VY
  try clear VZ
  try clear Wa
  obtain ⟨cj,ig,ij,rfl,HA,fR,kz,iC,HB⟩:=hrel
  cases gk with
  |zero=>exact absurd HA.out (by simp [bK.l0])
  |succ k1=>
   have H:=HA.out
   clear HA
   simp only [bK.l0] at H
   by_cases c6:cj<(l0.length:Int)
   ·rw [if_pos c6] at H
    have ov:decide (cj<(l0.length:Int))=true:=decide_eq_true c6
    clear c6
    by_cases c7:0<=cj
    ·rw [if_pos c7] at H
     have rF:decide (0<=cj)=true:=decide_eq_true c7
     clear c7
     by_cases c8:cj<(l0.length:Int)
     ·rw [if_pos c8] at H
      have su:decide (cj<(l0.length:Int))=true:=decide_eq_true c8
      clear c8
      replace H:=Option.bind_eq_some_iff.mp H
      obtain ⟨⟨Tk,a0o⟩,MA,H⟩:=H
      replace H:(bK.l0 k1 l0 (l0.length:Int) (wrap64 (cj+1)) Tk a0o)=some (r1,r2):=H
      have A9:=Aside0.mk MA
      clear MA
      have H':=Aside0.mk H
      clear H
      have a0p:0<=(cj:Int):=of_decide_eq_true (by first|(with_reducible assumption)|assumption)
      have a0q:cj<(l0.length:Int):=of_decide_eq_true (by first|(with_reducible assumption)|assumption)
      obtain ⟨ad189,b5r,Jl,Jm⟩:=iN eE.out cj a0p a0q
      cases b5r
      replace Jl:=(HB.out.cell (World.block_lt_of_cell? w _ Jl)).trans Jl
      replace Jm:=(HB.out.cell (World.block_lt_of_cell? w _ Jm)).trans Jm
      replace a0p:=eq_true a0p
      replace a0q:=eq_true a0q
      go_wp2_with (first|((with_reducible refine bp (N:=5) rfl ?_);refine bw ?hg (N:=5) ?hd (cs:= #[.int .i64 0,.int .i64 0]) (t:=26) ?hr ?_;(case hd=>rfl);(case hg=>rfl);(case hr=>first|(go_simp;done)|(go_simp;rfl));intro uI hg jY aU hb;have aA:=Aside0.mk (ai (g:=mJ) (o:= .cells #[.int .i64 0,.int .i64 0] 26 (0,0)) (aI kz) hb);have aC:=Aside0.mk (ai (g:=lf) (o:= .cells #[.int .i64 ig,.int .i64 ij] 26 (0,0)) (aI iC) hb);have aD:=Aside0.mk (ah ax hb);have aJ:=Aside0.mk (aU);have bJ:=Aside0.mk ((by rw [hg];exact (av ax):w.heap.size<=uI));have bS:=Aside0.mk ((by rw [hg];exact (av ax):w.heap.size<=uI));have cw:=Aside0.mk ((by rw [hg];exact Nat.ne_of_lt (aZ (g:=mJ) (o:= .cells #[.int .i64 0,.int .i64 0] 26 (0,0)) (aI kz)):mJ≠uI));have iL:=Aside0.mk ((by rw [hg];exact Nat.ne_of_gt (aZ (g:=mJ) (o:= .cells #[.int .i64 0,.int .i64 0] 26 (0,0)) (aI kz)):uI≠mJ));have je:=Aside0.mk ((by rw [hg];exact Nat.ne_of_lt (aZ (g:=lf) (o:= .cells #[.int .i64 ig,.int .i64 ij] 26 (0,0)) (aI iC)):lf≠uI));have jP:=Aside0.mk ((by rw [hg];exact Nat.ne_of_gt (aZ (g:=lf) (o:= .cells #[.int .i64 ig,.int .i64 ij] 26 (0,0)) (aI iC)):uI≠lf));clear kz;clear iC;clear HB;have kz:=aA;have iC:=aC;have HB:=aD;have zC:=aJ;have GW190:=bJ;have GE190:=bS;have Be:=cw;have Xj:=iL;have Bf:=je;have Xk:=jP;clear aA aC aD aJ bJ bS cw iL je jP;clear hb aU hg;have b1e:=Xj.out;have b1f:=Be.out;have a1v:=Xk.out;have a1w:=Bf.out;have oh:jY.cell? ⟨uI,0,none⟩=some (.int .i64 0):=(af zC.out 0).trans rfl;have om:jY.cell? ⟨uI,1,none⟩=some (.int .i64 0):=(af zC.out 1).trans rfl;have oo:=aa zC.out 0;have oq:=aa zC.out 1;have b0W:=Bc.out;have b0X:=pN.out;have IE:jY.cell? ⟨lf,0,none⟩=some (.int .i64 ig):=(af iC.out 0).trans rfl;have IG:jY.cell? ⟨lf,1,none⟩=some (.int .i64 ij):=(af iC.out 1).trans rfl;have II:=aa iC.out 0;have IJ:=aa iC.out 1)|((with_reducible refine aY (f:=51) rfl ?_);refine bP (some 15) rfl rfl Try.func51 (by kernel_rfl) rfl #[.agg #[.int .i64 ig,.int .i64 ij],.agg #[.int .i64 ((aW l0 cj).f0),.int .i64 ((aW l0 cj).f1)]] rfl (by (try simp only [List.map_toArray,List.map_cons,List.map_nil]);first|done|rfl|(simp only [List.length_drop,List.length_take];rfl)) ?_;(with_reducible refine (fl.calls k1 ig ij ((aW l0 cj).f0) ((aW l0 cj).f1) Tk a0o _ A9.out).mono ?_);rintro e jb ⟨rfl,hb⟩;refine ⟨_,rfl,?_⟩;have aA:=Aside0.mk (ai (g:=mJ) (o:= .cells #[.int .i64 0,.int .i64 0] 26 (0,0)) (by (with_reducible repeat (first|refine aq ?_ _|refine aj ?_|refine ak ?_ _));refine dm ?_ Be.out _;(with_reducible repeat (first|refine aq ?_ _|refine aj ?_|refine ak ?_ _));refine dm ?_ Be.out _;(with_reducible repeat (first|refine aq ?_ _|refine aj ?_|refine ak ?_ _));exact kz.out) hb);have aC:=Aside0.mk (ai (g:=lf) (o:= .cells #[.int .i64 ig,.int .i64 ij] 26 (0,0)) (by (with_reducible repeat (first|refine aq ?_ _|refine aj ?_|refine ak ?_ _));refine dm ?_ Bf.out _;(with_reducible repeat (first|refine aq ?_ _|refine aj ?_|refine ak ?_ _));refine dm ?_ Bf.out _;(with_reducible repeat (first|refine aq ?_ _|refine aj ?_|refine ak ?_ _));exact iC.out) hb);have aD:=Aside0.mk (ai (g:=uI) (o:= .cells #[.int .i64 ((aW l0 cj).f0),.int .i64 ((aW l0 cj).f1)] 26 (0,0)) (by (with_reducible repeat (first|refine aq ?_ _|refine aj ?_|refine ak ?_ _));refine aK (cs:= #[.int .i64 ((aW l0 cj).f0),.int .i64 0]) ?_ 1 _ rfl;(with_reducible repeat (first|refine aq ?_ _|refine aj ?_|refine ak ?_ _));refine aK (cs:= #[.int .i64 0,.int .i64 0]) ?_ 0 _ rfl;(with_reducible repeat (first|refine aq ?_ _|refine aj ?_|refine ak ?_ _));exact zC.out) hb);have aJ:=Aside0.mk (ah ax hb);clear kz;clear iC;clear zC;clear HB;have kz:=aA;have iC:=aC;have zC:=aD;have HB:=aJ;clear aA aC aD aJ;(try clear hb);(try clear hb2);(try clear hk);(try clear hi);have a4p:jb.cell? ⟨lf,0,none⟩=some (.int .i64 ig):=(af iC.out 0).trans rfl;have a4q:jb.cell? ⟨lf,1,none⟩=some (.int .i64 ij):=(af iC.out 1).trans rfl;have a4r:=aa iC.out 0;have a4s:=aa iC.out 1))
      go_roundg k1
      case measure=>have:=fR.out;omega
      case rel=>exact ⟨(wrap64 (cj+1)),(Tk),(a0o),(by first|rfl|(simp;done)|(simp [*];done)),H',⟨by have:=fR.out;omega⟩,⟨by (with_reducible repeat (first|refine aq ?_ _|refine aj ?_|refine ak ?_ _));refine dm ?_ pN.out _;(with_reducible repeat (first|refine aq ?_ _|refine aj ?_|refine ak ?_ _));refine dm ?_ pN.out _;(with_reducible repeat (first|refine aq ?_ _|refine aj ?_|refine ak ?_ _));exact kz.out⟩,⟨by (with_reducible repeat (first|refine aq ?_ _|refine aj ?_|refine ak ?_ _));refine aK (cs:= #[.int .i64 Tk,.int .i64 ij]) ?_ 1 _ rfl;(with_reducible repeat (first|refine aq ?_ _|refine aj ?_|refine ak ?_ _));refine aK (cs:= #[.int .i64 ig,.int .i64 ij]) ?_ 0 _ rfl;(with_reducible repeat (first|refine aq ?_ _|refine aj ?_|refine ak ?_ _));exact iC.out⟩,⟨ax⟩⟩
     ·rw [if_neg c8] at H
      exact absurd H (by simp)
    ·rw [if_neg c7] at H
     exact absurd H (by simp)
   ·rw [if_neg c6] at H
    have ov:decide (cj<(l0.length:Int))=false:=decide_eq_false c6
    clear c6
    simp only [Option.some.injEq,Prod.mk.injEq] at H
    obtain ⟨rfl,rfl⟩:=H
    have hnb18:=Bc.out
    have hnc18:=pN.out
    have Hu:wr.cell? ⟨lf,0,none⟩=some (.int .i64 ig):=(af iC.out 0).trans rfl
    have Hv:wr.cell? ⟨lf,1,none⟩=some (.int .i64 ij):=(af iC.out 1).trans rfl
    have Hw:=aa iC.out 0
    have Hx:=aa iC.out 1
    have yD:wr.cell? ⟨mJ,0,none⟩=some (.int .i64 0):=(af kz.out 0).trans rfl
    have yE:wr.cell? ⟨mJ,1,none⟩=some (.int .i64 0):=(af kz.out 1).trans rfl
    have yF:=aa kz.out 0
    have yG:=aa kz.out 1
    go_wp2
    refine bodyPost_ret (results_cell_row rfl _ _ mJ 26 #[.int .i64 ig,.int .i64 ij] (0,0) _ rfl (by (with_reducible repeat (first|refine aq ?_ _|refine aj ?_|refine ak ?_ _));refine aK (cs:= #[.int .i64 ig,.int .i64 0]) ?_ 1 _ rfl;(with_reducible repeat (first|refine aq ?_ _|refine aj ?_|refine ak ?_ _));refine aK (cs:= #[.int .i64 0,.int .i64 0]) ?_ 0 _ rfl;(with_reducible repeat (first|refine aq ?_ _|refine aj ?_|refine ak ?_ _));exact kz.out) Try.underlying26 rfl (by kernel_rfl)) rfl ?_
    exact ⟨by first|rfl|(simp [aQ,aR]<;>rfl)|(simp [*,aQ,aR]<;>rfl),ax⟩
def bk.l0:Nat->List (bM)->List (bM)->Int->Int->Option (Bool)
 |0,_,_,_,_=>none
 |k+1,x0,x1,x24,yH=>if yH<x24 then (if 0<=yH then (if yH<(x0.length:Int) then (if yH<(x1.length:Int) then ((cm.f ((aW x0 yH).f0) ((aW x0 yH).f1) ((aW x1 yH).f0) ((aW x1 yH).f1)).bind fun t203=>(if t203=true then (some true) else ((cm.f ((aW x1 yH).f0) ((aW x1 yH).f1) ((aW x0 yH).f0) ((aW x0 yH).f1)).bind fun t206=>(if t206=true then (some false) else (bk.l0 k x0 x1 x24 (wrap64 (yH+1))))))) else (none)) else (none)) else (none)) else (some false)
def bk.f (k:Nat) (l0:List (bM)) (l1:List (bM)) (a2:Bool):Option (Bool):=(bK.f k l0).bind fun uJ=>((bK.f k l1).bind fun oU=>((cm.f uJ.1 uJ.2 oU.1 oU.2).bind fun xy=>(if xy=true then (some (!a2)) else ((cm.f oU.1 oU.2 uJ.1 uJ.2).bind fun rT=>(if rT=true then (some a2) else (bk.l0 k l0 l1 (l0.length:Int) 0))))))
theorem bk.cI:∀k,(∀y0 y1 y2 y3,aT (bk.l0 k y0 y1 y2 y3) (bk.l0 (k+1) y0 y1 y2 y3))
 |0=>fun _ _ _ _ r h=>by simp [bk.l0] at h
 |k+1=>by
  have dL:=bk.cI k
  ·intro y0 y1 y2 y3
   unfold bk.l0
   repeat' first
   |(with_reducible exact dL _ _ _ _)
   |(with_reducible exact bK.mono _ _)
   |(with_reducible exact aT.refl _)
   |(with_reducible exact aT.none _)
   |(with_reducible refine aT.ite ?_ ?_)
   |(with_reducible refine aT.bind ?_ (fun _=>?_))
theorem bk.mono:∀a0 a1 a2 k,aT (bk.f k a0 a1 a2) (bk.f (k+1) a0 a1 a2):=by
 intro a0 a1 a2 k
 have dL:=bk.cI k
 unfold bk.f
 repeat' first
  |(with_reducible exact dL _ _ _ _)
  |(with_reducible exact bK.mono _ _)
  |(with_reducible exact aT.refl _)
  |(with_reducible exact aT.none _)
  |(with_reducible refine aT.ite ?_ ?_)
  |(with_reducible refine aT.bind ?_ (fun _=>?_))
def bk.T10:Bool×List (List Nat×List Nat):=(true,[([],[]),([],[]),([0,1],[0,1]),([2],[2]),([],[]),([],[]),([4,5],[4,5]),([6],[6]),([3,7],[3,7])])
def bk.B10:List Nat:=[0,0,3,7,0,0,48,112,255]
theorem bk.Tl:ke .any (opsOf Try.f50 10)=bk.T10:=by kernel_rfl
theorem bk.NR:pQ bk.T10.2 bk.B10=true:=by kernel_rfl
def bk.T12:Bool×List (List Nat×List Nat):=(true,[([],[]),([],[]),([0,1],[0,1]),([2],[2]),([],[]),([],[]),([4,5],[4,5]),([6],[6]),([3,7],[3,7])])
def bk.B12:List Nat:=[0,0,3,7,0,0,48,112,255]
theorem bk.a2A:ke .any (opsOf Try.f50 12)=bk.T12:=by kernel_rfl
theorem bk.Xl:pQ bk.T12.2 bk.B12=true:=by kernel_rfl
set_option maxHeartbeats 8000000 in
set_option maxRecDepth 100000 in
theorem bk.calls (k:Nat) (A0:Option Addr) (c0:Nat) (l0:List (bM)) (A1:Option Addr) (c1:Nat) (l1:List (bM)) (a2:Bool) (r:Bool) (w:World) (fy:Kd.C eY w A0 l0.length l0) (hc0:l0.length<=c0) (hr1:Kd.C eY w A1 l1.length l1) (hc1:l1.length<=c1) (h:bk.f k l0 l1 a2=some r):
 Calls Try.prog 50 #[.slice A0 l0.length c0,.slice A1 l1.length c1,.bool a2] w fun e w'=>e= .returned (.bool r)/\Below w.heap.size w w':=by
 have mM:=Try.underlying26
 have eE:=Aside0.mk fy
 have lR:=Aside0.mk hc0
 clear fy hc0
 have iJ:=Aside0.mk hr1
 have nW:=Aside0.mk hc1
 clear hr1 hc1
 have HB:=Aside0.mk (Below.refl w.heap.size w)
 have H:((bK.f k l0).bind fun uJ=>((bK.f k l1).bind fun oU=>((cm.f uJ.1 uJ.2 oU.1 oU.2).bind fun xy=>(if xy=true then (some (!a2)) else ((cm.f oU.1 oU.2 uJ.1 uJ.2).bind fun rT=>(if rT=true then (some a2) else (bk.l0 k l0 l1 (l0.length:Int) 0)))))))=some r:=h
 clear h
 replace H:=Option.bind_eq_some_iff.mp H
 obtain ⟨⟨t193,t194⟩,wB,H⟩:=H
 replace H:((bK.f k l1).bind fun oU=>((cm.f t193 t194 oU.1 oU.2).bind fun xy=>(if xy=true then (some (!a2)) else ((cm.f oU.1 oU.2 t193 t194).bind fun rT=>(if rT=true then (some a2) else (bk.l0 k l0 l1 (l0.length:Int) 0))))))=some r:=H
 have A4:=Aside0.mk wB
 clear wB
 replace H:=Option.bind_eq_some_iff.mp H
 obtain ⟨⟨t196,jq⟩,AO,H⟩:=H
 replace H:((cm.f t193 t194 t196 jq).bind fun xy=>(if xy=true then (some (!a2)) else ((cm.f t196 jq t193 t194).bind fun rT=>(if rT=true then (some a2) else (bk.l0 k l0 l1 (l0.length:Int) 0)))))=some r:=H
 have A5:=Aside0.mk AO
 clear AO
 replace H:=Option.bind_eq_some_iff.mp H
 obtain ⟨xy,wh,H⟩:=H
 replace H:(if xy=true then (some (!a2)) else ((cm.f t196 jq t193 t194).bind fun rT=>(if rT=true then (some a2) else (bk.l0 k l0 l1 (l0.length:Int) 0))))=some r:=H
 have A6:=Aside0.mk wh
 clear wh
 by_cases c7:xy=true
 ·subst c7
  have H1:(some (!a2))=some r:=by rw [if_pos rfl] at H;exact H
  clear H
  have H:=H1
  clear H1
  obtain rfl:=Option.some.inj H
  go_enter Try.func50,Try.ntmps50
  go_wp2_with (first|((with_reducible refine aY (f:=26) rfl ?_);refine bP (some 11) rfl rfl Try.func26 (by kernel_rfl) rfl #[.slice A0 l0.length c0] rfl (by (try simp only [List.map_toArray,List.map_cons,List.map_nil]);first|done|rfl|(simp only [List.length_drop,List.length_take];rfl)) ?_;(with_reducible refine (bK.calls k _ _ l0 t193 t194 _ ?cy ?cA A4.out).mono ?_);(case cy=>repeat (first|exact eE.out|(with_reducible refine Kd.cX ?_ _)|(with_reducible refine Kd.cY ?_ _)|(with_reducible refine Kd.dB ?_)));(case cA=>exact lR.out);rintro e w8 ⟨rfl,hb⟩;refine ⟨_,rfl,?_⟩;have aA:=Aside0.mk (ah ax hb);clear HB;have HB:=aA;clear aA;(try clear hb);(try clear hb2);(try clear hk);(try clear hi))|((with_reducible refine bp (N:=7) rfl ?_);refine bw ?hg (N:=7) ?hd (cs:= #[.int .i64 0,.int .i64 0]) (t:=26) ?hr ?_;(case hd=>rfl);(case hg=>rfl);(case hr=>first|(go_simp;done)|(go_simp;rfl));intro dF hg w9 aU hb;have aA:=Aside0.mk (ah ax hb);have aC:=Aside0.mk (aU);have aD:=Aside0.mk ((by rw [hg];exact (av ax):w.heap.size<=dF));have aJ:=Aside0.mk ((by rw [hg];exact (av ax):w.heap.size<=dF));clear HB;have HB:=aA;have bI:=aC;have a2B:=aD;have a2C:=aJ;clear aA aC aD aJ;clear hb aU hg;have Ig:w9.cell? ⟨dF,0,none⟩=some (.int .i64 0):=(af bI.out 0).trans rfl;have Ih:w9.cell? ⟨dF,1,none⟩=some (.int .i64 0):=(af bI.out 1).trans rfl;have Ii:=aa bI.out 0;have Ij:=aa bI.out 1)|((with_reducible refine aY (f:=26) rfl ?_);refine bP (some 13) rfl rfl Try.func26 (by kernel_rfl) rfl #[.slice A1 l1.length c1] rfl (by (try simp only [List.map_toArray,List.map_cons,List.map_nil]);first|done|rfl|(simp only [List.length_drop,List.length_take];rfl)) ?_;(with_reducible refine (bK.calls k _ _ l1 t196 jq _ ?cy ?cA A5.out).mono ?_);(case cy=>exact Kd.bX iJ.out ax);(case cA=>exact nW.out);rintro e ja ⟨rfl,hb⟩;refine ⟨_,rfl,?_⟩;have aA:=Aside0.mk (ai (g:=dF) (o:= .cells #[.int .i64 t193,.int .i64 t194] 26 (0,0)) (by (with_reducible repeat (first|refine aq ?_ _|refine aj ?_|refine ak ?_ _));refine aK (cs:= #[.int .i64 t193,.int .i64 0]) ?_ 1 _ rfl;(with_reducible repeat (first|refine aq ?_ _|refine aj ?_|refine ak ?_ _));refine aK (cs:= #[.int .i64 0,.int .i64 0]) ?_ 0 _ rfl;(with_reducible repeat (first|refine aq ?_ _|refine aj ?_|refine ak ?_ _));exact bI.out) hb);have aC:=Aside0.mk (ah ax hb);clear bI;clear HB;have bI:=aA;have HB:=aC;clear aA aC;(try clear hb);(try clear hb2);(try clear hk);(try clear hi))|((with_reducible refine bp (N:=8) rfl ?_);refine bw ?hg (N:=8) ?hd (cs:= #[.int .i64 0,.int .i64 0]) (t:=26) ?hr ?_;(case hd=>rfl);(case hg=>rfl);(case hr=>first|(go_simp;done)|(go_simp;rfl));intro fH hg jN aU hb;have aA:=Aside0.mk (ai (g:=dF) (o:= .cells #[.int .i64 t193,.int .i64 t194] 26 (0,0)) (aI bI) hb);have aC:=Aside0.mk (ah ax hb);have aD:=Aside0.mk (aU);have aJ:=Aside0.mk ((by rw [hg];exact (av ax):w.heap.size<=fH));have bJ:=Aside0.mk ((by rw [hg];exact (av ax):w.heap.size<=fH));have bS:=Aside0.mk ((by rw [hg];exact Nat.ne_of_lt (aZ (g:=dF) (o:= .cells #[.int .i64 t193,.int .i64 t194] 26 (0,0)) (aI bI)):dF≠fH));have cw:=Aside0.mk ((by rw [hg];exact Nat.ne_of_gt (aZ (g:=dF) (o:= .cells #[.int .i64 t193,.int .i64 t194] 26 (0,0)) (aI bI)):fH≠dF));clear bI;clear HB;have bI:=aA;have HB:=aC;have cB:=aD;have a2D:=aJ;have a2E:=bJ;have kJ:=bS;have tX:=cw;clear aA aC aD aJ bJ bS cw;clear hb aU hg;have hnb13:=tX.out;have hnc13:=kJ.out;have PG:jN.cell? ⟨fH,0,none⟩=some (.int .i64 0):=(af cB.out 0).trans rfl;have PI:jN.cell? ⟨fH,1,none⟩=some (.int .i64 0):=(af cB.out 1).trans rfl;have PJ:=aa cB.out 0;have PK:=aa cB.out 1;have IE:jN.cell? ⟨dF,0,none⟩=some (.int .i64 t193):=(af bI.out 0).trans rfl;have IG:jN.cell? ⟨dF,1,none⟩=some (.int .i64 t194):=(af bI.out 1).trans rfl;have II:=aa bI.out 0;have IJ:=aa bI.out 1)|((with_reducible refine aY (f:=65) rfl ?_);refine bP (some 16) rfl rfl Try.func65 (by kernel_rfl) rfl #[.agg #[.int .i64 t193,.int .i64 t194],.agg #[.int .i64 t196,.int .i64 jq]] rfl (by (try simp only [List.map_toArray,List.map_cons,List.map_nil]);first|done|rfl|(simp only [List.length_drop,List.length_take];rfl)) ?_;(with_reducible refine (cm.calls t193 t194 t196 jq true _ A6.out).mono ?_);rintro e jb ⟨rfl,hb⟩;refine ⟨_,rfl,?_⟩;have aA:=Aside0.mk (ai (g:=dF) (o:= .cells #[.int .i64 t193,.int .i64 t194] 26 (0,0)) (by (with_reducible repeat (first|refine aq ?_ _|refine aj ?_|refine ak ?_ _));refine dm ?_ kJ.out _;(with_reducible repeat (first|refine aq ?_ _|refine aj ?_|refine ak ?_ _));refine dm ?_ kJ.out _;(with_reducible repeat (first|refine aq ?_ _|refine aj ?_|refine ak ?_ _));exact bI.out) hb);have aC:=Aside0.mk (ai (g:=fH) (o:= .cells #[.int .i64 t196,.int .i64 jq] 26 (0,0)) (by (with_reducible repeat (first|refine aq ?_ _|refine aj ?_|refine ak ?_ _));refine aK (cs:= #[.int .i64 t196,.int .i64 0]) ?_ 1 _ rfl;(with_reducible repeat (first|refine aq ?_ _|refine aj ?_|refine ak ?_ _));refine aK (cs:= #[.int .i64 0,.int .i64 0]) ?_ 0 _ rfl;(with_reducible repeat (first|refine aq ?_ _|refine aj ?_|refine ak ?_ _));exact cB.out) hb);have aD:=Aside0.mk (ah ax hb);clear bI;clear cB;clear HB;have bI:=aA;have cB:=aC;have HB:=aD;clear aA aC aD;(try clear hb);(try clear hb2);(try clear hk);(try clear hi)))
  go_ret
  exact ⟨by first|rfl|(simp [aQ,aR]<;>rfl)|(simp [*,aQ,aR]<;>rfl),ax⟩
 ·replace c7:=Bool.eq_false_iff.mpr c7
  subst c7
  have H1:((cm.f t196 jq t193 t194).bind fun rT=>(if rT=true then (some a2) else (bk.l0 k l0 l1 (l0.length:Int) 0)))=some r:=by rw [if_neg (show ¬(false=true) by decide)] at H;exact H
  clear H
  have H:=H1
  clear H1
  replace H:=Option.bind_eq_some_iff.mp H
  obtain ⟨rT,a8t,H⟩:=H
  replace H:(if rT=true then (some a2) else (bk.l0 k l0 l1 (l0.length:Int) 0))=some r:=H
  have A17:=Aside0.mk a8t
  clear a8t
  by_cases c18:rT=true
  ·subst c18
   have H1:(some a2)=some r:=by rw [if_pos rfl] at H;exact H
   clear H
   have H:=H1
   clear H1
   obtain rfl:=Option.some.inj H
   go_enter Try.func50,Try.ntmps50
   go_wp2_with (first|((with_reducible refine aY (f:=26) rfl ?_);refine bP (some 11) rfl rfl Try.func26 (by kernel_rfl) rfl #[.slice A0 l0.length c0] rfl (by (try simp only [List.map_toArray,List.map_cons,List.map_nil]);first|done|rfl|(simp only [List.length_drop,List.length_take];rfl)) ?_;(with_reducible refine (bK.calls k _ _ l0 t193 t194 _ ?cy ?cA A4.out).mono ?_);(case cy=>repeat (first|exact eE.out|(with_reducible refine Kd.cX ?_ _)|(with_reducible refine Kd.cY ?_ _)|(with_reducible refine Kd.dB ?_)));(case cA=>exact lR.out);rintro e wF ⟨rfl,hb⟩;refine ⟨_,rfl,?_⟩;have aA:=Aside0.mk (ah ax hb);clear HB;have HB:=aA;clear aA;(try clear hb);(try clear hb2);(try clear hk);(try clear hi))|((with_reducible refine bp (N:=7) rfl ?_);refine bw ?hg (N:=7) ?hd (cs:= #[.int .i64 0,.int .i64 0]) (t:=26) ?hr ?_;(case hd=>rfl);(case hg=>rfl);(case hr=>first|(go_simp;done)|(go_simp;rfl));intro dF hg kF aU hb;have aA:=Aside0.mk (ah ax hb);have aC:=Aside0.mk (aU);have aD:=Aside0.mk ((by rw [hg];exact (av ax):w.heap.size<=dF));have aJ:=Aside0.mk ((by rw [hg];exact (av ax):w.heap.size<=dF));clear HB;have HB:=aA;have bI:=aC;have a2B:=aD;have a2C:=aJ;clear aA aC aD aJ;clear hb aU hg;have BO:kF.cell? ⟨dF,0,none⟩=some (.int .i64 0):=(af bI.out 0).trans rfl;have BP:kF.cell? ⟨dF,1,none⟩=some (.int .i64 0):=(af bI.out 1).trans rfl;have BQ:=aa bI.out 0;have BS:=aa bI.out 1)|((with_reducible refine aY (f:=26) rfl ?_);refine bP (some 13) rfl rfl Try.func26 (by kernel_rfl) rfl #[.slice A1 l1.length c1] rfl (by (try simp only [List.map_toArray,List.map_cons,List.map_nil]);first|done|rfl|(simp only [List.length_drop,List.length_take];rfl)) ?_;(with_reducible refine (bK.calls k _ _ l1 t196 jq _ ?cy ?cA A5.out).mono ?_);(case cy=>exact Kd.bX iJ.out ax);(case cA=>exact nW.out);rintro e wI ⟨rfl,hb⟩;refine ⟨_,rfl,?_⟩;have aA:=Aside0.mk (ai (g:=dF) (o:= .cells #[.int .i64 t193,.int .i64 t194] 26 (0,0)) (by (with_reducible repeat (first|refine aq ?_ _|refine aj ?_|refine ak ?_ _));refine aK (cs:= #[.int .i64 t193,.int .i64 0]) ?_ 1 _ rfl;(with_reducible repeat (first|refine aq ?_ _|refine aj ?_|refine ak ?_ _));refine aK (cs:= #[.int .i64 0,.int .i64 0]) ?_ 0 _ rfl;(with_reducible repeat (first|refine aq ?_ _|refine aj ?_|refine ak ?_ _));exact bI.out) hb);have aC:=Aside0.mk (ah ax hb);clear bI;clear HB;have bI:=aA;have HB:=aC;clear aA aC;(try clear hb);(try clear hb2);(try clear hk);(try clear hi))|((with_reducible refine bp (N:=8) rfl ?_);refine bw ?hg (N:=8) ?hd (cs:= #[.int .i64 0,.int .i64 0]) (t:=26) ?hr ?_;(case hd=>rfl);(case hg=>rfl);(case hr=>first|(go_simp;done)|(go_simp;rfl));intro fH hg um aU hb;have aA:=Aside0.mk (ai (g:=dF) (o:= .cells #[.int .i64 t193,.int .i64 t194] 26 (0,0)) (aI bI) hb);have aC:=Aside0.mk (ah ax hb);have aD:=Aside0.mk (aU);have aJ:=Aside0.mk ((by rw [hg];exact (av ax):w.heap.size<=fH));have bJ:=Aside0.mk ((by rw [hg];exact (av ax):w.heap.size<=fH));have bS:=Aside0.mk ((by rw [hg];exact Nat.ne_of_lt (aZ (g:=dF) (o:= .cells #[.int .i64 t193,.int .i64 t194] 26 (0,0)) (aI bI)):dF≠fH));have cw:=Aside0.mk ((by rw [hg];exact Nat.ne_of_gt (aZ (g:=dF) (o:= .cells #[.int .i64 t193,.int .i64 t194] 26 (0,0)) (aI bI)):fH≠dF));clear bI;clear HB;have bI:=aA;have HB:=aC;have cB:=aD;have a2D:=aJ;have a2E:=bJ;have kJ:=bS;have tX:=cw;clear aA aC aD aJ bJ bS cw;clear hb aU hg;have b1w:=tX.out;have b1x:=kJ.out;have Hz:um.cell? ⟨fH,0,none⟩=some (.int .i64 0):=(af cB.out 0).trans rfl;have HJ:um.cell? ⟨fH,1,none⟩=some (.int .i64 0):=(af cB.out 1).trans rfl;have HV:=aa cB.out 0;have HY:=aa cB.out 1;have IK:um.cell? ⟨dF,0,none⟩=some (.int .i64 t193):=(af bI.out 0).trans rfl;have IL:um.cell? ⟨dF,1,none⟩=some (.int .i64 t194):=(af bI.out 1).trans rfl;have IM:=aa bI.out 0;have IP:=aa bI.out 1)|((with_reducible refine aY (f:=65) rfl ?_);refine bP (some 16) rfl rfl Try.func65 (by kernel_rfl) rfl #[.agg #[.int .i64 t193,.int .i64 t194],.agg #[.int .i64 t196,.int .i64 jq]] rfl (by (try simp only [List.map_toArray,List.map_cons,List.map_nil]);first|done|rfl|(simp only [List.length_drop,List.length_take];rfl)) ?_;(with_reducible refine (cm.calls t193 t194 t196 jq false _ A6.out).mono ?_);rintro e JZ ⟨rfl,hb⟩;refine ⟨_,rfl,?_⟩;have aA:=Aside0.mk (ai (g:=dF) (o:= .cells #[.int .i64 t193,.int .i64 t194] 26 (0,0)) (by (with_reducible repeat (first|refine aq ?_ _|refine aj ?_|refine ak ?_ _));refine dm ?_ kJ.out _;(with_reducible repeat (first|refine aq ?_ _|refine aj ?_|refine ak ?_ _));refine dm ?_ kJ.out _;(with_reducible repeat (first|refine aq ?_ _|refine aj ?_|refine ak ?_ _));exact bI.out) hb);have aC:=Aside0.mk (ai (g:=fH) (o:= .cells #[.int .i64 t196,.int .i64 jq] 26 (0,0)) (by (with_reducible repeat (first|refine aq ?_ _|refine aj ?_|refine ak ?_ _));refine aK (cs:= #[.int .i64 t196,.int .i64 0]) ?_ 1 _ rfl;(with_reducible repeat (first|refine aq ?_ _|refine aj ?_|refine ak ?_ _));refine aK (cs:= #[.int .i64 0,.int .i64 0]) ?_ 0 _ rfl;(with_reducible repeat (first|refine aq ?_ _|refine aj ?_|refine ak ?_ _));exact cB.out) hb);have aD:=Aside0.mk (ah ax hb);clear bI;clear cB;clear HB;have bI:=aA;have cB:=aC;have HB:=aD;clear aA aC aD;(try clear hb);(try clear hb2);(try clear hk);(try clear hi);have uR:JZ.cell? ⟨fH,0,none⟩=some (.int .i64 t196):=(af cB.out 0).trans rfl;have uS:JZ.cell? ⟨fH,1,none⟩=some (.int .i64 jq):=(af cB.out 1).trans rfl;have uT:=aa cB.out 0;have uU:=aa cB.out 1;have a4L:JZ.cell? ⟨dF,0,none⟩=some (.int .i64 t193):=(af bI.out 0).trans rfl;have a4M:JZ.cell? ⟨dF,1,none⟩=some (.int .i64 t194):=(af bI.out 1).trans rfl;have a4N:=aa bI.out 0;have a4O:=aa bI.out 1)|((with_reducible refine aY (f:=65) rfl ?_);refine bP (some 21) rfl rfl Try.func65 (by kernel_rfl) rfl #[.agg #[.int .i64 t196,.int .i64 jq],.agg #[.int .i64 t193,.int .i64 t194]] rfl (by (try simp only [List.map_toArray,List.map_cons,List.map_nil]);first|done|rfl|(simp only [List.length_drop,List.length_take];rfl)) ?_;(with_reducible refine (cm.calls t196 jq t193 t194 true _ A17.out).mono ?_);rintro e w30 ⟨rfl,hb⟩;refine ⟨_,rfl,?_⟩;have aA:=Aside0.mk (ai (g:=dF) (o:= .cells #[.int .i64 t193,.int .i64 t194] 26 (0,0)) (aI bI) hb);have aC:=Aside0.mk (ai (g:=fH) (o:= .cells #[.int .i64 t196,.int .i64 jq] 26 (0,0)) (aI cB) hb);have aD:=Aside0.mk (ah ax hb);clear bI;clear cB;clear HB;have bI:=aA;have cB:=aC;have HB:=aD;clear aA aC aD;(try clear hb);(try clear hb2);(try clear hk);(try clear hi)))
   go_ret
   exact ⟨by first|rfl|(simp [aQ,aR]<;>rfl)|(simp [*,aQ,aR]<;>rfl),ax⟩
  ·replace c18:=Bool.eq_false_iff.mpr c18
   subst c18
   have H1:(bk.l0 k l0 l1 (l0.length:Int) 0)=some r:=by rw [if_neg (show ¬(false=true) by decide)] at H;exact H
   clear H
   have H:=H1
   clear H1
   have H':=Aside0.mk H
   clear H
   go_enter Try.func50,Try.ntmps50
   go_wp2_with (first|((with_reducible refine aY (f:=26) rfl ?_);refine bP (some 11) rfl rfl Try.func26 (by kernel_rfl) rfl #[.slice A0 l0.length c0] rfl (by (try simp only [List.map_toArray,List.map_cons,List.map_nil]);first|done|rfl|(simp only [List.length_drop,List.length_take];rfl)) ?_;(with_reducible refine (bK.calls k _ _ l0 t193 t194 _ ?cy ?cA A4.out).mono ?_);(case cy=>repeat (first|exact eE.out|(with_reducible refine Kd.cX ?_ _)|(with_reducible refine Kd.cY ?_ _)|(with_reducible refine Kd.dB ?_)));(case cA=>exact lR.out);rintro e w31 ⟨rfl,hb⟩;refine ⟨_,rfl,?_⟩;have aA:=Aside0.mk (ah ax hb);clear HB;have HB:=aA;clear aA;(try clear hb);(try clear hb2);(try clear hk);(try clear hi))|((with_reducible refine bp (N:=7) rfl ?_);refine bw ?hg (N:=7) ?hd (cs:= #[.int .i64 0,.int .i64 0]) (t:=26) ?hr ?_;(case hd=>rfl);(case hg=>rfl);(case hr=>first|(go_simp;done)|(go_simp;rfl));intro dF hg qd aU hb;have aA:=Aside0.mk (ah ax hb);have aC:=Aside0.mk (aU);have aD:=Aside0.mk ((by rw [hg];exact (av ax):w.heap.size<=dF));have aJ:=Aside0.mk ((by rw [hg];exact (av ax):w.heap.size<=dF));clear HB;have HB:=aA;have bI:=aC;have a2B:=aD;have a2C:=aJ;clear aA aC aD aJ;clear hb aU hg;have PL:qd.cell? ⟨dF,0,none⟩=some (.int .i64 0):=(af bI.out 0).trans rfl;have PM:qd.cell? ⟨dF,1,none⟩=some (.int .i64 0):=(af bI.out 1).trans rfl;have PN:=aa bI.out 0;have PO:=aa bI.out 1)|((with_reducible refine aY (f:=26) rfl ?_);refine bP (some 13) rfl rfl Try.func26 (by kernel_rfl) rfl #[.slice A1 l1.length c1] rfl (by (try simp only [List.map_toArray,List.map_cons,List.map_nil]);first|done|rfl|(simp only [List.length_drop,List.length_take];rfl)) ?_;(with_reducible refine (bK.calls k _ _ l1 t196 jq _ ?cy ?cA A5.out).mono ?_);(case cy=>exact Kd.bX iJ.out ax);(case cA=>exact nW.out);rintro e w34 ⟨rfl,hb⟩;refine ⟨_,rfl,?_⟩;have aA:=Aside0.mk (ai (g:=dF) (o:= .cells #[.int .i64 t193,.int .i64 t194] 26 (0,0)) (by (with_reducible repeat (first|refine aq ?_ _|refine aj ?_|refine ak ?_ _));refine aK (cs:= #[.int .i64 t193,.int .i64 0]) ?_ 1 _ rfl;(with_reducible repeat (first|refine aq ?_ _|refine aj ?_|refine ak ?_ _));refine aK (cs:= #[.int .i64 0,.int .i64 0]) ?_ 0 _ rfl;(with_reducible repeat (first|refine aq ?_ _|refine aj ?_|refine ak ?_ _));exact bI.out) hb);have aC:=Aside0.mk (ah ax hb);clear bI;clear HB;have bI:=aA;have HB:=aC;clear aA aC;(try clear hb);(try clear hb2);(try clear hk);(try clear hi))|((with_reducible refine bp (N:=8) rfl ?_);refine bw ?hg (N:=8) ?hd (cs:= #[.int .i64 0,.int .i64 0]) (t:=26) ?hr ?_;(case hd=>rfl);(case hg=>rfl);(case hr=>first|(go_simp;done)|(go_simp;rfl));intro fH hg pg aU hb;have aA:=Aside0.mk (ai (g:=dF) (o:= .cells #[.int .i64 t193,.int .i64 t194] 26 (0,0)) (aI bI) hb);have aC:=Aside0.mk (ah ax hb);have aD:=Aside0.mk (aU);have aJ:=Aside0.mk ((by rw [hg];exact (av ax):w.heap.size<=fH));have bJ:=Aside0.mk ((by rw [hg];exact (av ax):w.heap.size<=fH));have bS:=Aside0.mk ((by rw [hg];exact Nat.ne_of_lt (aZ (g:=dF) (o:= .cells #[.int .i64 t193,.int .i64 t194] 26 (0,0)) (aI bI)):dF≠fH));have cw:=Aside0.mk ((by rw [hg];exact Nat.ne_of_gt (aZ (g:=dF) (o:= .cells #[.int .i64 t193,.int .i64 t194] 26 (0,0)) (aI bI)):fH≠dF));clear bI;clear HB;have bI:=aA;have HB:=aC;have cB:=aD;have a2D:=aJ;have a2E:=bJ;have kJ:=bS;have tX:=cw;clear aA aC aD aJ bJ bS cw;clear hb aU hg;have b1g:=tX.out;have b1h:=kJ.out;have Ia:pg.cell? ⟨fH,0,none⟩=some (.int .i64 0):=(af cB.out 0).trans rfl;have Ib:pg.cell? ⟨fH,1,none⟩=some (.int .i64 0):=(af cB.out 1).trans rfl;have Ic:=aa cB.out 0;have Ie:=aa cB.out 1;have Qe:pg.cell? ⟨dF,0,none⟩=some (.int .i64 t193):=(af bI.out 0).trans rfl;have Qf:pg.cell? ⟨dF,1,none⟩=some (.int .i64 t194):=(af bI.out 1).trans rfl;have Qg:=aa bI.out 0;have Qh:=aa bI.out 1)|((with_reducible refine aY (f:=65) rfl ?_);refine bP (some 16) rfl rfl Try.func65 (by kernel_rfl) rfl #[.agg #[.int .i64 t193,.int .i64 t194],.agg #[.int .i64 t196,.int .i64 jq]] rfl (by (try simp only [List.map_toArray,List.map_cons,List.map_nil]);first|done|rfl|(simp only [List.length_drop,List.length_take];rfl)) ?_;(with_reducible refine (cm.calls t193 t194 t196 jq false _ A6.out).mono ?_);rintro e Ka ⟨rfl,hb⟩;refine ⟨_,rfl,?_⟩;have aA:=Aside0.mk (ai (g:=dF) (o:= .cells #[.int .i64 t193,.int .i64 t194] 26 (0,0)) (by (with_reducible repeat (first|refine aq ?_ _|refine aj ?_|refine ak ?_ _));refine dm ?_ kJ.out _;(with_reducible repeat (first|refine aq ?_ _|refine aj ?_|refine ak ?_ _));refine dm ?_ kJ.out _;(with_reducible repeat (first|refine aq ?_ _|refine aj ?_|refine ak ?_ _));exact bI.out) hb);have aC:=Aside0.mk (ai (g:=fH) (o:= .cells #[.int .i64 t196,.int .i64 jq] 26 (0,0)) (by (with_reducible repeat (first|refine aq ?_ _|refine aj ?_|refine ak ?_ _));refine aK (cs:= #[.int .i64 t196,.int .i64 0]) ?_ 1 _ rfl;(with_reducible repeat (first|refine aq ?_ _|refine aj ?_|refine ak ?_ _));refine aK (cs:= #[.int .i64 0,.int .i64 0]) ?_ 0 _ rfl;(with_reducible repeat (first|refine aq ?_ _|refine aj ?_|refine ak ?_ _));exact cB.out) hb);have aD:=Aside0.mk (ah ax hb);clear bI;clear cB;clear HB;have bI:=aA;have cB:=aC;have HB:=aD;clear aA aC aD;(try clear hb);(try clear hb2);(try clear hk);(try clear hi);have a4P:Ka.cell? ⟨fH,0,none⟩=some (.int .i64 t196):=(af cB.out 0).trans rfl;have a4Q:Ka.cell? ⟨fH,1,none⟩=some (.int .i64 jq):=(af cB.out 1).trans rfl;have a4R:=aa cB.out 0;have a4S:=aa cB.out 1;have IQ:Ka.cell? ⟨dF,0,none⟩=some (.int .i64 t193):=(af bI.out 0).trans rfl;have IU:Ka.cell? ⟨dF,1,none⟩=some (.int .i64 t194):=(af bI.out 1).trans rfl;have IV:=aa bI.out 0;have IW:=aa bI.out 1)|((with_reducible refine aY (f:=65) rfl ?_);refine bP (some 21) rfl rfl Try.func65 (by kernel_rfl) rfl #[.agg #[.int .i64 t196,.int .i64 jq],.agg #[.int .i64 t193,.int .i64 t194]] rfl (by (try simp only [List.map_toArray,List.map_cons,List.map_nil]);first|done|rfl|(simp only [List.length_drop,List.length_take];rfl)) ?_;(with_reducible refine (cm.calls t196 jq t193 t194 false _ A17.out).mono ?_);rintro e w42 ⟨rfl,hb⟩;refine ⟨_,rfl,?_⟩;have aA:=Aside0.mk (ai (g:=dF) (o:= .cells #[.int .i64 t193,.int .i64 t194] 26 (0,0)) (aI bI) hb);have aC:=Aside0.mk (ai (g:=fH) (o:= .cells #[.int .i64 t196,.int .i64 jq] 26 (0,0)) (aI cB) hb);have aD:=Aside0.mk (ah ax hb);clear bI;clear cB;clear HB;have bI:=aA;have cB:=aC;have HB:=aD;clear aA aC aD;(try clear hb);(try clear hb2);(try clear hk);(try clear hi)))
   go_loopg [25] k (fun kq v25 w'=>∃(bu:Int),v25= .int .i64 bu/\Aside0 (bk.l0 kq l0 l1 (l0.length:Int) bu=some r)/\Aside0 (kq<=k)/\Aside0 (w'.heap[dF]? =some (.cells #[.int .i64 t193,.int .i64 t194] 26 (0,0)))/\Aside0 (w'.heap[fH]? =some (.cells #[.int .i64 t196,.int .i64 jq] 26 (0,0)))/\Aside0 (Below w.heap.size w w'))
   case atStart=>exact ⟨(0),(by first|rfl|(simp;done)|(simp [*];done)),H',⟨Nat.le_refl _⟩,⟨by (with_reducible repeat (first|refine aq ?_ _|refine aj ?_|refine ak ?_ _));exact bI.out⟩,⟨by (with_reducible repeat (first|refine aq ?_ _|refine aj ?_|refine ak ?_ _));exact cB.out⟩,⟨ax⟩⟩
   case round=>
    clear H'
    try clear c1
    try clear c2
    try clear p2
    try clear c3
    try clear c5
    try clear c6
    try clear c7
    try clear c13
    try clear c18
    try clear c24
    try clear KF
    try clear c36
    try clear Ig
    try clear Ih
    try clear PG
    try clear PI
    try clear IE
    try clear IG
    try clear BO
    try clear BP
    try clear Hz
    try clear HJ
    try clear IK
    try clear IL
    try clear uR
    try clear uS
    try clear a4L
    try clear a4M
    try clear PL
    try clear PM
    try clear Ia
    try clear Ib
    try clear Qe
    try clear Qf
    try clear a4P
    try clear a4Q
    try clear IQ
    try clear IU
    try clear Ii
    try clear Ij
    try clear PJ
    try clear PK
    try clear II
    try clear IJ
    try clear BQ
    try clear BS
    try clear HV
    try clear HY
    try clear IM
    try clear IP
    try clear uT
    try clear uU
    try clear a4N
    try clear a4O
    try clear PN
    try clear PO
    try clear Ic
    try clear Ie
    try clear Qg
    try clear Qh
    try clear a4R
    try clear a4S
    try clear IV
    try clear IW
    obtain ⟨bu,rfl,HA,fR,bI,cB,HB⟩:=hrel
    cases gk with
    |zero=>exact absurd HA.out (by simp [bk.l0])
    |succ k1=>
     have H:=HA.out
     clear HA
     simp only [bk.l0] at H
     by_cases QI:bu<(l0.length:Int)
     ·rw [if_pos QI] at H
      have b1A:decide (bu<(l0.length:Int))=true:=decide_eq_true QI
      clear QI
      by_cases yI:0<=bu
      ·rw [if_pos yI] at H
       have LH:decide (0<=bu)=true:=decide_eq_true yI
       clear yI
       by_cases Bg:bu<(l0.length:Int)
       ·rw [if_pos Bg] at H
        have Tm:decide (bu<(l0.length:Int))=true:=decide_eq_true Bg
        clear Bg
        by_cases Bh:bu<(l1.length:Int)
        ·rw [if_pos Bh] at H
         have Tn:decide (bu<(l1.length:Int))=true:=decide_eq_true Bh
         clear Bh
         replace H:=Option.bind_eq_some_iff.mp H
         obtain ⟨t203,a8u,H⟩:=H
         replace H:(if t203=true then (some true) else ((cm.f ((aW l1 bu).f0) ((aW l1 bu).f1) ((aW l0 bu).f0) ((aW l0 bu).f1)).bind fun t206=>(if t206=true then (some false) else (bk.l0 k1 l0 l1 (l0.length:Int) (wrap64 (bu+1))))))=some r:=H
         have A47:=Aside0.mk a8u
         clear a8u
         by_cases c48:t203=true
         ·subst c48
          have H1:(some true)=some r:=by rw [if_pos rfl] at H;exact H
          clear H
          have H:=H1
          clear H1
          obtain rfl:=Option.some.inj H
          try go_wp2
          have aA:=Aside0.mk (aj bI.out)
          have aC:=Aside0.mk (aj cB.out)
          have aD:=Aside0.mk (bB HB.out)
          clear bI
          clear cB
          clear HB
          have bI:=aA
          have cB:=aC
          have HB:=aD
          clear aA aC aD
          have vS:0<=(bu:Int):=of_decide_eq_true (by first|(with_reducible assumption)|assumption)
          have vT:bu<(l0.length:Int):=of_decide_eq_true (by first|(with_reducible assumption)|assumption)
          obtain ⟨lg,NS,jh,ji⟩:=iN eE.out bu vS vT
          have kR:=ji
          have kS:=jh
          cases NS
          replace jh:=(HB.out.cell (World.block_lt_of_cell? w _ jh)).trans jh
          replace ji:=(HB.out.cell (World.block_lt_of_cell? w _ ji)).trans ji
          replace vS:=eq_true vS
          replace vT:=eq_true vT
          have vU:0<=(bu:Int):=of_decide_eq_true (by first|(with_reducible assumption)|assumption)
          have vV:bu<(l1.length:Int):=of_decide_eq_true (by first|(with_reducible assumption)|assumption)
          obtain ⟨lp,NT,jk,jl⟩:=iN iJ.out bu vU vV
          have kU:=jl
          have kV:=jk
          cases NT
          replace jk:=(HB.out.cell (World.block_lt_of_cell? w _ jk)).trans jk
          replace jl:=(HB.out.cell (World.block_lt_of_cell? w _ jl)).trans jl
          replace vU:=eq_true vU
          replace vV:=eq_true vV
          refine eX (n:=9) (S:=fun w'=>w'.cell? (lg.add ((bu).toNat*2))=some (.int .i64 ((aW l0 bu).f0))/\w'.cell? ⟨(lg.add ((bu).toNat*2)).block,(lg.add ((bu).toNat*2)).off+1,none⟩=some (.int .i64 ((aW l0 bu).f1))/\w'.cell? (lp.add ((bu).toNat*2))=some (.int .i64 ((aW l1 bu).f0))/\w'.cell? ⟨(lp.add ((bu).toNat*2)).block,(lp.add ((bu).toNat*2)).off+1,none⟩=some (.int .i64 ((aW l1 bu).f1))) (ds:=[]) #[false,false,false,false,false,false,false,false,false] (by kernel_rfl) rfl rfl ⟨((HB.out.cell (World.block_lt_of_cell? w _ kS)).trans kS),((HB.out.cell (World.block_lt_of_cell? w _ kR)).trans kR),((HB.out.cell (World.block_lt_of_cell? w _ kV)).trans kV),((HB.out.cell (World.block_lt_of_cell? w _ kU)).trans kU)⟩ (fun hHeld=>?_);refine iY bk.Tl bk.NR (fun bW ny=>?_)
          generalize wr.drew=Ao at bI cB HB jh ji jk jl hHeld⊢
          refine bT bW (i:=0) (N:=some 28) ?_
          refine bT bW (i:=1) (N:=some 29) ?_
          refine bT bW (i:=2) (N:=some 30) ?_
          refine bT bW (i:=4) (N:=some 32) ?_
          refine bT bW (i:=5) (N:=some 33) ?_
          refine bT bW (i:=6) (N:=some 34) ?_
          refine dy (i:=3) (N:=some 31) (v:=?_) (a':=?_) #[true,true,true,true,true,true,true,false,false] rfl rfl (jx bW.out ny.out (by kernel_rfl)) (fun _ _ _ h=>h) (Or.inl ⟨by rfl,?_⟩) hHeld ?_ ?_
          rotate_left
          ·rintro w' ⟨s0,s1,s2,s3⟩
           go_simp
           with_reducible rfl
          rotate_left
          ·exact eG
          refine dy (i:=7) (N:=some 35) (v:=?_) (a':=?_) #[true,true,true,true,true,true,true,true,false] rfl rfl (jx bW.out ny.out (by kernel_rfl)) (fun _ _ _ h=>h) (Or.inl ⟨by rfl,?_⟩) hHeld ?_ ?_
          rotate_left
          ·rintro w' ⟨s0,s1,s2,s3⟩
           go_simp
           with_reducible rfl
          rotate_left
          ·exact eG
          refine fA (i:=8) (N:=some 36) #[true,true,true,true,true,true,true,true,true] rfl rfl (kB bW.out (by kernel_rfl)) (by decide) (fun K hK=>?_)
          refine nG Try.func65 (by kernel_rfl) rfl #[.agg #[.int .i64 ((aW l0 bu).f0),.int .i64 ((aW l0 bu).f1)],.agg #[.int .i64 ((aW l1 bu).f0),.int .i64 ((aW l1 bu).f1)]] (by rfl) rfl rfl (by (try simp only [List.map_toArray,List.map_cons,List.map_nil]);first|done|rfl|(simp only [List.length_drop,List.length_take];rfl)) ?_
          with_reducible refine (cm.calls ((aW l0 bu).f0) ((aW l0 bu).f1) ((aW l1 bu).f0) ((aW l1 bu).f1) true _ A47.out).mono ?_
          rintro e w50 ⟨rfl,hb⟩
          refine ⟨_,rfl,?_⟩
          have aA:=Aside0.mk (ai (g:=dF) (o:= .cells #[.int .i64 t193,.int .i64 t194] 26 (0,0)) (aI bI) hb)
          have aC:=Aside0.mk (ai (g:=fH) (o:= .cells #[.int .i64 t196,.int .i64 jq] 26 (0,0)) (aI cB) hb)
          have aD:=Aside0.mk (ah ax hb)
          clear bI
          clear cB
          clear HB
          have bI:=aA
          have cB:=aC
          have HB:=aD
          clear aA aC aD
          (try clear hb)
          (try clear hb2)
          (try clear hk)
          (try clear hi)
          refine hK.out _ _ ⟨((HB.out.cell (World.block_lt_of_cell? w _ kS)).trans kS),((HB.out.cell (World.block_lt_of_cell? w _ kR)).trans kR),((HB.out.cell (World.block_lt_of_cell? w _ kV)).trans kV),((HB.out.cell (World.block_lt_of_cell? w _ kU)).trans kU)⟩ (fun hHeld=>?_)
          clear hK K
          refine eF (a':=?_) ?_ ?_
          rotate_left
          ·show Act.put _ (some 36) _=_
           simp only [Act.put,List.setIfInBounds_toArray,List.set_cons_zero,List.set_cons_succ,cZ,dX]
           rfl
          refine fV (lA bW.out (by kernel_rfl)) ?_
          try go_wp2
          go_ret
          exact ⟨by first|rfl|(simp [aQ,aR]<;>rfl)|(simp [*,aQ,aR]<;>rfl),ax⟩
         ·replace c48:=Bool.eq_false_iff.mpr c48
          subst c48
          have H1:((cm.f ((aW l1 bu).f0) ((aW l1 bu).f1) ((aW l0 bu).f0) ((aW l0 bu).f1)).bind fun t206=>(if t206=true then (some false) else (bk.l0 k1 l0 l1 (l0.length:Int) (wrap64 (bu+1)))))=some r:=by rw [if_neg (show ¬(false=true) by decide)] at H;exact H
          clear H
          have H:=H1
          clear H1
          replace H:=Option.bind_eq_some_iff.mp H
          obtain ⟨t206,a8w,H⟩:=H
          replace H:(if t206=true then (some false) else (bk.l0 k1 l0 l1 (l0.length:Int) (wrap64 (bu+1))))=some r:=H
          have A51:=Aside0.mk a8w
          clear a8w
          by_cases c52:t206=true
          ·subst c52
           have H1:(some false)=some r:=by rw [if_pos rfl] at H;exact H
           clear H
           have H:=H1
           clear H1
           obtain rfl:=Option.some.inj H
           try go_wp2
           have aA:=Aside0.mk (aj bI.out)
           have aC:=Aside0.mk (aj cB.out)
           have aD:=Aside0.mk (bB HB.out)
           clear bI
           clear cB
           clear HB
           have bI:=aA
           have cB:=aC
           have HB:=aD
           clear aA aC aD
           have vS:0<=(bu:Int):=of_decide_eq_true (by first|(with_reducible assumption)|assumption)
           have vT:bu<(l0.length:Int):=of_decide_eq_true (by first|(with_reducible assumption)|assumption)
           obtain ⟨lg,NS,jh,ji⟩:=iN eE.out bu vS vT
           have kR:=ji
           have kS:=jh
           cases NS
           replace jh:=(HB.out.cell (World.block_lt_of_cell? w _ jh)).trans jh
           replace ji:=(HB.out.cell (World.block_lt_of_cell? w _ ji)).trans ji
           replace vS:=eq_true vS
           replace vT:=eq_true vT
           have vU:0<=(bu:Int):=of_decide_eq_true (by first|(with_reducible assumption)|assumption)
           have vV:bu<(l1.length:Int):=of_decide_eq_true (by first|(with_reducible assumption)|assumption)
           obtain ⟨lp,NT,jk,jl⟩:=iN iJ.out bu vU vV
           have kU:=jl
           have kV:=jk
           cases NT
           replace jk:=(HB.out.cell (World.block_lt_of_cell? w _ jk)).trans jk
           replace jl:=(HB.out.cell (World.block_lt_of_cell? w _ jl)).trans jl
           replace vU:=eq_true vU
           replace vV:=eq_true vV
           refine eX (n:=9) (S:=fun w'=>w'.cell? (lg.add ((bu).toNat*2))=some (.int .i64 ((aW l0 bu).f0))/\w'.cell? ⟨(lg.add ((bu).toNat*2)).block,(lg.add ((bu).toNat*2)).off+1,none⟩=some (.int .i64 ((aW l0 bu).f1))/\w'.cell? (lp.add ((bu).toNat*2))=some (.int .i64 ((aW l1 bu).f0))/\w'.cell? ⟨(lp.add ((bu).toNat*2)).block,(lp.add ((bu).toNat*2)).off+1,none⟩=some (.int .i64 ((aW l1 bu).f1))) (ds:=[]) #[false,false,false,false,false,false,false,false,false] (by kernel_rfl) rfl rfl ⟨((HB.out.cell (World.block_lt_of_cell? w _ kS)).trans kS),((HB.out.cell (World.block_lt_of_cell? w _ kR)).trans kR),((HB.out.cell (World.block_lt_of_cell? w _ kV)).trans kV),((HB.out.cell (World.block_lt_of_cell? w _ kU)).trans kU)⟩ (fun hHeld=>?_);refine iY bk.Tl bk.NR (fun bW ny=>?_)
           generalize wr.drew=w53 at bI cB HB jh ji jk jl hHeld⊢
           refine bT bW (i:=0) (N:=some 28) ?_
           refine bT bW (i:=1) (N:=some 29) ?_
           refine bT bW (i:=2) (N:=some 30) ?_
           refine bT bW (i:=4) (N:=some 32) ?_
           refine bT bW (i:=5) (N:=some 33) ?_
           refine bT bW (i:=6) (N:=some 34) ?_
           refine dy (i:=3) (N:=some 31) (v:=?_) (a':=?_) #[true,true,true,true,true,true,true,false,false] rfl rfl (jx bW.out ny.out (by kernel_rfl)) (fun _ _ _ h=>h) (Or.inl ⟨by rfl,?_⟩) hHeld ?_ ?_
           rotate_left
           ·rintro w' ⟨s0,s1,s2,s3⟩
            go_simp
            with_reducible rfl
           rotate_left
           ·exact eG
           refine dy (i:=7) (N:=some 35) (v:=?_) (a':=?_) #[true,true,true,true,true,true,true,true,false] rfl rfl (jx bW.out ny.out (by kernel_rfl)) (fun _ _ _ h=>h) (Or.inl ⟨by rfl,?_⟩) hHeld ?_ ?_
           rotate_left
           ·rintro w' ⟨s0,s1,s2,s3⟩
            go_simp
            with_reducible rfl
           rotate_left
           ·exact eG
           refine fA (i:=8) (N:=some 36) #[true,true,true,true,true,true,true,true,true] rfl rfl (kB bW.out (by kernel_rfl)) (by decide) (fun K hK=>?_)
           refine nG Try.func65 (by kernel_rfl) rfl #[.agg #[.int .i64 ((aW l0 bu).f0),.int .i64 ((aW l0 bu).f1)],.agg #[.int .i64 ((aW l1 bu).f0),.int .i64 ((aW l1 bu).f1)]] (by rfl) rfl rfl (by (try simp only [List.map_toArray,List.map_cons,List.map_nil]);first|done|rfl|(simp only [List.length_drop,List.length_take];rfl)) ?_
           with_reducible refine (cm.calls ((aW l0 bu).f0) ((aW l0 bu).f1) ((aW l1 bu).f0) ((aW l1 bu).f1) false _ A47.out).mono ?_
           rintro e w54 ⟨rfl,hb⟩
           refine ⟨_,rfl,?_⟩
           have aA:=Aside0.mk (ai (g:=dF) (o:= .cells #[.int .i64 t193,.int .i64 t194] 26 (0,0)) (aI bI) hb)
           have aC:=Aside0.mk (ai (g:=fH) (o:= .cells #[.int .i64 t196,.int .i64 jq] 26 (0,0)) (aI cB) hb)
           have aD:=Aside0.mk (ah ax hb)
           clear bI
           clear cB
           clear HB
           have bI:=aA
           have cB:=aC
           have HB:=aD
           clear aA aC aD
           (try clear hb)
           (try clear hb2)
           (try clear hk)
           (try clear hi)
           refine hK.out _ _ ⟨((HB.out.cell (World.block_lt_of_cell? w _ kS)).trans kS),((HB.out.cell (World.block_lt_of_cell? w _ kR)).trans kR),((HB.out.cell (World.block_lt_of_cell? w _ kV)).trans kV),((HB.out.cell (World.block_lt_of_cell? w _ kU)).trans kU)⟩ (fun hHeld=>?_)
           clear hK K
           refine eF (a':=?_) ?_ ?_
           rotate_left
           ·show Act.put _ (some 36) _=_
            simp only [Act.put,List.setIfInBounds_toArray,List.set_cons_zero,List.set_cons_succ,cZ,dX]
            rfl
           refine fV (lA bW.out (by kernel_rfl)) ?_
           try go_wp2
           have aA:=Aside0.mk (aj bI.out)
           have aC:=Aside0.mk (aj cB.out)
           have aD:=Aside0.mk (bB HB.out)
           clear bI
           clear cB
           clear HB
           have bI:=aA
           have cB:=aC
           have HB:=aD
           clear aA aC aD
           have Ee:0<=(bu:Int):=of_decide_eq_true (by first|(with_reducible assumption)|assumption)
           have Ef:bu<(l1.length:Int):=of_decide_eq_true (by first|(with_reducible assumption)|assumption)
           obtain ⟨Tp,a0r,nt,nu⟩:=iN iJ.out bu Ee Ef
           have pY:=nu
           have pZ:=nt
           obtain rfl:lp=Tp:=(by injection a0r)
           replace nt:=(HB.out.cell (World.block_lt_of_cell? w _ nt)).trans nt
           replace nu:=(HB.out.cell (World.block_lt_of_cell? w _ nu)).trans nu
           replace Ee:=eq_true Ee
           replace Ef:=eq_true Ef
           have Eg:0<=(bu:Int):=of_decide_eq_true (by first|(with_reducible assumption)|assumption)
           have Eh:bu<(l0.length:Int):=of_decide_eq_true (by first|(with_reducible assumption)|assumption)
           obtain ⟨Tq,a0s,nv,nw⟩:=iN eE.out bu Eg Eh
           have qa:=nw
           have qb:=nv
           obtain rfl:lg=Tq:=(by injection a0s)
           replace nv:=(HB.out.cell (World.block_lt_of_cell? w _ nv)).trans nv
           replace nw:=(HB.out.cell (World.block_lt_of_cell? w _ nw)).trans nw
           replace Eg:=eq_true Eg
           replace Eh:=eq_true Eh
           refine eX (n:=9) (S:=fun w'=>w'.cell? (lp.add ((bu).toNat*2))=some (.int .i64 ((aW l1 bu).f0))/\w'.cell? ⟨(lp.add ((bu).toNat*2)).block,(lp.add ((bu).toNat*2)).off+1,none⟩=some (.int .i64 ((aW l1 bu).f1))/\w'.cell? (lg.add ((bu).toNat*2))=some (.int .i64 ((aW l0 bu).f0))/\w'.cell? ⟨(lg.add ((bu).toNat*2)).block,(lg.add ((bu).toNat*2)).off+1,none⟩=some (.int .i64 ((aW l0 bu).f1))) (ds:=[]) #[false,false,false,false,false,false,false,false,false] (by kernel_rfl) rfl rfl ⟨((HB.out.cell (World.block_lt_of_cell? w _ pZ)).trans pZ),((HB.out.cell (World.block_lt_of_cell? w _ pY)).trans pY),((HB.out.cell (World.block_lt_of_cell? w _ qb)).trans qb),((HB.out.cell (World.block_lt_of_cell? w _ qa)).trans qa)⟩ (fun hHeld=>?_);refine iY bk.a2A bk.Xl (fun bW ny=>?_)
           generalize w54.drew=w55 at bI cB HB nt nu nv nw hHeld⊢
           refine bT bW (i:=0) (N:=some 37) ?_
           refine bT bW (i:=1) (N:=some 38) ?_
           refine bT bW (i:=2) (N:=some 39) ?_
           refine bT bW (i:=4) (N:=some 41) ?_
           refine bT bW (i:=5) (N:=some 42) ?_
           refine bT bW (i:=6) (N:=some 43) ?_
           refine dy (i:=3) (N:=some 40) (v:=?_) (a':=?_) #[true,true,true,true,true,true,true,false,false] rfl rfl (jx bW.out ny.out (by kernel_rfl)) (fun _ _ _ h=>h) (Or.inl ⟨by rfl,?_⟩) hHeld ?_ ?_
           rotate_left
           ·rintro w' ⟨s0,s1,s2,s3⟩
            go_simp
            with_reducible rfl
           rotate_left
           ·exact eG
           refine dy (i:=7) (N:=some 44) (v:=?_) (a':=?_) #[true,true,true,true,true,true,true,true,false] rfl rfl (jx bW.out ny.out (by kernel_rfl)) (fun _ _ _ h=>h) (Or.inl ⟨by rfl,?_⟩) hHeld ?_ ?_
           rotate_left
           ·rintro w' ⟨s0,s1,s2,s3⟩
            go_simp
            with_reducible rfl
           rotate_left
           ·exact eG
           refine fA (i:=8) (N:=some 45) #[true,true,true,true,true,true,true,true,true] rfl rfl (kB bW.out (by kernel_rfl)) (by decide) (fun K hK=>?_)
           refine nG Try.func65 (by kernel_rfl) rfl #[.agg #[.int .i64 ((aW l1 bu).f0),.int .i64 ((aW l1 bu).f1)],.agg #[.int .i64 ((aW l0 bu).f0),.int .i64 ((aW l0 bu).f1)]] (by rfl) rfl rfl (by (try simp only [List.map_toArray,List.map_cons,List.map_nil]);first|done|rfl|(simp only [List.length_drop,List.length_take];rfl)) ?_
           with_reducible refine (cm.calls ((aW l1 bu).f0) ((aW l1 bu).f1) ((aW l0 bu).f0) ((aW l0 bu).f1) true _ A51.out).mono ?_
           rintro e w56 ⟨rfl,hb⟩
           refine ⟨_,rfl,?_⟩
           have aA:=Aside0.mk (ai (g:=dF) (o:= .cells #[.int .i64 t193,.int .i64 t194] 26 (0,0)) (aI bI) hb)
           have aC:=Aside0.mk (ai (g:=fH) (o:= .cells #[.int .i64 t196,.int .i64 jq] 26 (0,0)) (aI cB) hb)
           have aD:=Aside0.mk (ah ax hb)
           clear bI
           clear cB
           clear HB
           have bI:=aA
           have cB:=aC
           have HB:=aD
           clear aA aC aD
           (try clear hb)
           (try clear hb2)
           (try clear hk)
           (try clear hi)
           refine hK.out _ _ ⟨((HB.out.cell (World.block_lt_of_cell? w _ pZ)).trans pZ),((HB.out.cell (World.block_lt_of_cell? w _ pY)).trans pY),((HB.out.cell (World.block_lt_of_cell? w _ qb)).trans qb),((HB.out.cell (World.block_lt_of_cell? w _ qa)).trans qa)⟩ (fun hHeld=>?_)
           clear hK K
           refine eF (a':=?_) ?_ ?_
           rotate_left
           ·show Act.put _ (some 45) _=_
            simp only [Act.put,List.setIfInBounds_toArray,List.set_cons_zero,List.set_cons_succ,cZ,dX]
            rfl
           refine fV (lA bW.out (by kernel_rfl)) ?_
           try go_wp2
           go_ret
           exact ⟨by first|rfl|(simp [aQ,aR]<;>rfl)|(simp [*,aQ,aR]<;>rfl),ax⟩
          ·replace c52:=Bool.eq_false_iff.mpr c52
           subst c52
           have H1:(bk.l0 k1 l0 l1 (l0.length:Int) (wrap64 (bu+1)))=some r:=by rw [if_neg (show ¬(false=true) by decide)] at H;exact H
           clear H
           have H:=H1
           clear H1
           have H':=Aside0.mk H
           clear H
           try go_wp2
           have aA:=Aside0.mk (aj bI.out)
           have aC:=Aside0.mk (aj cB.out)
           have aD:=Aside0.mk (bB HB.out)
           clear bI
           clear cB
           clear HB
           have bI:=aA
           have cB:=aC
           have HB:=aD
           clear aA aC aD
           have vS:0<=(bu:Int):=of_decide_eq_true (by first|(with_reducible assumption)|assumption)
           have vT:bu<(l0.length:Int):=of_decide_eq_true (by first|(with_reducible assumption)|assumption)
           obtain ⟨lg,NS,jh,ji⟩:=iN eE.out bu vS vT
           have kR:=ji
           have kS:=jh
           cases NS
           replace jh:=(HB.out.cell (World.block_lt_of_cell? w _ jh)).trans jh
           replace ji:=(HB.out.cell (World.block_lt_of_cell? w _ ji)).trans ji
           replace vS:=eq_true vS
           replace vT:=eq_true vT
           have vU:0<=(bu:Int):=of_decide_eq_true (by first|(with_reducible assumption)|assumption)
           have vV:bu<(l1.length:Int):=of_decide_eq_true (by first|(with_reducible assumption)|assumption)
           obtain ⟨lp,NT,jk,jl⟩:=iN iJ.out bu vU vV
           have kU:=jl
           have kV:=jk
           cases NT
           replace jk:=(HB.out.cell (World.block_lt_of_cell? w _ jk)).trans jk
           replace jl:=(HB.out.cell (World.block_lt_of_cell? w _ jl)).trans jl
           replace vU:=eq_true vU
           replace vV:=eq_true vV
           refine eX (n:=9) (S:=fun w'=>w'.cell? (lg.add ((bu).toNat*2))=some (.int .i64 ((aW l0 bu).f0))/\w'.cell? ⟨(lg.add ((bu).toNat*2)).block,(lg.add ((bu).toNat*2)).off+1,none⟩=some (.int .i64 ((aW l0 bu).f1))/\w'.cell? (lp.add ((bu).toNat*2))=some (.int .i64 ((aW l1 bu).f0))/\w'.cell? ⟨(lp.add ((bu).toNat*2)).block,(lp.add ((bu).toNat*2)).off+1,none⟩=some (.int .i64 ((aW l1 bu).f1))) (ds:=[]) #[false,false,false,false,false,false,false,false,false] (by kernel_rfl) rfl rfl ⟨((HB.out.cell (World.block_lt_of_cell? w _ kS)).trans kS),((HB.out.cell (World.block_lt_of_cell? w _ kR)).trans kR),((HB.out.cell (World.block_lt_of_cell? w _ kV)).trans kV),((HB.out.cell (World.block_lt_of_cell? w _ kU)).trans kU)⟩ (fun hHeld=>?_);refine iY bk.Tl bk.NR (fun bW ny=>?_)
           generalize wr.drew=w57 at bI cB HB jh ji jk jl hHeld⊢
           refine bT bW (i:=0) (N:=some 28) ?_
           refine bT bW (i:=1) (N:=some 29) ?_
           refine bT bW (i:=2) (N:=some 30) ?_
           refine bT bW (i:=4) (N:=some 32) ?_
           refine bT bW (i:=5) (N:=some 33) ?_
           refine bT bW (i:=6) (N:=some 34) ?_
           refine dy (i:=3) (N:=some 31) (v:=?_) (a':=?_) #[true,true,true,true,true,true,true,false,false] rfl rfl (jx bW.out ny.out (by kernel_rfl)) (fun _ _ _ h=>h) (Or.inl ⟨by rfl,?_⟩) hHeld ?_ ?_
           rotate_left
           ·rintro w' ⟨s0,s1,s2,s3⟩
            go_simp
            with_reducible rfl
           rotate_left
           ·exact eG
           refine dy (i:=7) (N:=some 35) (v:=?_) (a':=?_) #[true,true,true,true,true,true,true,true,false] rfl rfl (jx bW.out ny.out (by kernel_rfl)) (fun _ _ _ h=>h) (Or.inl ⟨by rfl,?_⟩) hHeld ?_ ?_
           rotate_left
           ·rintro w' ⟨s0,s1,s2,s3⟩
            go_simp
            with_reducible rfl
           rotate_left
           ·exact eG
           refine fA (i:=8) (N:=some 36) #[true,true,true,true,true,true,true,true,true] rfl rfl (kB bW.out (by kernel_rfl)) (by decide) (fun K hK=>?_)
           refine nG Try.func65 (by kernel_rfl) rfl #[.agg #[.int .i64 ((aW l0 bu).f0),.int .i64 ((aW l0 bu).f1)],.agg #[.int .i64 ((aW l1 bu).f0),.int .i64 ((aW l1 bu).f1)]] (by rfl) rfl rfl (by (try simp only [List.map_toArray,List.map_cons,List.map_nil]);first|done|rfl|(simp only [List.length_drop,List.length_take];rfl)) ?_
           with_reducible refine (cm.calls ((aW l0 bu).f0) ((aW l0 bu).f1) ((aW l1 bu).f0) ((aW l1 bu).f1) false _ A47.out).mono ?_
           rintro e w58 ⟨rfl,hb⟩
           refine ⟨_,rfl,?_⟩
           have aA:=Aside0.mk (ai (g:=dF) (o:= .cells #[.int .i64 t193,.int .i64 t194] 26 (0,0)) (aI bI) hb)
           have aC:=Aside0.mk (ai (g:=fH) (o:= .cells #[.int .i64 t196,.int .i64 jq] 26 (0,0)) (aI cB) hb)
           have aD:=Aside0.mk (ah ax hb)
           clear bI
           clear cB
           clear HB
           have bI:=aA
           have cB:=aC
           have HB:=aD
           clear aA aC aD
           (try clear hb)
           (try clear hb2)
           (try clear hk)
           (try clear hi)
           refine hK.out _ _ ⟨((HB.out.cell (World.block_lt_of_cell? w _ kS)).trans kS),((HB.out.cell (World.block_lt_of_cell? w _ kR)).trans kR),((HB.out.cell (World.block_lt_of_cell? w _ kV)).trans kV),((HB.out.cell (World.block_lt_of_cell? w _ kU)).trans kU)⟩ (fun hHeld=>?_)
           clear hK K
           refine eF (a':=?_) ?_ ?_
           rotate_left
           ·show Act.put _ (some 36) _=_
            simp only [Act.put,List.setIfInBounds_toArray,List.set_cons_zero,List.set_cons_succ,cZ,dX]
            rfl
           refine fV (lA bW.out (by kernel_rfl)) ?_
           try go_wp2
           have aA:=Aside0.mk (aj bI.out)
           have aC:=Aside0.mk (aj cB.out)
           have aD:=Aside0.mk (bB HB.out)
           clear bI
           clear cB
           clear HB
           have bI:=aA
           have cB:=aC
           have HB:=aD
           clear aA aC aD
           have Ee:0<=(bu:Int):=of_decide_eq_true (by first|(with_reducible assumption)|assumption)
           have Ef:bu<(l1.length:Int):=of_decide_eq_true (by first|(with_reducible assumption)|assumption)
           obtain ⟨Tp,a0r,nt,nu⟩:=iN iJ.out bu Ee Ef
           have pY:=nu
           have pZ:=nt
           obtain rfl:lp=Tp:=(by injection a0r)
           replace nt:=(HB.out.cell (World.block_lt_of_cell? w _ nt)).trans nt
           replace nu:=(HB.out.cell (World.block_lt_of_cell? w _ nu)).trans nu
           replace Ee:=eq_true Ee
           replace Ef:=eq_true Ef
           have Eg:0<=(bu:Int):=of_decide_eq_true (by first|(with_reducible assumption)|assumption)
           have Eh:bu<(l0.length:Int):=of_decide_eq_true (by first|(with_reducible assumption)|assumption)
           obtain ⟨Tq,a0s,nv,nw⟩:=iN eE.out bu Eg Eh
           have qa:=nw
           have qb:=nv
           obtain rfl:lg=Tq:=(by injection a0s)
           replace nv:=(HB.out.cell (World.block_lt_of_cell? w _ nv)).trans nv
           replace nw:=(HB.out.cell (World.block_lt_of_cell? w _ nw)).trans nw
           replace Eg:=eq_true Eg
           replace Eh:=eq_true Eh
           refine eX (n:=9) (S:=fun w'=>w'.cell? (lp.add ((bu).toNat*2))=some (.int .i64 ((aW l1 bu).f0))/\w'.cell? ⟨(lp.add ((bu).toNat*2)).block,(lp.add ((bu).toNat*2)).off+1,none⟩=some (.int .i64 ((aW l1 bu).f1))/\w'.cell? (lg.add ((bu).toNat*2))=some (.int .i64 ((aW l0 bu).f0))/\w'.cell? ⟨(lg.add ((bu).toNat*2)).block,(lg.add ((bu).toNat*2)).off+1,none⟩=some (.int .i64 ((aW l0 bu).f1))) (ds:=[]) #[false,false,false,false,false,false,false,false,false] (by kernel_rfl) rfl rfl ⟨((HB.out.cell (World.block_lt_of_cell? w _ pZ)).trans pZ),((HB.out.cell (World.block_lt_of_cell? w _ pY)).trans pY),((HB.out.cell (World.block_lt_of_cell? w _ qb)).trans qb),((HB.out.cell (World.block_lt_of_cell? w _ qa)).trans qa)⟩ (fun hHeld=>?_);refine iY bk.a2A bk.Xl (fun bW ny=>?_)
           generalize w58.drew=w59 at bI cB HB nt nu nv nw hHeld⊢
           refine bT bW (i:=0) (N:=some 37) ?_
           refine bT bW (i:=1) (N:=some 38) ?_
           refine bT bW (i:=2) (N:=some 39) ?_
           refine bT bW (i:=4) (N:=some 41) ?_
           refine bT bW (i:=5) (N:=some 42) ?_
           refine bT bW (i:=6) (N:=some 43) ?_
           refine dy (i:=3) (N:=some 40) (v:=?_) (a':=?_) #[true,true,true,true,true,true,true,false,false] rfl rfl (jx bW.out ny.out (by kernel_rfl)) (fun _ _ _ h=>h) (Or.inl ⟨by rfl,?_⟩) hHeld ?_ ?_
           rotate_left
           ·rintro w' ⟨s0,s1,s2,s3⟩
            go_simp
            with_reducible rfl
           rotate_left
           ·exact eG
           refine dy (i:=7) (N:=some 44) (v:=?_) (a':=?_) #[true,true,true,true,true,true,true,true,false] rfl rfl (jx bW.out ny.out (by kernel_rfl)) (fun _ _ _ h=>h) (Or.inl ⟨by rfl,?_⟩) hHeld ?_ ?_
           rotate_left
           ·rintro w' ⟨s0,s1,s2,s3⟩
            go_simp
            with_reducible rfl
           rotate_left
           ·exact eG
           refine fA (i:=8) (N:=some 45) #[true,true,true,true,true,true,true,true,true] rfl rfl (kB bW.out (by kernel_rfl)) (by decide) (fun K hK=>?_)
           refine nG Try.func65 (by kernel_rfl) rfl #[.agg #[.int .i64 ((aW l1 bu).f0),.int .i64 ((aW l1 bu).f1)],.agg #[.int .i64 ((aW l0 bu).f0),.int .i64 ((aW l0 bu).f1)]] (by rfl) rfl rfl (by (try simp only [List.map_toArray,List.map_cons,List.map_nil]);first|done|rfl|(simp only [List.length_drop,List.length_take];rfl)) ?_
           with_reducible refine (cm.calls ((aW l1 bu).f0) ((aW l1 bu).f1) ((aW l0 bu).f0) ((aW l0 bu).f1) false _ A51.out).mono ?_
           rintro e w60 ⟨rfl,hb⟩
           refine ⟨_,rfl,?_⟩
           have aA:=Aside0.mk (ai (g:=dF) (o:= .cells #[.int .i64 t193,.int .i64 t194] 26 (0,0)) (aI bI) hb)
           have aC:=Aside0.mk (ai (g:=fH) (o:= .cells #[.int .i64 t196,.int .i64 jq] 26 (0,0)) (aI cB) hb)
           have aD:=Aside0.mk (ah ax hb)
           clear bI
           clear cB
           clear HB
           have bI:=aA
           have cB:=aC
           have HB:=aD
           clear aA aC aD
           (try clear hb)
           (try clear hb2)
           (try clear hk)
           (try clear hi)
           refine hK.out _ _ ⟨((HB.out.cell (World.block_lt_of_cell? w _ pZ)).trans pZ),((HB.out.cell (World.block_lt_of_cell? w _ pY)).trans pY),((HB.out.cell (World.block_lt_of_cell? w _ qb)).trans qb),((HB.out.cell (World.block_lt_of_cell? w _ qa)).trans qa)⟩ (fun hHeld=>?_)
           clear hK K
           refine eF (a':=?_) ?_ ?_
           rotate_left
           ·show Act.put _ (some 45) _=_
            simp only [Act.put,List.setIfInBounds_toArray,List.set_cons_zero,List.set_cons_succ,cZ,dX]
            rfl
           refine fV (lA bW.out (by kernel_rfl)) ?_
           try go_wp2
           go_roundg k1
           case measure=>have:=fR.out;omega
           case rel=>exact ⟨(wrap64 (bu+1)),(by first|rfl|(simp;done)|(simp [*];done)),H',⟨by have:=fR.out;omega⟩,⟨by (with_reducible repeat (first|refine aq ?_ _|refine aj ?_|refine ak ?_ _));exact bI.out⟩,⟨by (with_reducible repeat (first|refine aq ?_ _|refine aj ?_|refine ak ?_ _));exact cB.out⟩,⟨ax⟩⟩
        ·rw [if_neg Bh] at H
         exact absurd H (by simp)
       ·rw [if_neg Bg] at H
        exact absurd H (by simp)
      ·rw [if_neg yI] at H
       exact absurd H (by simp)
     ·rw [if_neg QI] at H
      have b1A:decide (bu<(l0.length:Int))=false:=decide_eq_false QI
      clear QI
      obtain rfl:=Option.some.inj H
      go_wp2
      go_ret
      exact ⟨by first|rfl|(simp [aQ,aR]<;>rfl)|(simp [*,aQ,aR]<;>rfl),ax⟩
end Go.Proofs.Ytnhknojfpjheoaa.P
namespace Go.Proofs.Ytnhknojfpjheoaa.PT
open Go.RowKit Go.Proofs.Ytnhknojfpjheoaa.P Go.Proofs.YtnhknojfpjheoaaW.PrintWords Go.Proofs.YtnhknojfpjheoaaW.PrintLast Go.Proofs.Ytnhknojfpjheoaa.EvKit Go.Proofs.Ytnhknojfpjheoaa.Num Go.Proofs.Ytnhknojfpjheoaa.Lp
set_option linter.all false
abbrev q2 (q:Rat):bM:=⟨q.num,(q.den:Int)⟩
def LQ (n:Nat) (x:Nat->Rat):List bM:=(List.range n).map (fun c=>q2 (x c))
theorem kK (n:Nat) (x:Nat->Rat):(LQ n x).length=n:=by simp [LQ]
theorem Cs {n i:Nat} (x:Nat->Rat) (h:i<n):aW (LQ n x) (i:Int)=q2 (x i):=by
 show (LQ n x).getD (i:Int).toNat _=_
 rw [Int.toNat_natCast,List.getD_eq_getElem?_getD]
 simp [LQ,h]
theorem a0t {n:Nat} {x y:Nat->Rat} (h:∀j,j<n->x j=y j):LQ n x=LQ n y:=
 List.map_congr_left (fun c hc=>by rw [h c (List.mem_range.1 hc)])
theorem Jn {n:Nat} {f g:Nat->Rat} (h:∀j,j<n->f j=g j):S n f=S n g:=Lp.dw h
def Cm (n:Nat) (x:Nat->Rat):Prop:=∃d:Int,d≠0/\d.natAbs<=1680/\∀c,c<n->∃a:Int,x c*(d:Rat)=(a:Rat)/\a.natAbs<=1680
def qW (x:Nat->Rat):List Int->Rat->Rat
 | [],s=>s
 |i::r,s=>qW x r (s+x i.toNat)
def iF (x:Nat->Rat) (d:cq):Bool:=if d.f1=true then !decide (((d.f2:Int):Rat)<qW x d.f0 0) else !decide (qW x d.f0 0<((d.f2:Int):Rat))
def lexB (x y:Nat->Rat):Nat->Nat->Bool
 |0,_=>false
 |d+1,i=>if x i<y i then true else if y i<x i then false else lexB x y d (i+1)
def gI (n:Nat) (x y:Nat->Rat) (most:Bool):Bool:=if S n x<S n y then !most else if S n y<S n x then most else lexB x y n 0
theorem b5s {b:Int} (h:b=0∨b=1):((b:Int):Rat).num=b/\((b:Int):Rat).den=1:=by
 rcases h with h|h<;>rw [h]<;>exact ⟨rfl,rfl⟩
theorem wW {d a:Int} {q:Rat} {b:Nat} (hd:d≠0) (hdb:d.natAbs<=1680) (e:q*(d:Rat)=(a:Rat)) (ha:a.natAbs<=b):Sz b 1680 q:=Qu.sz (Qu.FA hd ha hdb e)
theorem a0u {n:Nat} {x:Nat->Rat} {d:cq} (hd:jF (n:Int) d=true) (hn:n<=7) {D:Int} (hD:D≠0) (yJ:D.natAbs<=1680) (hx:∀c,c<n->∃a:Int,x c*(D:Rat)=(a:Rat)/\a.natAbs<=1680):
 ∀m i,i+m=d.f0.length->∀(s:Rat) (A:Int),s*(D:Rat)=(A:Rat)->A.natAbs<=i*1680->Ev (fun k=>cV.l0 k (LQ n x) d.f0 (d.f0.length:Int) (i:Int) d.f0 d.f1 d.f2 s.num (s.den:Int)) (if d.f1=true then !decide (((d.f2:Int):Rat)<qW x (d.f0.drop i) s) else !decide (qW x (d.f0.drop i) s<((d.f2:Int):Rat))):=by
 obtain ⟨hl,hat,hb⟩:=rS.1 hd
 intro m
 induction m with
 |zero=>
  intro i hi s A hs hA
  refine Ev.succ ?_
  simp only [cV.l0,if_neg (show ¬((i:Int)<(d.f0.length:Int)) by omega)]
  rw [List.drop_of_length_le (by omega)]
  simp only [qW]
  have hsz:Sz 1761607680 1680 s:=wW hD yJ hs (by omega)
  have hbq:=b5s hb
  have hbz:Sz 1 1 ((d.f2:Int):Rat):=⟨by rw [hbq.1];rcases hb with h|h<;>rw [h]<;>decide,by rw [hbq.2];decide⟩
  have e1:=uV hbz hsz (by decide)
  have e2:=uV hsz hbz (by decide)
  rw [hbq.1,hbq.2] at e1 e2
  by_cases hu:d.f1=true
  ·simp only [if_pos hu]
   exact Ev.congr (fun k=>by
    show (cm.f d.f2 1 s.num (s.den:Int)).bind _=some _
    rw [show (1:Int)=((1:Nat):Int) from rfl,e1];rfl) (Ev.now _)
  ·simp only [if_neg hu]
   exact Ev.congr (fun k=>by
    show (cm.f s.num (s.den:Int) d.f2 1).bind _=some _
    rw [show (1:Int)=((1:Nat):Int) from rfl,e2];rfl) (Ev.now _)
 |succ m ih=>
  intro i hi s A hs hA
  have hlt:i<d.f0.length:=by omega
  have hm:=hat _ (List.getElem_mem hlt)
  have hj:(d.f0[i]).toNat<n:=by omega
  obtain ⟨a,ha1,ha2⟩:=hx _ hj
  have hsz:Sz 1761607680 1680 s:=wW hD yJ hs (by omega)
  have hxz:Sz 1680 1680 (x (d.f0[i]).toNat):=wW hD yJ ha1 ha2
  refine Ev.succ ?_
  have hrd:aW (LQ n x) (d.f0[i])=q2 (x (d.f0[i]).toNat):=by
   have:=Cs x hj
   rwa [Int.toNat_of_nonneg hm.1] at this
  simp only [cV.l0,if_pos (show ((i:Int)<(d.f0.length:Int)) by omega),if_pos (show (0:Int)<=(i:Int) by omega),qy hlt,if_pos hm.1,kK,if_pos hm.2,hrd,eR (show i<=9223372036854775806 by omega)]
  rw [og hlt]
  simp only [qW]
  exact Ev.bind (Qi hsz hxz (by decide) (by decide)) (ih (i+1) (by omega) (s+x (d.f0[i]).toNat) (A+a) (by rw [Rat.intCast_add,<-hs,<-ha1];grind) (by omega))
theorem a0v {n:Nat} {x:Nat->Rat} {d:cq} (hd:jF (n:Int) d=true) (hn:n<=7) (hx:Cm n x):Ev (fun k=>cV.f k (LQ n x) d.f0 d.f1 d.f2) (iF x d):=by
 obtain ⟨D,hD,yJ,hx⟩:=hx
 have:=a0u hd hn hD yJ hx d.f0.length 0 (by omega) 0 0 (by grind) (by omega)
 rw [List.drop_zero] at this
 exact this
theorem a8x {n:Nat} {x:Nat->Rat} (hn:n<=7) {D:Int} (hD:D≠0) (yJ:D.natAbs<=1680) (hx:∀c,c<n->∃a:Int,x c*(D:Rat)=(a:Rat)/\a.natAbs<=1680):
 ∀m i,i+m=n->∀A:Int,S i x*(D:Rat)=(A:Rat)->A.natAbs<=i*1680->Ev (fun k=>bK.l0 k (LQ n x) (n:Int) (i:Int) (S i x).num ((S i x).den:Int)) ((S n x).num,((S n x).den:Int))/\Sz 11760 1680 (S n x):=by
 intro m
 induction m with
 |zero=>
  intro i hi A hs hA
  have e:i=n:=by omega
  subst e
  refine ⟨?_,wW hD yJ hs (by omega)⟩
  refine Ev.succ ?_
  simp only [bK.l0,if_neg (show ¬((i:Int)<(i:Int)) by omega)]
  exact Ev.now _
 |succ m ih=>
  intro i hi A hs hA
  have hlt:i<n:=by omega
  obtain ⟨a,ha1,ha2⟩:=hx _ hlt
  have hsz:Sz 11760 1680 (S i x):=wW hD yJ hs (by omega)
  have hxz:Sz 1680 1680 (x i):=wW hD yJ ha1 ha2
  have hnext:=ih (i+1) (by omega) (A+a) (by show (S i x+x i)*_=_;rw [Rat.intCast_add,<-hs,<-ha1];grind) (by omega)
  refine ⟨?_,hnext.2⟩
  refine Ev.succ ?_
  simp only [bK.l0,if_pos (show ((i:Int)<(n:Int)) by omega),if_pos (show (0:Int)<=(i:Int) by omega),kK,Cs x hlt,eR (show i<=9223372036854775806 by omega)]
  exact Ev.bind (Qi hsz hxz (by decide) (by decide)) hnext.1
theorem NU {n:Nat} {x:Nat->Rat} (hn:n<=7) (hx:Cm n x):Ev (fun k=>bK.f k (LQ n x)) ((S n x).num,((S n x).den:Int))/\Sz 11760 1680 (S n x):=by
 obtain ⟨D,hD,yJ,hx⟩:=hx
 have:=a8x hn hD yJ hx n 0 (by omega) 0 (by show (0:Rat)*_=_;grind) (by omega)
 refine ⟨?_,this.2⟩
 unfold bK.f
 rw [kK]
 exact this.1
theorem a8y {n:Nat} {x y:Nat->Rat} (hn:n<=7) (hx:Cm n x) (hy:Cm n y):∀m i,i+m=n->Ev (fun k=>bk.l0 k (LQ n x) (LQ n y) (n:Int) (i:Int)) (lexB x y m i):=by
 obtain ⟨D,hD,yJ,hx⟩:=hx
 obtain ⟨E,hE,hEb,hy⟩:=hy
 intro m
 induction m with
 |zero=>
  intro i hi
  refine Ev.succ ?_
  simp only [bk.l0,if_neg (show ¬((i:Int)<(n:Int)) by omega),lexB]
  exact Ev.now _
 |succ m ih=>
  intro i hi
  have hlt:i<n:=by omega
  obtain ⟨a,ha1,ha2⟩:=hx _ hlt
  obtain ⟨b,hb1,hb2⟩:=hy _ hlt
  have hxz:Sz 1680 1680 (x i):=wW hD yJ ha1 ha2
  have hyz:Sz 1680 1680 (y i):=wW hE hEb hb1 hb2
  refine Ev.succ ?_
  simp only [bk.l0,if_pos (show ((i:Int)<(n:Int)) by omega),if_pos (show (0:Int)<=(i:Int) by omega),kK,Cs x hlt,Cs y hlt,eR (show i<=9223372036854775806 by omega),uV hxz hyz (by decide),uV hyz hxz (by decide),lexB]
  refine Ev.val rfl ?_
  by_cases h1:x i<y i
  ·simp only [decide_eq_true h1,if_pos h1,if_true];exact Ev.now _
  ·simp only [decide_eq_false h1,if_neg h1,Bool.false_eq_true,if_false]
   refine Ev.val rfl ?_
   by_cases h2:y i<x i
   ·simp only [decide_eq_true h2,if_pos h2,if_true];exact Ev.now _
   ·simp only [decide_eq_false h2,if_neg h2,Bool.false_eq_true,if_false]
    exact ih (i+1) (by omega)
theorem Xm {n:Nat} {x y:Nat->Rat} (hn:n<=7) (hx:Cm n x) (hy:Cm n y) (most:Bool):Ev (fun k=>bk.f k (LQ n x) (LQ n y) most) (gI n x y most):=by
 obtain ⟨e1,z1⟩:=NU hn hx
 obtain ⟨e2,z2⟩:=NU hn hy
 unfold bk.f gI
 refine Ev.bind e1 (Ev.bind e2 ?_)
 simp only [uV z1 z2 (by decide),uV z2 z1 (by decide),kK]
 refine Ev.val rfl ?_
 by_cases h1:S n x<S n y
 ·simp only [decide_eq_true h1,if_pos h1,if_true];exact Ev.now _
 ·simp only [decide_eq_false h1,if_neg h1,Bool.false_eq_true,if_false]
  refine Ev.val rfl ?_
  by_cases h2:S n y<S n x
  ·simp only [decide_eq_true h2,if_pos h2,if_true];exact Ev.now _
  ·simp only [decide_eq_false h2,if_neg h2,Bool.false_eq_true,if_false]
   exact a8y hn hx hy n 0 (by omega)
abbrev ox (R:Nat->Nat->Rat) (n:Nat):Nat->Rat:=fun c=>R c n/R c c
def jW (n:Nat) (all:List cq) (most:Bool) (ch:List cq) (best:Option (Nat->Rat)):Option (Nat->Rat):=
 match fJ n (gK ch n) n with
 |none=>best
 |some R=>if all.all (iF (ox R n))=true then (match best with|none=>some (ox R n)|some b=>if gI n (ox R n) b most=true then some (ox R n) else some b) else best
def fu (n:Nat) (all:List cq) (most:Bool):Nat->List cq->Option (Nat->Rat)->Option (Nat->Rat)
 |0,ch,best=>if ch.length=n then jW n all most ch best else best
 |d+1,ch,best=>if ch.length=n then jW n all most ch best else if d+1<n - ch.length then best else fu n all most d ch (fu n all most d (ch++[all.getD (all.length -(d+1)) z49]) best)
def QJ (n:Nat) (o:Option (Nat->Rat)):Prop:=∀x,o=some x->Cm n x
def qc (n:Nat) (o:Option (Nat->Rat)):List bM:=match o with|none=>[]|some x=>LQ n x
theorem Xn {n:Nat} {ch:List cq} (hch:ch.all (jF (n:Int))=true) (hl:ch.length=n) (hn:n<=7) {R:Nat->Nat->Rat} (h:fJ n (gK ch n) n=some R):Cm n (ox R n):=by
 have hM:∀i j,i<n->j<=n->gK ch n i j=0∨gK ch n i j=1:=by
  intro i j hi hj
  have:=NQ hch i j (by omega) (by omega)
  rwa [hl] at this
 exact (Xi hM hn R h).2
theorem QK {n:Nat} {all ch:List cq} {most:Bool} {best:Option (Nat->Rat)} (hch:ch.all (jF (n:Int))=true) (hl:ch.length=n) (hn:n<=7) (hb:QJ n best):QJ n (jW n all most ch best):=by
 intro x hx
 unfold jW at hx
 cases h:fJ n (gK ch n) n with
 |none=>rw [h] at hx;exact hb x hx
 |some R=>
  rw [h] at hx
  have hs:=Xn hch hl hn h
  simp only at hx
  split at hx
  ·cases best with
   |none=>simp only [Option.some.injEq] at hx;rw [<-hx];exact hs
   |some b=>
    simp only at hx
    split at hx
    ·simp only [Option.some.injEq] at hx;rw [<-hx];exact hs
    ·exact hb x hx
  ·exact hb x hx
theorem Ct {n:Nat} {all:List cq} {most:Bool} (hall:all.all (jF (n:Int))=true) (hn:n<=7):∀d ch best,d<=all.length->ch.all (jF (n:Int))=true->QJ n best->QJ n (fu n all most d ch best)
 |0,ch,best,_,hch,hb=>by
  simp only [fu]
  split
  ·next h=>exact QK hch h hn hb
  ·exact hb
 |d+1,ch,best,hd,hch,hb=>by
  simp only [fu]
  split
  ·next h=>exact QK hch h hn hb
  ·split
   ·exact hb
   ·refine Ct hall hn d ch _ (by omega) hch (Ct hall hn d _ best (by omega) ?_ hb)
    rw [List.all_append,hch]
    have hlt:all.length -(d+1)<all.length:=by omega
    have:all.getD (all.length -(d+1)) z49=all[all.length -(d+1)]:=by simp [List.getD_eq_getElem?_getD,hlt]
    rw [this]
    simp only [List.all_cons,List.all_nil,Bool.and_true,Bool.true_and]
    exact List.all_eq_true.1 hall _ (List.getElem_mem hlt)
end Go.Proofs.Ytnhknojfpjheoaa.PT
