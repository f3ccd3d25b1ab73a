/-
  Part 3 of the proof of this: The law FnExactPlanOK answers true at every argument.
-/
import Derived.Test.YtkckdphjhlbdcaaKPlanOK2
namespace Go.Proofs.Ytkckdphjhlbdcaa.P
open Go.RowKit Go.Proofs.YtkckdphjhlbdcaaW.PrintWords Go.Proofs.YtkckdphjhlbdcaaW.PrintLast Go.Proofs.YtkckdphjhlbdcaaW.PrintMore
attribute [local go_sem] max2_int min2_int max_two min_two max_three min_three max_four min_four
set_option linter.all false
def bJ.f (k:Nat) (a0:Int) (a1:Int):Option (Int×Int):=(dL.f k a0 a1).bind fun cY=>(if a1<0 then (if (wrap64 (-cY))=0 then (none) else ((cj.f k (wrap64 (Int.tdiv a0 (wrap64 (-cY)))) (wrap64 (Int.tdiv a1 (wrap64 (-cY))))).bind fun Cx=>(if Cx=true then (some (wrap64 (Int.tdiv a0 (wrap64 (-cY))),wrap64 (Int.tdiv a1 (wrap64 (-cY))))) else (some (0,0))))) else (if cY=0 then (none) else ((cj.f k (wrap64 (Int.tdiv a0 cY)) (wrap64 (Int.tdiv a1 cY))).bind fun Cy=>(if Cy=true then (some (wrap64 (Int.tdiv a0 cY),wrap64 (Int.tdiv a1 cY))) else (some (0,0))))))
theorem bJ.mono:∀a0 a1 k,aR (bJ.f k a0 a1) (bJ.f (k+1) a0 a1):=by
 intro a0 a1 k
 unfold bJ.f
 repeat' first
  |(with_reducible exact cj.mono _ _ _)
  |(with_reducible exact dL.mono _ _ _)
  |(with_reducible exact aR.refl _)
  |(with_reducible exact aR.none _)
  |(with_reducible refine aR.ite ?_ ?_)
  |(with_reducible refine aR.bind ?_ (fun _=>?_))
def bJ.T4:Bool×List (List Nat×List Nat):=(true,[([],[]),([],[]),([0,1],[0,1]),([],[]),([],[]),([3,4],[3,4]),([2,5],[2,5]),([],[]),([7,6,0,1,2,3,4,5,6,7],[6,7])])
def bJ.B4:List Nat:=[0,0,3,0,0,24,63,0,255]
theorem bJ.FW:lz .any (opsOf Try.f87 4)=bJ.T4:=by kernel_rfl
theorem bJ.Bb:rj bJ.T4.2 bJ.B4=true:=by kernel_rfl
set_option maxHeartbeats 8000000 in
set_option maxRecDepth 100000 in
theorem bJ.calls (k:Nat) (a0:Int) (a1:Int) (r1:Int) (r2:Int) (w:World) (h:bJ.f k a0 a1=some (r1,r2)):
 Calls Try.prog 87 #[.int .i64 a0,.int .i64 a1] w fun e w'=>e= .returned (.agg #[.int .i64 r1,.int .i64 r2])/\Below w.heap.size w w':=by
 have lB:=Try.underlying34
 have HB:=Aside0.mk (Below.refl w.heap.size w)
 have H:((dL.f k a0 a1).bind fun cY=>(if a1<0 then (if (wrap64 (-cY))=0 then (none) else ((cj.f k (wrap64 (Int.tdiv a0 (wrap64 (-cY)))) (wrap64 (Int.tdiv a1 (wrap64 (-cY))))).bind fun Cx=>(if Cx=true then (some (wrap64 (Int.tdiv a0 (wrap64 (-cY))),wrap64 (Int.tdiv a1 (wrap64 (-cY))))) else (some (0,0))))) else (if cY=0 then (none) else ((cj.f k (wrap64 (Int.tdiv a0 cY)) (wrap64 (Int.tdiv a1 cY))).bind fun Cy=>(if Cy=true then (some (wrap64 (Int.tdiv a0 cY),wrap64 (Int.tdiv a1 cY))) else (some (0,0)))))))=some (r1,r2):=h
 clear h
 replace H:=Option.bind_eq_some_iff.mp H
 obtain ⟨cY,jx,H⟩:=H
 replace H:(if a1<0 then (if (wrap64 (-cY))=0 then (none) else ((cj.f k (wrap64 (Int.tdiv a0 (wrap64 (-cY)))) (wrap64 (Int.tdiv a1 (wrap64 (-cY))))).bind fun Cx=>(if Cx=true then (some (wrap64 (Int.tdiv a0 (wrap64 (-cY))),wrap64 (Int.tdiv a1 (wrap64 (-cY))))) else (some (0,0))))) else (if cY=0 then (none) else ((cj.f k (wrap64 (Int.tdiv a0 cY)) (wrap64 (Int.tdiv a1 cY))).bind fun Cy=>(if Cy=true then (some (wrap64 (Int.tdiv a0 cY),wrap64 (Int.tdiv a1 cY))) else (some (0,0))))))=some (r1,r2):=H
 have A3:=Aside0.mk jx
 clear jx
 by_cases c4:a1<0
 ·rw [if_pos c4] at H
  have mj:decide (a1<0)=true:=decide_eq_true c4
  clear c4
  by_cases c5:(wrap64 (-cY))=0
  ·rw [if_pos c5] at H
   exact absurd H (by simp)
  ·rw [if_neg c5] at H
   have wF:((wrap64 (-cY))==0)=false:=beq_eq_false_iff_ne.mpr c5
   have c5b1:((wrap64 (-cY)) !=0)=true:=bne_iff_ne.mpr c5
   replace H:=Option.bind_eq_some_iff.mp H
   obtain ⟨Cx,sW,H⟩:=H
   replace H:(if Cx=true then (some (wrap64 (Int.tdiv a0 (wrap64 (-cY))),wrap64 (Int.tdiv a1 (wrap64 (-cY))))) else (some (0,0)))=some (r1,r2):=H
   have A6:=Aside0.mk sW
   clear sW
   by_cases c7:Cx=true
   ·subst c7
    have H1:(some (wrap64 (Int.tdiv a0 (wrap64 (-cY))),wrap64 (Int.tdiv a1 (wrap64 (-cY)))))=some (r1,r2):=by rw [if_pos rfl] at H;exact H
    clear H
    have H:=H1
    clear H1
    simp only [Option.some.injEq,Prod.mk.injEq] at H
    obtain ⟨rfl,rfl⟩:=H
    go_enter Try.func87,Try.ntmps87
    try go_wp2_with (first|((with_reducible refine bn (N:=4) rfl ?_);refine bq ?hg (N:=4) ?hd (cs:= #[.int .i64 0,.int .i64 0]) (t:=34) ?hr ?_;(case hd=>rfl);(case hg=>rfl);(case hr=>first|(go_simp;done)|(go_simp;rfl));intro eo hg w8 aU hb;have aA:=Aside0.mk (ah ay hb);have aC:=Aside0.mk (aU);have aD:=Aside0.mk ((by rw [hg];exact (ax ay):w.heap.size<=eo));have aK:=Aside0.mk ((by rw [hg];exact (ax ay):w.heap.size<=eo));clear HB;have HB:=aA;have cI:=aC;have VX:=aD;have VY:=aK;clear aA aC aD aK;clear hb aU hg)|((with_reducible refine aV (f:=88) rfl ?_);refine bH (some 9) rfl rfl Try.func88 (by kernel_rfl) rfl #[.int .i64 a0,.int .i64 a1] rfl (by (try simp only [List.map_toArray,List.map_cons,List.map_nil]);first|done|rfl|(simp only [List.length_drop,List.length_take];rfl)) ?_;(with_reducible refine (dL.calls k a0 a1 cY _ A3.out).mono ?_);rintro e w9 ⟨rfl,hb⟩;refine ⟨_,rfl,?_⟩;have aA:=Aside0.mk (aj (g:=eo) (o:= .cells #[.int .i64 0,.int .i64 0] 34 (0,0)) (aH cI) hb);have aC:=Aside0.mk (ah ay hb);clear cI;clear HB;have cI:=aA;have HB:=aC;clear aA aC;(try clear hb);(try clear hb2);(try clear hk);(try clear hi)))
    have aA:=Aside0.mk (ak cI.out)
    have aC:=Aside0.mk (aI HB.out)
    clear cI
    clear HB
    have cI:=aA
    have HB:=aC
    clear aA aC
    refine fL (n:=9) (S:=fun w'=>True) (ds:=[]) #[false,false,false,false,false,false,false,false,false] (by kernel_rfl) rfl rfl trivial (fun hHeld=>?_);refine jK bJ.FW bJ.Bb (fun cG oV=>?_)
    generalize w9.drew=mU at cI HB hHeld⊢
    refine cB cG (i:=0) (N:=some 14) ?_
    refine cB cG (i:=1) (N:=some 15) ?_
    refine cB cG (i:=2) (N:=some 16) ?_
    refine cB cG (i:=3) (N:=some 17) ?_
    refine cB cG (i:=4) (N:=some 18) ?_
    refine cB cG (i:=5) (N:=some 19) ?_
    refine cB cG (i:=6) (N:=some 20) ?_
    refine gj (i:=7) (N:=some 6) #[true,true,true,true,true,true,true,true,false] rfl rfl (lA cG.out (by kernel_rfl)) (by decide) (fun K hK=>?_)
    refine AR ?hg (N:=6) ?hd (cs:= #[.int .i64 0,.int .i64 0]) (t:=34) ?hr ?_;(case hd=>rfl);(case hg=>rfl);(case hr=>first|(go_simp;done)|(go_simp;rfl))
    intro kY hg kV aU hb
    have aA:=Aside0.mk (aj (g:=eo) (o:= .cells #[.int .i64 0,.int .i64 0] 34 (0,0)) (aH cI) hb)
    have aC:=Aside0.mk (ah ay hb)
    have aD:=Aside0.mk (aU)
    have aK:=Aside0.mk ((by rw [hg];exact (ax ay):w.heap.size<=kY))
    have bF:=Aside0.mk ((by rw [hg];exact (ax ay):w.heap.size<=kY))
    have bS:=Aside0.mk ((by rw [hg];exact Nat.ne_of_lt (bf (g:=eo) (o:= .cells #[.int .i64 0,.int .i64 0] 34 (0,0)) (aH cI)):eo≠kY))
    have bY:=Aside0.mk ((by rw [hg];exact Nat.ne_of_gt (bf (g:=eo) (o:= .cells #[.int .i64 0,.int .i64 0] 34 (0,0)) (aH cI)):kY≠eo))
    clear cI
    clear HB
    have cI:=aA
    have HB:=aC
    have jk:=aD
    have b2C:=aK
    have b2D:=bF
    have lD:=bS
    have qE:=bY
    clear aA aC aD aK bF bS bY
    clear hb aU hg
    refine hK.out _ _ trivial (fun hHeld=>?_)
    clear hK K
    refine fq (a':=?_) ?_ ?_
    rotate_left
    ·show Act.put _ (some 6) _=_
     simp only [Act.put,List.setIfInBounds_toArray,List.set_cons_zero,List.set_cons_succ,dJ,eD]
     rfl
    refine gj (i:=8) (N:=none) #[true,true,true,true,true,true,true,true,true] rfl rfl (lA cG.out (by kernel_rfl)) (by decide) (fun K hK=>?_)
    have hs12:kV.cell? ⟨kY,0,none⟩=some (.int .i64 0):=(ag jk.out 0).trans rfl
    have hfs12:=af jk.out 0
    have hns12_0:=lD.out
    have hms12_0:=qE.out
    have hs13:kV.cell? ⟨kY,1,none⟩=some (.int .i64 0):=(ag jk.out 1).trans rfl
    have hfs13:=af jk.out 1
    have hns13_0:=lD.out
    have hms13_0:=qE.out
    refine lO (w1:=?_) (by rfl) rfl ?_ ?_
    rotate_left
    ·go_simp
     rfl
    refine hK.out _ _ trivial (fun hHeld=>?_)
    clear hK K
    refine gU (mO cG.out (by kernel_rfl)) ?_
    have b2E:=qE.out
    have b2F:=lD.out
    have KL:kV.cell? ⟨kY,0,none⟩=some (.int .i64 0):=(ag jk.out 0).trans rfl
    have KM:kV.cell? ⟨kY,1,none⟩=some (.int .i64 0):=(ag jk.out 1).trans rfl
    have KN:=af jk.out 0
    have KO:=af jk.out 1
    try go_wp2_with (first|((with_reducible refine aV (f:=80) rfl ?_);refine bH (some 22) rfl rfl Try.func80 (by kernel_rfl) rfl #[.agg #[.int .i64 (wrap64 (Int.tdiv a0 (wrap64 (-cY)))),.int .i64 (wrap64 (Int.tdiv a1 (wrap64 (-cY))))]] rfl (by (try simp only [List.map_toArray,List.map_cons,List.map_nil]);first|done|rfl|(simp only [List.length_drop,List.length_take];rfl)) ?_;(with_reducible refine (cj.calls k (wrap64 (Int.tdiv a0 (wrap64 (-cY)))) (wrap64 (Int.tdiv a1 (wrap64 (-cY)))) true _ A6.out).mono ?_);rintro e xL ⟨rfl,hb⟩;refine ⟨_,rfl,?_⟩;have aA:=Aside0.mk (aj (g:=eo) (o:= .cells #[.int .i64 0,.int .i64 0] 34 (0,0)) (by (with_reducible repeat (first|refine aq ?_ _|refine ak ?_|refine ai ?_ _));refine bM ?_ lD.out _;(with_reducible repeat (first|refine aq ?_ _|refine ak ?_|refine ai ?_ _));refine bM ?_ lD.out _;(with_reducible repeat (first|refine aq ?_ _|refine ak ?_|refine ai ?_ _));exact cI.out) hb);have aC:=Aside0.mk (aj (g:=kY) (o:= .cells #[.int .i64 (wrap64 (Int.tdiv a0 (wrap64 (-cY)))),.int .i64 (wrap64 (Int.tdiv a1 (wrap64 (-cY))))] 34 (0,0)) (by (with_reducible repeat (first|refine aq ?_ _|refine ak ?_|refine ai ?_ _));refine bh (cs:= #[.int .i64 (wrap64 (Int.tdiv a0 (wrap64 (-cY)))),.int .i64 0]) ?_ 1 _ rfl;(with_reducible repeat (first|refine aq ?_ _|refine ak ?_|refine ai ?_ _));refine bh (cs:= #[.int .i64 0,.int .i64 0]) ?_ 0 _ rfl;(with_reducible repeat (first|refine aq ?_ _|refine ak ?_|refine ai ?_ _));exact jk.out) hb);have aD:=Aside0.mk (ah ay hb);clear cI;clear jk;clear HB;have cI:=aA;have jk:=aC;have HB:=aD;clear aA aC aD;(try clear hb);(try clear hb2);(try clear hk);(try clear hi);have KP:xL.cell? ⟨kY,0,none⟩=some (.int .i64 (wrap64 (Int.tdiv a0 (wrap64 (-cY))))):=(ag jk.out 0).trans rfl;have KQ:xL.cell? ⟨kY,1,none⟩=some (.int .i64 (wrap64 (Int.tdiv a1 (wrap64 (-cY))))):=(ag jk.out 1).trans rfl;have KR:=af jk.out 0;have KS:=af jk.out 1;have DW:xL.cell? ⟨eo,0,none⟩=some (.int .i64 0):=(ag cI.out 0).trans rfl;have DX:xL.cell? ⟨eo,1,none⟩=some (.int .i64 0):=(ag cI.out 1).trans rfl;have DY:=af cI.out 0;have DZ:=af cI.out 1))
    refine bodyPost_ret (results_cell_row rfl _ _ eo 34 #[.int .i64 (wrap64 (Int.tdiv a0 (wrap64 (-cY)))),.int .i64 (wrap64 (Int.tdiv a1 (wrap64 (-cY))))] (0,0) _ rfl (by (with_reducible repeat (first|refine aq ?_ _|refine ak ?_|refine ai ?_ _));refine bh (cs:= #[.int .i64 (wrap64 (Int.tdiv a0 (wrap64 (-cY)))),.int .i64 0]) ?_ 1 _ rfl;(with_reducible repeat (first|refine aq ?_ _|refine ak ?_|refine ai ?_ _));refine bh (cs:= #[.int .i64 0,.int .i64 0]) ?_ 0 _ rfl;(with_reducible repeat (first|refine aq ?_ _|refine ak ?_|refine ai ?_ _));exact cI.out) Try.underlying34 rfl (by kernel_rfl)) rfl ?_
    exact ⟨by first|rfl|(simp [aX,aY]<;>rfl)|(simp [*,aX,aY]<;>rfl),ay⟩
   ·replace c7:=Bool.eq_false_iff.mpr c7
    subst c7
    have H1:(some (0,0))=some (r1,r2):=by rw [if_neg (show ¬(false=true) by decide)] at H;exact H
    clear H
    have H:=H1
    clear H1
    simp only [Option.some.injEq,Prod.mk.injEq] at H
    obtain ⟨rfl,rfl⟩:=H
    go_enter Try.func87,Try.ntmps87
    try go_wp2_with (first|((with_reducible refine bn (N:=4) rfl ?_);refine bq ?hg (N:=4) ?hd (cs:= #[.int .i64 0,.int .i64 0]) (t:=34) ?hr ?_;(case hd=>rfl);(case hg=>rfl);(case hr=>first|(go_simp;done)|(go_simp;rfl));intro eo hg BH aU hb;have aA:=Aside0.mk (ah ay hb);have aC:=Aside0.mk (aU);have aD:=Aside0.mk ((by rw [hg];exact (ax ay):w.heap.size<=eo));have aK:=Aside0.mk ((by rw [hg];exact (ax ay):w.heap.size<=eo));clear HB;have HB:=aA;have cI:=aC;have VX:=aD;have VY:=aK;clear aA aC aD aK;clear hb aU hg)|((with_reducible refine aV (f:=88) rfl ?_);refine bH (some 9) rfl rfl Try.func88 (by kernel_rfl) rfl #[.int .i64 a0,.int .i64 a1] rfl (by (try simp only [List.map_toArray,List.map_cons,List.map_nil]);first|done|rfl|(simp only [List.length_drop,List.length_take];rfl)) ?_;(with_reducible refine (dL.calls k a0 a1 cY _ A3.out).mono ?_);rintro e BI ⟨rfl,hb⟩;refine ⟨_,rfl,?_⟩;have aA:=Aside0.mk (aj (g:=eo) (o:= .cells #[.int .i64 0,.int .i64 0] 34 (0,0)) (aH cI) hb);have aC:=Aside0.mk (ah ay hb);clear cI;clear HB;have cI:=aA;have HB:=aC;clear aA aC;(try clear hb);(try clear hb2);(try clear hk);(try clear hi)))
    have aA:=Aside0.mk (ak cI.out)
    have aC:=Aside0.mk (aI HB.out)
    clear cI
    clear HB
    have cI:=aA
    have HB:=aC
    clear aA aC
    refine fL (n:=9) (S:=fun w'=>True) (ds:=[]) #[false,false,false,false,false,false,false,false,false] (by kernel_rfl) rfl rfl trivial (fun hHeld=>?_);refine jK bJ.FW bJ.Bb (fun cG oV=>?_)
    generalize BI.drew=Yc at cI HB hHeld⊢
    refine cB cG (i:=0) (N:=some 14) ?_
    refine cB cG (i:=1) (N:=some 15) ?_
    refine cB cG (i:=2) (N:=some 16) ?_
    refine cB cG (i:=3) (N:=some 17) ?_
    refine cB cG (i:=4) (N:=some 18) ?_
    refine cB cG (i:=5) (N:=some 19) ?_
    refine cB cG (i:=6) (N:=some 20) ?_
    refine gj (i:=7) (N:=some 6) #[true,true,true,true,true,true,true,true,false] rfl rfl (lA cG.out (by kernel_rfl)) (by decide) (fun K hK=>?_)
    refine AR ?hg (N:=6) ?hd (cs:= #[.int .i64 0,.int .i64 0]) (t:=34) ?hr ?_;(case hd=>rfl);(case hg=>rfl);(case hr=>first|(go_simp;done)|(go_simp;rfl))
    intro kY hg nh aU hb
    have aA:=Aside0.mk (aj (g:=eo) (o:= .cells #[.int .i64 0,.int .i64 0] 34 (0,0)) (aH cI) hb)
    have aC:=Aside0.mk (ah ay hb)
    have aD:=Aside0.mk (aU)
    have aK:=Aside0.mk ((by rw [hg];exact (ax ay):w.heap.size<=kY))
    have bF:=Aside0.mk ((by rw [hg];exact (ax ay):w.heap.size<=kY))
    have bS:=Aside0.mk ((by rw [hg];exact Nat.ne_of_lt (bf (g:=eo) (o:= .cells #[.int .i64 0,.int .i64 0] 34 (0,0)) (aH cI)):eo≠kY))
    have bY:=Aside0.mk ((by rw [hg];exact Nat.ne_of_gt (bf (g:=eo) (o:= .cells #[.int .i64 0,.int .i64 0] 34 (0,0)) (aH cI)):kY≠eo))
    clear cI
    clear HB
    have cI:=aA
    have HB:=aC
    have jk:=aD
    have b2C:=aK
    have b2D:=bF
    have lD:=bS
    have qE:=bY
    clear aA aC aD aK bF bS bY
    clear hb aU hg
    refine hK.out _ _ trivial (fun hHeld=>?_)
    clear hK K
    refine fq (a':=?_) ?_ ?_
    rotate_left
    ·show Act.put _ (some 6) _=_
     simp only [Act.put,List.setIfInBounds_toArray,List.set_cons_zero,List.set_cons_succ,dJ,eD]
     rfl
    refine gj (i:=8) (N:=none) #[true,true,true,true,true,true,true,true,true] rfl rfl (lA cG.out (by kernel_rfl)) (by decide) (fun K hK=>?_)
    have hs23:nh.cell? ⟨kY,0,none⟩=some (.int .i64 0):=(ag jk.out 0).trans rfl
    have hfs23:=af jk.out 0
    have hns23_0:=lD.out
    have hms23_0:=qE.out
    have hs24:nh.cell? ⟨kY,1,none⟩=some (.int .i64 0):=(ag jk.out 1).trans rfl
    have hfs24:=af jk.out 1
    have hns24_0:=lD.out
    have hms24_0:=qE.out
    refine lO (w1:=?_) (by rfl) rfl ?_ ?_
    rotate_left
    ·go_simp
     rfl
    refine hK.out _ _ trivial (fun hHeld=>?_)
    clear hK K
    refine gU (mO cG.out (by kernel_rfl)) ?_
    have b2G:=qE.out
    have b2H:=lD.out
    have Ea:nh.cell? ⟨kY,0,none⟩=some (.int .i64 0):=(ag jk.out 0).trans rfl
    have Eb:nh.cell? ⟨kY,1,none⟩=some (.int .i64 0):=(ag jk.out 1).trans rfl
    have Ec:=af jk.out 0
    have Ed:=af jk.out 1
    try go_wp2_with (first|((with_reducible refine aV (f:=80) rfl ?_);refine bH (some 22) rfl rfl Try.func80 (by kernel_rfl) rfl #[.agg #[.int .i64 (wrap64 (Int.tdiv a0 (wrap64 (-cY)))),.int .i64 (wrap64 (Int.tdiv a1 (wrap64 (-cY))))]] rfl (by (try simp only [List.map_toArray,List.map_cons,List.map_nil]);first|done|rfl|(simp only [List.length_drop,List.length_take];rfl)) ?_;(with_reducible refine (cj.calls k (wrap64 (Int.tdiv a0 (wrap64 (-cY)))) (wrap64 (Int.tdiv a1 (wrap64 (-cY)))) false _ A6.out).mono ?_);rintro e PZ ⟨rfl,hb⟩;refine ⟨_,rfl,?_⟩;have aA:=Aside0.mk (aj (g:=eo) (o:= .cells #[.int .i64 0,.int .i64 0] 34 (0,0)) (by (with_reducible repeat (first|refine aq ?_ _|refine ak ?_|refine ai ?_ _));refine bM ?_ lD.out _;(with_reducible repeat (first|refine aq ?_ _|refine ak ?_|refine ai ?_ _));refine bM ?_ lD.out _;(with_reducible repeat (first|refine aq ?_ _|refine ak ?_|refine ai ?_ _));exact cI.out) hb);have aC:=Aside0.mk (aj (g:=kY) (o:= .cells #[.int .i64 (wrap64 (Int.tdiv a0 (wrap64 (-cY)))),.int .i64 (wrap64 (Int.tdiv a1 (wrap64 (-cY))))] 34 (0,0)) (by (with_reducible repeat (first|refine aq ?_ _|refine ak ?_|refine ai ?_ _));refine bh (cs:= #[.int .i64 (wrap64 (Int.tdiv a0 (wrap64 (-cY)))),.int .i64 0]) ?_ 1 _ rfl;(with_reducible repeat (first|refine aq ?_ _|refine ak ?_|refine ai ?_ _));refine bh (cs:= #[.int .i64 0,.int .i64 0]) ?_ 0 _ rfl;(with_reducible repeat (first|refine aq ?_ _|refine ak ?_|refine ai ?_ _));exact jk.out) hb);have aD:=Aside0.mk (ah ay hb);clear cI;clear jk;clear HB;have cI:=aA;have jk:=aC;have HB:=aD;clear aA aC aD;(try clear hb);(try clear hb2);(try clear hk);(try clear hi);have zF:PZ.cell? ⟨eo,0,none⟩=some (.int .i64 0):=(ag cI.out 0).trans rfl;have zG:PZ.cell? ⟨eo,1,none⟩=some (.int .i64 0):=(ag cI.out 1).trans rfl;have zH:=af cI.out 0;have zI:=af cI.out 1))
    refine bodyPost_ret (results_cell_row rfl _ _ eo 34 #[.int .i64 0,.int .i64 0] (0,0) _ rfl (by (with_reducible repeat (first|refine aq ?_ _|refine ak ?_|refine ai ?_ _));refine bh (cs:= #[.int .i64 0,.int .i64 0]) ?_ 1 _ rfl;(with_reducible repeat (first|refine aq ?_ _|refine ak ?_|refine ai ?_ _));refine bh (cs:= #[.int .i64 0,.int .i64 0]) ?_ 0 _ rfl;(with_reducible repeat (first|refine aq ?_ _|refine ak ?_|refine ai ?_ _));exact cI.out) Try.underlying34 rfl (by kernel_rfl)) rfl ?_
    exact ⟨by first|rfl|(simp [aX,aY]<;>rfl)|(simp [*,aX,aY]<;>rfl),ay⟩
 ·rw [if_neg c4] at H
  have mj:decide (a1<0)=false:=decide_eq_false c4
  clear c4
  by_cases c29:cY=0
  ·rw [if_pos c29] at H
   exact absurd H (by simp)
  ·rw [if_neg c29] at H
   have c29b0:(cY==0)=false:=beq_eq_false_iff_ne.mpr c29
   have c29b1:(cY !=0)=true:=bne_iff_ne.mpr c29
   replace H:=Option.bind_eq_some_iff.mp H
   obtain ⟨Cy,a8F,H⟩:=H
   replace H:(if Cy=true then (some (wrap64 (Int.tdiv a0 cY),wrap64 (Int.tdiv a1 cY))) else (some (0,0)))=some (r1,r2):=H
   have jx:=Aside0.mk a8F
   clear a8F
   by_cases c31:Cy=true
   ·subst c31
    have H1:(some (wrap64 (Int.tdiv a0 cY),wrap64 (Int.tdiv a1 cY)))=some (r1,r2):=by rw [if_pos rfl] at H;exact H
    clear H
    have H:=H1
    clear H1
    simp only [Option.some.injEq,Prod.mk.injEq] at H
    obtain ⟨rfl,rfl⟩:=H
    go_enter Try.func87,Try.ntmps87
    try go_wp2_with (first|((with_reducible refine bn (N:=4) rfl ?_);refine bq ?hg (N:=4) ?hd (cs:= #[.int .i64 0,.int .i64 0]) (t:=34) ?hr ?_;(case hd=>rfl);(case hg=>rfl);(case hr=>first|(go_simp;done)|(go_simp;rfl));intro eo hg Cz aU hb;have aA:=Aside0.mk (ah ay hb);have aC:=Aside0.mk (aU);have aD:=Aside0.mk ((by rw [hg];exact (ax ay):w.heap.size<=eo));have aK:=Aside0.mk ((by rw [hg];exact (ax ay):w.heap.size<=eo));clear HB;have HB:=aA;have cI:=aC;have VX:=aD;have VY:=aK;clear aA aC aD aK;clear hb aU hg)|((with_reducible refine aV (f:=88) rfl ?_);refine bH (some 9) rfl rfl Try.func88 (by kernel_rfl) rfl #[.int .i64 a0,.int .i64 a1] rfl (by (try simp only [List.map_toArray,List.map_cons,List.map_nil]);first|done|rfl|(simp only [List.length_drop,List.length_take];rfl)) ?_;(with_reducible refine (dL.calls k a0 a1 cY _ A3.out).mono ?_);rintro e Qa ⟨rfl,hb⟩;refine ⟨_,rfl,?_⟩;have aA:=Aside0.mk (aj (g:=eo) (o:= .cells #[.int .i64 0,.int .i64 0] 34 (0,0)) (aH cI) hb);have aC:=Aside0.mk (ah ay hb);clear cI;clear HB;have cI:=aA;have HB:=aC;clear aA aC;(try clear hb);(try clear hb2);(try clear hk);(try clear hi)))
    have aA:=Aside0.mk (ak cI.out)
    have aC:=Aside0.mk (aI HB.out)
    clear cI
    clear HB
    have cI:=aA
    have HB:=aC
    clear aA aC
    refine fL (n:=9) (S:=fun w'=>True) (ds:=[]) #[false,false,false,false,false,false,false,false,false] (by kernel_rfl) rfl rfl trivial (fun hHeld=>?_);refine jK bJ.FW bJ.Bb (fun cG oV=>?_)
    generalize Qa.drew=w34 at cI HB hHeld⊢
    refine cB cG (i:=0) (N:=some 14) ?_
    refine cB cG (i:=1) (N:=some 15) ?_
    refine cB cG (i:=2) (N:=some 16) ?_
    refine cB cG (i:=3) (N:=some 17) ?_
    refine cB cG (i:=4) (N:=some 18) ?_
    refine cB cG (i:=5) (N:=some 19) ?_
    refine cB cG (i:=6) (N:=some 20) ?_
    refine gj (i:=7) (N:=some 6) #[true,true,true,true,true,true,true,true,false] rfl rfl (lA cG.out (by kernel_rfl)) (by decide) (fun K hK=>?_)
    refine AR ?hg (N:=6) ?hd (cs:= #[.int .i64 0,.int .i64 0]) (t:=34) ?hr ?_;(case hd=>rfl);(case hg=>rfl);(case hr=>first|(go_simp;done)|(go_simp;rfl))
    intro kZ hg BJ aU hb
    have aA:=Aside0.mk (aj (g:=eo) (o:= .cells #[.int .i64 0,.int .i64 0] 34 (0,0)) (aH cI) hb)
    have aC:=Aside0.mk (ah ay hb)
    have aD:=Aside0.mk (aU)
    have aK:=Aside0.mk ((by rw [hg];exact (ax ay):w.heap.size<=kZ))
    have bF:=Aside0.mk ((by rw [hg];exact (ax ay):w.heap.size<=kZ))
    have bS:=Aside0.mk ((by rw [hg];exact Nat.ne_of_lt (bf (g:=eo) (o:= .cells #[.int .i64 0,.int .i64 0] 34 (0,0)) (aH cI)):eo≠kZ))
    have bY:=Aside0.mk ((by rw [hg];exact Nat.ne_of_gt (bf (g:=eo) (o:= .cells #[.int .i64 0,.int .i64 0] 34 (0,0)) (aH cI)):kZ≠eo))
    clear cI
    clear HB
    have cI:=aA
    have HB:=aC
    have jl:=aD
    have b2I:=aK
    have b2J:=bF
    have lF:=bS
    have qF:=bY
    clear aA aC aD aK bF bS bY
    clear hb aU hg
    refine hK.out _ _ trivial (fun hHeld=>?_)
    clear hK K
    refine fq (a':=?_) ?_ ?_
    rotate_left
    ·show Act.put _ (some 6) _=_
     simp only [Act.put,List.setIfInBounds_toArray,List.set_cons_zero,List.set_cons_succ,dJ,eD]
     rfl
    refine gj (i:=8) (N:=none) #[true,true,true,true,true,true,true,true,true] rfl rfl (lA cG.out (by kernel_rfl)) (by decide) (fun K hK=>?_)
    have hs36:BJ.cell? ⟨kZ,0,none⟩=some (.int .i64 0):=(ag jl.out 0).trans rfl
    have hfs36:=af jl.out 0
    have hns36_0:=lF.out
    have hms36_0:=qF.out
    have hs37:BJ.cell? ⟨kZ,1,none⟩=some (.int .i64 0):=(ag jl.out 1).trans rfl
    have hfs37:=af jl.out 1
    have hns37_0:=lF.out
    have hms37_0:=qF.out
    refine lO (w1:=?_) (by rfl) rfl ?_ ?_
    rotate_left
    ·go_simp
     rfl
    refine hK.out _ _ trivial (fun hHeld=>?_)
    clear hK K
    refine gU (mO cG.out (by kernel_rfl)) ?_
    have hnb38:=qF.out
    have hnc38:=lF.out
    have hcz39_0:BJ.cell? ⟨kZ,0,none⟩=some (.int .i64 0):=(ag jl.out 0).trans rfl
    have hcz39_1:BJ.cell? ⟨kZ,1,none⟩=some (.int .i64 0):=(ag jl.out 1).trans rfl
    have hfz39_0:=af jl.out 0
    have hfz39_1:=af jl.out 1
    try go_wp2_with (first|((with_reducible refine aV (f:=80) rfl ?_);refine bH (some 22) rfl rfl Try.func80 (by kernel_rfl) rfl #[.agg #[.int .i64 (wrap64 (Int.tdiv a0 cY)),.int .i64 (wrap64 (Int.tdiv a1 cY))]] rfl (by (try simp only [List.map_toArray,List.map_cons,List.map_nil]);first|done|rfl|(simp only [List.length_drop,List.length_take];rfl)) ?_;(with_reducible refine (cj.calls k (wrap64 (Int.tdiv a0 cY)) (wrap64 (Int.tdiv a1 cY)) true _ jx.out).mono ?_);rintro e w40 ⟨rfl,hb⟩;refine ⟨_,rfl,?_⟩;have aA:=Aside0.mk (aj (g:=eo) (o:= .cells #[.int .i64 0,.int .i64 0] 34 (0,0)) (by (with_reducible repeat (first|refine aq ?_ _|refine ak ?_|refine ai ?_ _));refine bM ?_ lF.out _;(with_reducible repeat (first|refine aq ?_ _|refine ak ?_|refine ai ?_ _));refine bM ?_ lF.out _;(with_reducible repeat (first|refine aq ?_ _|refine ak ?_|refine ai ?_ _));exact cI.out) hb);have aC:=Aside0.mk (aj (g:=kZ) (o:= .cells #[.int .i64 (wrap64 (Int.tdiv a0 cY)),.int .i64 (wrap64 (Int.tdiv a1 cY))] 34 (0,0)) (by (with_reducible repeat (first|refine aq ?_ _|refine ak ?_|refine ai ?_ _));refine bh (cs:= #[.int .i64 (wrap64 (Int.tdiv a0 cY)),.int .i64 0]) ?_ 1 _ rfl;(with_reducible repeat (first|refine aq ?_ _|refine ak ?_|refine ai ?_ _));refine bh (cs:= #[.int .i64 0,.int .i64 0]) ?_ 0 _ rfl;(with_reducible repeat (first|refine aq ?_ _|refine ak ?_|refine ai ?_ _));exact jl.out) hb);have aD:=Aside0.mk (ah ay hb);clear cI;clear jl;clear HB;have cI:=aA;have jl:=aC;have HB:=aD;clear aA aC aD;(try clear hb);(try clear hb2);(try clear hk);(try clear hi);have KT:w40.cell? ⟨kZ,0,none⟩=some (.int .i64 (wrap64 (Int.tdiv a0 cY))):=(ag jl.out 0).trans rfl;have KU:w40.cell? ⟨kZ,1,none⟩=some (.int .i64 (wrap64 (Int.tdiv a1 cY))):=(ag jl.out 1).trans rfl;have KV:=af jl.out 0;have KW:=af jl.out 1;have hcz42_0:w40.cell? ⟨eo,0,none⟩=some (.int .i64 0):=(ag cI.out 0).trans rfl;have hcz42_1:w40.cell? ⟨eo,1,none⟩=some (.int .i64 0):=(ag cI.out 1).trans rfl;have hfz42_0:=af cI.out 0;have hfz42_1:=af cI.out 1))
    refine bodyPost_ret (results_cell_row rfl _ _ eo 34 #[.int .i64 (wrap64 (Int.tdiv a0 cY)),.int .i64 (wrap64 (Int.tdiv a1 cY))] (0,0) _ rfl (by (with_reducible repeat (first|refine aq ?_ _|refine ak ?_|refine ai ?_ _));refine bh (cs:= #[.int .i64 (wrap64 (Int.tdiv a0 cY)),.int .i64 0]) ?_ 1 _ rfl;(with_reducible repeat (first|refine aq ?_ _|refine ak ?_|refine ai ?_ _));refine bh (cs:= #[.int .i64 0,.int .i64 0]) ?_ 0 _ rfl;(with_reducible repeat (first|refine aq ?_ _|refine ak ?_|refine ai ?_ _));exact cI.out) Try.underlying34 rfl (by kernel_rfl)) rfl ?_
    exact ⟨by first|rfl|(simp [aX,aY]<;>rfl)|(simp [*,aX,aY]<;>rfl),ay⟩
   ·replace c31:=Bool.eq_false_iff.mpr c31
    subst c31
    have H1:(some (0,0))=some (r1,r2):=by rw [if_neg (show ¬(false=true) by decide)] at H;exact H
    clear H
    have H:=H1
    clear H1
    simp only [Option.some.injEq,Prod.mk.injEq] at H
    obtain ⟨rfl,rfl⟩:=H
    go_enter Try.func87,Try.ntmps87
    try go_wp2_with (first|((with_reducible refine bn (N:=4) rfl ?_);refine bq ?hg (N:=4) ?hd (cs:= #[.int .i64 0,.int .i64 0]) (t:=34) ?hr ?_;(case hd=>rfl);(case hg=>rfl);(case hr=>first|(go_simp;done)|(go_simp;rfl));intro eo hg w43 aU hb;have aA:=Aside0.mk (ah ay hb);have aC:=Aside0.mk (aU);have aD:=Aside0.mk ((by rw [hg];exact (ax ay):w.heap.size<=eo));have aK:=Aside0.mk ((by rw [hg];exact (ax ay):w.heap.size<=eo));clear HB;have HB:=aA;have cI:=aC;have VX:=aD;have VY:=aK;clear aA aC aD aK;clear hb aU hg)|((with_reducible refine aV (f:=88) rfl ?_);refine bH (some 9) rfl rfl Try.func88 (by kernel_rfl) rfl #[.int .i64 a0,.int .i64 a1] rfl (by (try simp only [List.map_toArray,List.map_cons,List.map_nil]);first|done|rfl|(simp only [List.length_drop,List.length_take];rfl)) ?_;(with_reducible refine (dL.calls k a0 a1 cY _ A3.out).mono ?_);rintro e w44 ⟨rfl,hb⟩;refine ⟨_,rfl,?_⟩;have aA:=Aside0.mk (aj (g:=eo) (o:= .cells #[.int .i64 0,.int .i64 0] 34 (0,0)) (aH cI) hb);have aC:=Aside0.mk (ah ay hb);clear cI;clear HB;have cI:=aA;have HB:=aC;clear aA aC;(try clear hb);(try clear hb2);(try clear hk);(try clear hi)))
    have aA:=Aside0.mk (ak cI.out)
    have aC:=Aside0.mk (aI HB.out)
    clear cI
    clear HB
    have cI:=aA
    have HB:=aC
    clear aA aC
    refine fL (n:=9) (S:=fun w'=>True) (ds:=[]) #[false,false,false,false,false,false,false,false,false] (by kernel_rfl) rfl rfl trivial (fun hHeld=>?_);refine jK bJ.FW bJ.Bb (fun cG oV=>?_)
    generalize w44.drew=w45 at cI HB hHeld⊢
    refine cB cG (i:=0) (N:=some 14) ?_
    refine cB cG (i:=1) (N:=some 15) ?_
    refine cB cG (i:=2) (N:=some 16) ?_
    refine cB cG (i:=3) (N:=some 17) ?_
    refine cB cG (i:=4) (N:=some 18) ?_
    refine cB cG (i:=5) (N:=some 19) ?_
    refine cB cG (i:=6) (N:=some 20) ?_
    refine gj (i:=7) (N:=some 6) #[true,true,true,true,true,true,true,true,false] rfl rfl (lA cG.out (by kernel_rfl)) (by decide) (fun K hK=>?_)
    refine AR ?hg (N:=6) ?hd (cs:= #[.int .i64 0,.int .i64 0]) (t:=34) ?hr ?_;(case hd=>rfl);(case hg=>rfl);(case hr=>first|(go_simp;done)|(go_simp;rfl))
    intro kZ hg w46 aU hb
    have aA:=Aside0.mk (aj (g:=eo) (o:= .cells #[.int .i64 0,.int .i64 0] 34 (0,0)) (aH cI) hb)
    have aC:=Aside0.mk (ah ay hb)
    have aD:=Aside0.mk (aU)
    have aK:=Aside0.mk ((by rw [hg];exact (ax ay):w.heap.size<=kZ))
    have bF:=Aside0.mk ((by rw [hg];exact (ax ay):w.heap.size<=kZ))
    have bS:=Aside0.mk ((by rw [hg];exact Nat.ne_of_lt (bf (g:=eo) (o:= .cells #[.int .i64 0,.int .i64 0] 34 (0,0)) (aH cI)):eo≠kZ))
    have bY:=Aside0.mk ((by rw [hg];exact Nat.ne_of_gt (bf (g:=eo) (o:= .cells #[.int .i64 0,.int .i64 0] 34 (0,0)) (aH cI)):kZ≠eo))
    clear cI
    clear HB
    have cI:=aA
    have HB:=aC
    have jl:=aD
    have b2I:=aK
    have b2J:=bF
    have lF:=bS
    have qF:=bY
    clear aA aC aD aK bF bS bY
    clear hb aU hg
    refine hK.out _ _ trivial (fun hHeld=>?_)
    clear hK K
    refine fq (a':=?_) ?_ ?_
    rotate_left
    ·show Act.put _ (some 6) _=_
     simp only [Act.put,List.setIfInBounds_toArray,List.set_cons_zero,List.set_cons_succ,dJ,eD]
     rfl
    refine gj (i:=8) (N:=none) #[true,true,true,true,true,true,true,true,true] rfl rfl (lA cG.out (by kernel_rfl)) (by decide) (fun K hK=>?_)
    have hs47:w46.cell? ⟨kZ,0,none⟩=some (.int .i64 0):=(ag jl.out 0).trans rfl
    have hfs47:=af jl.out 0
    have hns47_0:=lF.out
    have hms47_0:=qF.out
    have hs48:w46.cell? ⟨kZ,1,none⟩=some (.int .i64 0):=(ag jl.out 1).trans rfl
    have hfs48:=af jl.out 1
    have hns48_0:=lF.out
    have hms48_0:=qF.out
    refine lO (w1:=?_) (by rfl) rfl ?_ ?_
    rotate_left
    ·go_simp
     rfl
    refine hK.out _ _ trivial (fun hHeld=>?_)
    clear hK K
    refine gU (mO cG.out (by kernel_rfl)) ?_
    have hnb49:=qF.out
    have hnc49:=lF.out
    have hcz50_0:w46.cell? ⟨kZ,0,none⟩=some (.int .i64 0):=(ag jl.out 0).trans rfl
    have hcz50_1:w46.cell? ⟨kZ,1,none⟩=some (.int .i64 0):=(ag jl.out 1).trans rfl
    have hfz50_0:=af jl.out 0
    have hfz50_1:=af jl.out 1
    try go_wp2_with (first|((with_reducible refine aV (f:=80) rfl ?_);refine bH (some 22) rfl rfl Try.func80 (by kernel_rfl) rfl #[.agg #[.int .i64 (wrap64 (Int.tdiv a0 cY)),.int .i64 (wrap64 (Int.tdiv a1 cY))]] rfl (by (try simp only [List.map_toArray,List.map_cons,List.map_nil]);first|done|rfl|(simp only [List.length_drop,List.length_take];rfl)) ?_;(with_reducible refine (cj.calls k (wrap64 (Int.tdiv a0 cY)) (wrap64 (Int.tdiv a1 cY)) false _ jx.out).mono ?_);rintro e w51 ⟨rfl,hb⟩;refine ⟨_,rfl,?_⟩;have aA:=Aside0.mk (aj (g:=eo) (o:= .cells #[.int .i64 0,.int .i64 0] 34 (0,0)) (by (with_reducible repeat (first|refine aq ?_ _|refine ak ?_|refine ai ?_ _));refine bM ?_ lF.out _;(with_reducible repeat (first|refine aq ?_ _|refine ak ?_|refine ai ?_ _));refine bM ?_ lF.out _;(with_reducible repeat (first|refine aq ?_ _|refine ak ?_|refine ai ?_ _));exact cI.out) hb);have aC:=Aside0.mk (aj (g:=kZ) (o:= .cells #[.int .i64 (wrap64 (Int.tdiv a0 cY)),.int .i64 (wrap64 (Int.tdiv a1 cY))] 34 (0,0)) (by (with_reducible repeat (first|refine aq ?_ _|refine ak ?_|refine ai ?_ _));refine bh (cs:= #[.int .i64 (wrap64 (Int.tdiv a0 cY)),.int .i64 0]) ?_ 1 _ rfl;(with_reducible repeat (first|refine aq ?_ _|refine ak ?_|refine ai ?_ _));refine bh (cs:= #[.int .i64 0,.int .i64 0]) ?_ 0 _ rfl;(with_reducible repeat (first|refine aq ?_ _|refine ak ?_|refine ai ?_ _));exact jl.out) hb);have aD:=Aside0.mk (ah ay hb);clear cI;clear jl;clear HB;have cI:=aA;have jl:=aC;have HB:=aD;clear aA aC aD;(try clear hb);(try clear hb2);(try clear hk);(try clear hi);have TE:w51.cell? ⟨eo,0,none⟩=some (.int .i64 0):=(ag cI.out 0).trans rfl;have TF:w51.cell? ⟨eo,1,none⟩=some (.int .i64 0):=(ag cI.out 1).trans rfl;have TG:=af cI.out 0;have TH:=af cI.out 1))
    refine bodyPost_ret (results_cell_row rfl _ _ eo 34 #[.int .i64 0,.int .i64 0] (0,0) _ rfl (by (with_reducible repeat (first|refine aq ?_ _|refine ak ?_|refine ai ?_ _));refine bh (cs:= #[.int .i64 0,.int .i64 0]) ?_ 1 _ rfl;(with_reducible repeat (first|refine aq ?_ _|refine ak ?_|refine ai ?_ _));refine bh (cs:= #[.int .i64 0,.int .i64 0]) ?_ 0 _ rfl;(with_reducible repeat (first|refine aq ?_ _|refine ak ?_|refine ai ?_ _));exact cI.out) Try.underlying34 rfl (by kernel_rfl)) rfl ?_
    exact ⟨by first|rfl|(simp [aX,aY]<;>rfl)|(simp [*,aX,aY]<;>rfl),ay⟩
def jL.f (k:Nat) (aM:Int) (aJ:Int) (bw:Int) (bk:Int):Option (Int×Int):=(bJ.f k (wrap64 ((wrap64 (aM*bk))-(wrap64 (bw*aJ)))) (wrap64 (aJ*bk))).bind fun Iq=>(some (Iq.1,Iq.2))
theorem jL.mono:∀a0 a1 a2 a3 k,aR (jL.f k a0 a1 a2 a3) (jL.f (k+1) a0 a1 a2 a3):=by
 intro a0 a1 a2 a3 k
 unfold jL.f
 repeat' first
  |(with_reducible exact bJ.mono _ _ _)
  |(with_reducible exact aR.refl _)
  |(with_reducible exact aR.none _)
  |(with_reducible refine aR.ite ?_ ?_)
  |(with_reducible refine aR.bind ?_ (fun _=>?_))
set_option maxHeartbeats 8000000 in
set_option maxRecDepth 100000 in
theorem jL.calls (k:Nat) (aM:Int) (aJ:Int) (bw:Int) (bk:Int) (r1:Int) (r2:Int) (w:World) (h:jL.f k aM aJ bw bk=some (r1,r2)):
 Calls Try.prog 112 #[.agg #[.int .i64 aM,.int .i64 aJ],.agg #[.int .i64 bw,.int .i64 bk]] w fun e w'=>e= .returned (.agg #[.int .i64 r1,.int .i64 r2])/\Below w.heap.size w w':=by
 have lB:=Try.underlying34
 have HB:=Aside0.mk (Below.refl w.heap.size w)
 have H:((bJ.f k (wrap64 ((wrap64 (aM*bk))-(wrap64 (bw*aJ)))) (wrap64 (aJ*bk))).bind fun Iq=>(some (Iq.1,Iq.2)))=some (r1,r2):=h
 clear h
 replace H:=Option.bind_eq_some_iff.mp H
 obtain ⟨⟨VZ,a1C⟩,jx,H⟩:=H
 replace H:(some (VZ,a1C))=some (r1,r2):=H
 have A3:=Aside0.mk jx
 clear jx
 simp only [Option.some.injEq,Prod.mk.injEq] at H
 obtain ⟨rfl,rfl⟩:=H
 go_enter Try.func112,Try.ntmps112
 go_wp2_with (first|((with_reducible refine bn (N:=2) rfl ?_);refine bq ?hg (N:=2) ?hd (cs:= #[.int .i64 aM,.int .i64 aJ]) (t:=34) ?hr ?_;(case hd=>rfl);(case hg=>rfl);(case hr=>first|(go_simp;done)|(go_simp;rfl));intro pH hg w4 aU hb;have aA:=Aside0.mk (ah ay hb);have aC:=Aside0.mk (aU);have aD:=Aside0.mk ((by rw [hg];exact (ax ay):w.heap.size<=pH));have aK:=Aside0.mk ((by rw [hg];exact (ax ay):w.heap.size<=pH));clear HB;have HB:=aA;have nE:=aC;have GW605:=aD;have GE605:=aK;clear aA aC aD aK;clear hb aU hg)|((with_reducible refine bn (N:=3) rfl ?_);refine bq ?hg (N:=3) ?hd (cs:= #[.int .i64 bw,.int .i64 bk]) (t:=34) ?hr ?_;(case hd=>rfl);(case hg=>rfl);(case hr=>first|(go_simp;done)|(go_simp;rfl));intro rX hg w5 aU hb;have aA:=Aside0.mk (aj (g:=pH) (o:= .cells #[.int .i64 aM,.int .i64 aJ] 34 (0,0)) (aH nE) hb);have aC:=Aside0.mk (ah ay hb);have aD:=Aside0.mk (aU);have aK:=Aside0.mk ((by rw [hg];exact (ax ay):w.heap.size<=rX));have bF:=Aside0.mk ((by rw [hg];exact (ax ay):w.heap.size<=rX));have bS:=Aside0.mk ((by rw [hg];exact Nat.ne_of_lt (bf (g:=pH) (o:= .cells #[.int .i64 aM,.int .i64 aJ] 34 (0,0)) (aH nE)):pH≠rX));have bY:=Aside0.mk ((by rw [hg];exact Nat.ne_of_gt (bf (g:=pH) (o:= .cells #[.int .i64 aM,.int .i64 aJ] 34 (0,0)) (aH nE)):rX≠pH));clear nE;clear HB;have nE:=aA;have HB:=aC;have rY:=aD;have GW606:=aK;have GE606:=bF;have Yd:=bS;have Ye:=bY;clear aA aC aD aK bF bS bY;clear hb aU hg)|((with_reducible refine bn (N:=4) rfl ?_);refine bq ?hg (N:=4) ?hd (cs:= #[.int .i64 0,.int .i64 0]) (t:=34) ?hr ?_;(case hd=>rfl);(case hg=>rfl);(case hr=>first|(go_simp;done)|(go_simp;rfl));intro uS hg w6 aU hb;have aA:=Aside0.mk (aj (g:=pH) (o:= .cells #[.int .i64 aM,.int .i64 aJ] 34 (0,0)) (aH nE) hb);have aC:=Aside0.mk (aj (g:=rX) (o:= .cells #[.int .i64 bw,.int .i64 bk] 34 (0,0)) (aH rY) hb);have aD:=Aside0.mk (ah ay hb);have aK:=Aside0.mk (aU);have bF:=Aside0.mk ((by rw [hg];exact (ax ay):w.heap.size<=uS));have bS:=Aside0.mk ((by rw [hg];exact (ax ay):w.heap.size<=uS));have bY:=Aside0.mk ((by rw [hg];exact Nat.ne_of_lt (bf (g:=pH) (o:= .cells #[.int .i64 aM,.int .i64 aJ] 34 (0,0)) (aH nE)):pH≠uS));have eX:=Aside0.mk ((by rw [hg];exact Nat.ne_of_gt (bf (g:=pH) (o:= .cells #[.int .i64 aM,.int .i64 aJ] 34 (0,0)) (aH nE)):uS≠pH));have fY:=Aside0.mk ((by rw [hg];exact Nat.ne_of_lt (bf (g:=rX) (o:= .cells #[.int .i64 bw,.int .i64 bk] 34 (0,0)) (aH rY)):rX≠uS));have gT:=Aside0.mk ((by rw [hg];exact Nat.ne_of_gt (bf (g:=rX) (o:= .cells #[.int .i64 bw,.int .i64 bk] 34 (0,0)) (aH rY)):uS≠rX));clear nE;clear rY;clear HB;have nE:=aA;have rY:=aC;have HB:=aD;have yw:=aK;have GW607:=bF;have GE607:=bS;have Yf:=bY;have Yg:=eX;have Yh:=fY;have Yi:=gT;clear aA aC aD aK bF bS bY eX fY gT;clear hb aU hg;have CA:=Yd.out;have CB:=Ye.out;have FX:=Yf.out;have FY:=Yg.out;have vF:w6.cell? ⟨pH,0,none⟩=some (.int .i64 aM):=(ag nE.out 0).trans rfl;have vG:w6.cell? ⟨pH,1,none⟩=some (.int .i64 aJ):=(ag nE.out 1).trans rfl;have vH:=af nE.out 0;have vI:=af nE.out 1;have Bc:=Yh.out;have Be:=Yi.out;have uq:w6.cell? ⟨rX,0,none⟩=some (.int .i64 bw):=(ag rY.out 0).trans rfl;have ur:w6.cell? ⟨rX,1,none⟩=some (.int .i64 bk):=(ag rY.out 1).trans rfl;have uu:=af rY.out 0;have uv:=af rY.out 1)|((with_reducible refine aV (f:=87) rfl ?_);refine bH (some 21) rfl rfl Try.func87 (by kernel_rfl) rfl #[.int .i64 (wrap64 ((wrap64 (aM*bk))-(wrap64 (bw*aJ)))),.int .i64 (wrap64 (aJ*bk))] rfl (by (try simp only [List.map_toArray,List.map_cons,List.map_nil]);first|done|rfl|(simp only [List.length_drop,List.length_take];rfl)) ?_;(with_reducible refine (bJ.calls k (wrap64 ((wrap64 (aM*bk))-(wrap64 (bw*aJ)))) (wrap64 (aJ*bk)) VZ a1C _ A3.out).mono ?_);rintro e mV ⟨rfl,hb⟩;refine ⟨_,rfl,?_⟩;have aA:=Aside0.mk (aj (g:=pH) (o:= .cells #[.int .i64 aM,.int .i64 aJ] 34 (0,0)) (aH nE) hb);have aC:=Aside0.mk (aj (g:=rX) (o:= .cells #[.int .i64 bw,.int .i64 bk] 34 (0,0)) (aH rY) hb);have aD:=Aside0.mk (aj (g:=uS) (o:= .cells #[.int .i64 0,.int .i64 0] 34 (0,0)) (aH yw) hb);have aK:=Aside0.mk (ah ay hb);clear nE;clear rY;clear yw;clear HB;have nE:=aA;have rY:=aC;have yw:=aD;have HB:=aK;clear aA aC aD aK;(try clear hb);(try clear hb2);(try clear hk);(try clear hi);have pZ:mV.cell? ⟨uS,0,none⟩=some (.int .i64 0):=(ag yw.out 0).trans rfl;have qa:mV.cell? ⟨uS,1,none⟩=some (.int .i64 0):=(ag yw.out 1).trans rfl;have qb:=af yw.out 0;have qc:=af yw.out 1))
 refine bodyPost_ret (results_cell_row rfl _ _ uS 34 #[.int .i64 VZ,.int .i64 a1C] (0,0) _ rfl (by (with_reducible repeat (first|refine aq ?_ _|refine ak ?_|refine ai ?_ _));refine bh (cs:= #[.int .i64 VZ,.int .i64 0]) ?_ 1 _ rfl;(with_reducible repeat (first|refine aq ?_ _|refine ak ?_|refine ai ?_ _));refine bh (cs:= #[.int .i64 0,.int .i64 0]) ?_ 0 _ rfl;(with_reducible repeat (first|refine aq ?_ _|refine ak ?_|refine ai ?_ _));exact yw.out) Try.underlying34 rfl (by kernel_rfl)) rfl ?_
 exact ⟨by first|rfl|(simp [aX,aY]<;>rfl)|(simp [*,aX,aY]<;>rfl),ay⟩
def jM.f (k:Nat) (aM:Int) (aJ:Int) (bw:Int) (bk:Int):Option (Int×Int):=(bJ.f k (wrap64 (aM*bw)) (wrap64 (aJ*bk))).bind fun Ir=>(some (Ir.1,Ir.2))
theorem jM.mono:∀a0 a1 a2 a3 k,aR (jM.f k a0 a1 a2 a3) (jM.f (k+1) a0 a1 a2 a3):=by
 intro a0 a1 a2 a3 k
 unfold jM.f
 repeat' first
  |(with_reducible exact bJ.mono _ _ _)
  |(with_reducible exact aR.refl _)
  |(with_reducible exact aR.none _)
  |(with_reducible refine aR.ite ?_ ?_)
  |(with_reducible refine aR.bind ?_ (fun _=>?_))
set_option maxHeartbeats 8000000 in
set_option maxRecDepth 100000 in
theorem jM.calls (k:Nat) (aM:Int) (aJ:Int) (bw:Int) (bk:Int) (r1:Int) (r2:Int) (w:World) (h:jM.f k aM aJ bw bk=some (r1,r2)):
 Calls Try.prog 115 #[.agg #[.int .i64 aM,.int .i64 aJ],.agg #[.int .i64 bw,.int .i64 bk]] w fun e w'=>e= .returned (.agg #[.int .i64 r1,.int .i64 r2])/\Below w.heap.size w w':=by
 have lB:=Try.underlying34
 have HB:=Aside0.mk (Below.refl w.heap.size w)
 have H:((bJ.f k (wrap64 (aM*bw)) (wrap64 (aJ*bk))).bind fun Ir=>(some (Ir.1,Ir.2)))=some (r1,r2):=h
 clear h
 replace H:=Option.bind_eq_some_iff.mp H
 obtain ⟨⟨Wa,a1D⟩,jx,H⟩:=H
 replace H:(some (Wa,a1D))=some (r1,r2):=H
 have A3:=Aside0.mk jx
 clear jx
 simp only [Option.some.injEq,Prod.mk.injEq] at H
 obtain ⟨rfl,rfl⟩:=H
 go_enter Try.func115,Try.ntmps115
 go_wp2_with (first|((with_reducible refine bn (N:=2) rfl ?_);refine bq ?hg (N:=2) ?hd (cs:= #[.int .i64 aM,.int .i64 aJ]) (t:=34) ?hr ?_;(case hd=>rfl);(case hg=>rfl);(case hr=>first|(go_simp;done)|(go_simp;rfl));intro pI hg w4 aU hb;have aA:=Aside0.mk (ah ay hb);have aC:=Aside0.mk (aU);have aD:=Aside0.mk ((by rw [hg];exact (ax ay):w.heap.size<=pI));have aK:=Aside0.mk ((by rw [hg];exact (ax ay):w.heap.size<=pI));clear HB;have HB:=aA;have nG:=aC;have GW616:=aD;have GE616:=aK;clear aA aC aD aK;clear hb aU hg)|((with_reducible refine bn (N:=3) rfl ?_);refine bq ?hg (N:=3) ?hd (cs:= #[.int .i64 bw,.int .i64 bk]) (t:=34) ?hr ?_;(case hd=>rfl);(case hg=>rfl);(case hr=>first|(go_simp;done)|(go_simp;rfl));intro rZ hg w5 aU hb;have aA:=Aside0.mk (aj (g:=pI) (o:= .cells #[.int .i64 aM,.int .i64 aJ] 34 (0,0)) (aH nG) hb);have aC:=Aside0.mk (ah ay hb);have aD:=Aside0.mk (aU);have aK:=Aside0.mk ((by rw [hg];exact (ax ay):w.heap.size<=rZ));have bF:=Aside0.mk ((by rw [hg];exact (ax ay):w.heap.size<=rZ));have bS:=Aside0.mk ((by rw [hg];exact Nat.ne_of_lt (bf (g:=pI) (o:= .cells #[.int .i64 aM,.int .i64 aJ] 34 (0,0)) (aH nG)):pI≠rZ));have bY:=Aside0.mk ((by rw [hg];exact Nat.ne_of_gt (bf (g:=pI) (o:= .cells #[.int .i64 aM,.int .i64 aJ] 34 (0,0)) (aH nG)):rZ≠pI));clear nG;clear HB;have nG:=aA;have HB:=aC;have se:=aD;have GW617:=aK;have GE617:=bF;have Yj:=bS;have Yk:=bY;clear aA aC aD aK bF bS bY;clear hb aU hg)|((with_reducible refine bn (N:=4) rfl ?_);refine bq ?hg (N:=4) ?hd (cs:= #[.int .i64 0,.int .i64 0]) (t:=34) ?hr ?_;(case hd=>rfl);(case hg=>rfl);(case hr=>first|(go_simp;done)|(go_simp;rfl));intro uT hg w6 aU hb;have aA:=Aside0.mk (aj (g:=pI) (o:= .cells #[.int .i64 aM,.int .i64 aJ] 34 (0,0)) (aH nG) hb);have aC:=Aside0.mk (aj (g:=rZ) (o:= .cells #[.int .i64 bw,.int .i64 bk] 34 (0,0)) (aH se) hb);have aD:=Aside0.mk (ah ay hb);have aK:=Aside0.mk (aU);have bF:=Aside0.mk ((by rw [hg];exact (ax ay):w.heap.size<=uT));have bS:=Aside0.mk ((by rw [hg];exact (ax ay):w.heap.size<=uT));have bY:=Aside0.mk ((by rw [hg];exact Nat.ne_of_lt (bf (g:=pI) (o:= .cells #[.int .i64 aM,.int .i64 aJ] 34 (0,0)) (aH nG)):pI≠uT));have eX:=Aside0.mk ((by rw [hg];exact Nat.ne_of_gt (bf (g:=pI) (o:= .cells #[.int .i64 aM,.int .i64 aJ] 34 (0,0)) (aH nG)):uT≠pI));have fY:=Aside0.mk ((by rw [hg];exact Nat.ne_of_lt (bf (g:=rZ) (o:= .cells #[.int .i64 bw,.int .i64 bk] 34 (0,0)) (aH se)):rZ≠uT));have gT:=Aside0.mk ((by rw [hg];exact Nat.ne_of_gt (bf (g:=rZ) (o:= .cells #[.int .i64 bw,.int .i64 bk] 34 (0,0)) (aH se)):uT≠rZ));clear nG;clear se;clear HB;have nG:=aA;have se:=aC;have HB:=aD;have yx:=aK;have GW618:=bF;have GE618:=bS;have Yl:=bY;have Ym:=eX;have Yn:=fY;have Yo:=gT;clear aA aC aD aK bF bS bY eX fY gT;clear hb aU hg;have CA:=Yj.out;have CB:=Yk.out;have FX:=Yl.out;have FY:=Ym.out;have vF:w6.cell? ⟨pI,0,none⟩=some (.int .i64 aM):=(ag nG.out 0).trans rfl;have vG:w6.cell? ⟨pI,1,none⟩=some (.int .i64 aJ):=(ag nG.out 1).trans rfl;have vH:=af nG.out 0;have vI:=af nG.out 1;have Bc:=Yn.out;have Be:=Yo.out;have uq:w6.cell? ⟨rZ,0,none⟩=some (.int .i64 bw):=(ag se.out 0).trans rfl;have ur:w6.cell? ⟨rZ,1,none⟩=some (.int .i64 bk):=(ag se.out 1).trans rfl;have uu:=af se.out 0;have uv:=af se.out 1)|((with_reducible refine aV (f:=87) rfl ?_);refine bH (some 15) rfl rfl Try.func87 (by kernel_rfl) rfl #[.int .i64 (wrap64 (aM*bw)),.int .i64 (wrap64 (aJ*bk))] rfl (by (try simp only [List.map_toArray,List.map_cons,List.map_nil]);first|done|rfl|(simp only [List.length_drop,List.length_take];rfl)) ?_;(with_reducible refine (bJ.calls k (wrap64 (aM*bw)) (wrap64 (aJ*bk)) Wa a1D _ A3.out).mono ?_);rintro e mV ⟨rfl,hb⟩;refine ⟨_,rfl,?_⟩;have aA:=Aside0.mk (aj (g:=pI) (o:= .cells #[.int .i64 aM,.int .i64 aJ] 34 (0,0)) (aH nG) hb);have aC:=Aside0.mk (aj (g:=rZ) (o:= .cells #[.int .i64 bw,.int .i64 bk] 34 (0,0)) (aH se) hb);have aD:=Aside0.mk (aj (g:=uT) (o:= .cells #[.int .i64 0,.int .i64 0] 34 (0,0)) (aH yx) hb);have aK:=Aside0.mk (ah ay hb);clear nG;clear se;clear yx;clear HB;have nG:=aA;have se:=aC;have yx:=aD;have HB:=aK;clear aA aC aD aK;(try clear hb);(try clear hb2);(try clear hk);(try clear hi);have pZ:mV.cell? ⟨uT,0,none⟩=some (.int .i64 0):=(ag yx.out 0).trans rfl;have qa:mV.cell? ⟨uT,1,none⟩=some (.int .i64 0):=(ag yx.out 1).trans rfl;have qb:=af yx.out 0;have qc:=af yx.out 1))
 refine bodyPost_ret (results_cell_row rfl _ _ uT 34 #[.int .i64 Wa,.int .i64 a1D] (0,0) _ rfl (by (with_reducible repeat (first|refine aq ?_ _|refine ak ?_|refine ai ?_ _));refine bh (cs:= #[.int .i64 Wa,.int .i64 0]) ?_ 1 _ rfl;(with_reducible repeat (first|refine aq ?_ _|refine ak ?_|refine ai ?_ _));refine bh (cs:= #[.int .i64 0,.int .i64 0]) ?_ 0 _ rfl;(with_reducible repeat (first|refine aq ?_ _|refine ak ?_|refine ai ?_ _));exact yx.out) Try.underlying34 rfl (by kernel_rfl)) rfl ?_
 exact ⟨by first|rfl|(simp [aX,aY]<;>rfl)|(simp [*,aX,aY]<;>rfl),ay⟩
def kM.f (k:Nat) (aM:Int) (aJ:Int) (bw:Int) (bk:Int):Option (Int×Int):=(bJ.f k (wrap64 (aM*bk)) (wrap64 (aJ*bw))).bind fun Iu=>(some (Iu.1,Iu.2))
theorem kM.mono:∀a0 a1 a2 a3 k,aR (kM.f k a0 a1 a2 a3) (kM.f (k+1) a0 a1 a2 a3):=by
 intro a0 a1 a2 a3 k
 unfold kM.f
 repeat' first
  |(with_reducible exact bJ.mono _ _ _)
  |(with_reducible exact aR.refl _)
  |(with_reducible exact aR.none _)
  |(with_reducible refine aR.ite ?_ ?_)
  |(with_reducible refine aR.bind ?_ (fun _=>?_))
set_option maxHeartbeats 8000000 in
set_option maxRecDepth 100000 in
theorem kM.calls (k:Nat) (aM:Int) (aJ:Int) (bw:Int) (bk:Int) (r1:Int) (r2:Int) (w:World) (h:kM.f k aM aJ bw bk=some (r1,r2)):
 Calls Try.prog 113 #[.agg #[.int .i64 aM,.int .i64 aJ],.agg #[.int .i64 bw,.int .i64 bk]] w fun e w'=>e= .returned (.agg #[.int .i64 r1,.int .i64 r2])/\Below w.heap.size w w':=by
 have lB:=Try.underlying34
 have HB:=Aside0.mk (Below.refl w.heap.size w)
 have H:((bJ.f k (wrap64 (aM*bk)) (wrap64 (aJ*bw))).bind fun Iu=>(some (Iu.1,Iu.2)))=some (r1,r2):=h
 clear h
 replace H:=Option.bind_eq_some_iff.mp H
 obtain ⟨⟨Wb,a1E⟩,jx,H⟩:=H
 replace H:(some (Wb,a1E))=some (r1,r2):=H
 have A3:=Aside0.mk jx
 clear jx
 simp only [Option.some.injEq,Prod.mk.injEq] at H
 obtain ⟨rfl,rfl⟩:=H
 go_enter Try.func113,Try.ntmps113
 go_wp2_with (first|((with_reducible refine bn (N:=2) rfl ?_);refine bq ?hg (N:=2) ?hd (cs:= #[.int .i64 aM,.int .i64 aJ]) (t:=34) ?hr ?_;(case hd=>rfl);(case hg=>rfl);(case hr=>first|(go_simp;done)|(go_simp;rfl));intro pJ hg w4 aU hb;have aA:=Aside0.mk (ah ay hb);have aC:=Aside0.mk (aU);have aD:=Aside0.mk ((by rw [hg];exact (ax ay):w.heap.size<=pJ));have aK:=Aside0.mk ((by rw [hg];exact (ax ay):w.heap.size<=pJ));clear HB;have HB:=aA;have nH:=aC;have GW610:=aD;have GE610:=aK;clear aA aC aD aK;clear hb aU hg)|((with_reducible refine bn (N:=3) rfl ?_);refine bq ?hg (N:=3) ?hd (cs:= #[.int .i64 bw,.int .i64 bk]) (t:=34) ?hr ?_;(case hd=>rfl);(case hg=>rfl);(case hr=>first|(go_simp;done)|(go_simp;rfl));intro si hg w5 aU hb;have aA:=Aside0.mk (aj (g:=pJ) (o:= .cells #[.int .i64 aM,.int .i64 aJ] 34 (0,0)) (aH nH) hb);have aC:=Aside0.mk (ah ay hb);have aD:=Aside0.mk (aU);have aK:=Aside0.mk ((by rw [hg];exact (ax ay):w.heap.size<=si));have bF:=Aside0.mk ((by rw [hg];exact (ax ay):w.heap.size<=si));have bS:=Aside0.mk ((by rw [hg];exact Nat.ne_of_lt (bf (g:=pJ) (o:= .cells #[.int .i64 aM,.int .i64 aJ] 34 (0,0)) (aH nH)):pJ≠si));have bY:=Aside0.mk ((by rw [hg];exact Nat.ne_of_gt (bf (g:=pJ) (o:= .cells #[.int .i64 aM,.int .i64 aJ] 34 (0,0)) (aH nH)):si≠pJ));clear nH;clear HB;have nH:=aA;have HB:=aC;have sj:=aD;have GW611:=aK;have GE611:=bF;have Yp:=bS;have Yq:=bY;clear aA aC aD aK bF bS bY;clear hb aU hg)|((with_reducible refine bn (N:=4) rfl ?_);refine bq ?hg (N:=4) ?hd (cs:= #[.int .i64 0,.int .i64 0]) (t:=34) ?hr ?_;(case hd=>rfl);(case hg=>rfl);(case hr=>first|(go_simp;done)|(go_simp;rfl));intro uU hg w6 aU hb;have aA:=Aside0.mk (aj (g:=pJ) (o:= .cells #[.int .i64 aM,.int .i64 aJ] 34 (0,0)) (aH nH) hb);have aC:=Aside0.mk (aj (g:=si) (o:= .cells #[.int .i64 bw,.int .i64 bk] 34 (0,0)) (aH sj) hb);have aD:=Aside0.mk (ah ay hb);have aK:=Aside0.mk (aU);have bF:=Aside0.mk ((by rw [hg];exact (ax ay):w.heap.size<=uU));have bS:=Aside0.mk ((by rw [hg];exact (ax ay):w.heap.size<=uU));have bY:=Aside0.mk ((by rw [hg];exact Nat.ne_of_lt (bf (g:=pJ) (o:= .cells #[.int .i64 aM,.int .i64 aJ] 34 (0,0)) (aH nH)):pJ≠uU));have eX:=Aside0.mk ((by rw [hg];exact Nat.ne_of_gt (bf (g:=pJ) (o:= .cells #[.int .i64 aM,.int .i64 aJ] 34 (0,0)) (aH nH)):uU≠pJ));have fY:=Aside0.mk ((by rw [hg];exact Nat.ne_of_lt (bf (g:=si) (o:= .cells #[.int .i64 bw,.int .i64 bk] 34 (0,0)) (aH sj)):si≠uU));have gT:=Aside0.mk ((by rw [hg];exact Nat.ne_of_gt (bf (g:=si) (o:= .cells #[.int .i64 bw,.int .i64 bk] 34 (0,0)) (aH sj)):uU≠si));clear nH;clear sj;clear HB;have nH:=aA;have sj:=aC;have HB:=aD;have yy:=aK;have GW612:=bF;have GE612:=bS;have Yr:=bY;have Yt:=eX;have Yu:=fY;have Yv:=gT;clear aA aC aD aK bF bS bY eX fY gT;clear hb aU hg;have CA:=Yp.out;have CB:=Yq.out;have FX:=Yr.out;have FY:=Yt.out;have vF:w6.cell? ⟨pJ,0,none⟩=some (.int .i64 aM):=(ag nH.out 0).trans rfl;have vG:w6.cell? ⟨pJ,1,none⟩=some (.int .i64 aJ):=(ag nH.out 1).trans rfl;have vH:=af nH.out 0;have vI:=af nH.out 1;have Bc:=Yu.out;have Be:=Yv.out;have uq:w6.cell? ⟨si,0,none⟩=some (.int .i64 bw):=(ag sj.out 0).trans rfl;have ur:w6.cell? ⟨si,1,none⟩=some (.int .i64 bk):=(ag sj.out 1).trans rfl;have uu:=af sj.out 0;have uv:=af sj.out 1)|((with_reducible refine aV (f:=87) rfl ?_);refine bH (some 15) rfl rfl Try.func87 (by kernel_rfl) rfl #[.int .i64 (wrap64 (aM*bk)),.int .i64 (wrap64 (aJ*bw))] rfl (by (try simp only [List.map_toArray,List.map_cons,List.map_nil]);first|done|rfl|(simp only [List.length_drop,List.length_take];rfl)) ?_;(with_reducible refine (bJ.calls k (wrap64 (aM*bk)) (wrap64 (aJ*bw)) Wb a1E _ A3.out).mono ?_);rintro e mV ⟨rfl,hb⟩;refine ⟨_,rfl,?_⟩;have aA:=Aside0.mk (aj (g:=pJ) (o:= .cells #[.int .i64 aM,.int .i64 aJ] 34 (0,0)) (aH nH) hb);have aC:=Aside0.mk (aj (g:=si) (o:= .cells #[.int .i64 bw,.int .i64 bk] 34 (0,0)) (aH sj) hb);have aD:=Aside0.mk (aj (g:=uU) (o:= .cells #[.int .i64 0,.int .i64 0] 34 (0,0)) (aH yy) hb);have aK:=Aside0.mk (ah ay hb);clear nH;clear sj;clear yy;clear HB;have nH:=aA;have sj:=aC;have yy:=aD;have HB:=aK;clear aA aC aD aK;(try clear hb);(try clear hb2);(try clear hk);(try clear hi);have pZ:mV.cell? ⟨uU,0,none⟩=some (.int .i64 0):=(ag yy.out 0).trans rfl;have qa:mV.cell? ⟨uU,1,none⟩=some (.int .i64 0):=(ag yy.out 1).trans rfl;have qb:=af yy.out 0;have qc:=af yy.out 1))
 refine bodyPost_ret (results_cell_row rfl _ _ uU 34 #[.int .i64 Wb,.int .i64 a1E] (0,0) _ rfl (by (with_reducible repeat (first|refine aq ?_ _|refine ak ?_|refine ai ?_ _));refine bh (cs:= #[.int .i64 Wb,.int .i64 0]) ?_ 1 _ rfl;(with_reducible repeat (first|refine aq ?_ _|refine ak ?_|refine ai ?_ _));refine bh (cs:= #[.int .i64 0,.int .i64 0]) ?_ 0 _ rfl;(with_reducible repeat (first|refine aq ?_ _|refine ak ?_|refine ai ?_ _));exact yy.out) Try.underlying34 rfl (by kernel_rfl)) rfl ?_
 exact ⟨by first|rfl|(simp [aX,aY]<;>rfl)|(simp [*,aX,aY]<;>rfl),ay⟩
def sk.f (aM:Int) (aJ:Int):Option (Int):=some (mn (mx aM (-1)) 1)
set_option maxHeartbeats 8000000 in
set_option maxRecDepth 100000 in
theorem sk.calls (aM:Int) (aJ:Int) (r:Int) (w:World) (h:sk.f aM aJ=some r):
 Calls Try.prog 114 #[.agg #[.int .i64 aM,.int .i64 aJ]] w fun e w'=>e= .returned (.int .i64 r)/\Below w.heap.size w w':=by
 have lB:=Try.underlying34
 have HB:=Aside0.mk (Below.refl w.heap.size w)
 have H:(some (mn (mx aM (-1)) 1))=some r:=h
 clear h
 obtain ⟨Yw,Wc⟩:∃j_:Int,(mx aM (-1))=j_:=⟨_,rfl⟩
 replace H:(some (mn (Yw) 1))=some r:=by first|(rw [Wc] at H;exact H)|(simp only [Wc] at H⊢;exact H)
 have hji2_:(if aM<(-1) then (-1) else aM)=Yw:=Wc
 obtain ⟨ji3,Wd⟩:∃j_:Int,(mn (Yw) 1)=j_:=⟨_,rfl⟩
 replace H:(some ji3)=some r:=by first|(rw [Wd] at H;exact H)|(simp only [Wd] at H⊢;exact H)
 have hji3_:(if 1<(Yw) then 1 else (Yw))=ji3:=Wd
 obtain rfl:=Option.some.inj H
 go_enter Try.func114,Try.ntmps114
 go_wp2_with (first|((with_reducible refine bn (N:=1) rfl ?_);refine bq ?hg (N:=1) ?hd (cs:= #[.int .i64 aM,.int .i64 aJ]) (t:=34) ?hr ?_;(case hd=>rfl);(case hg=>rfl);(case hr=>first|(go_simp;done)|(go_simp;rfl));intro OG hg w4 aU hb;have aA:=Aside0.mk (ah ay hb);have aC:=Aside0.mk (aU);have aD:=Aside0.mk ((by rw [hg];exact (ax ay):w.heap.size<=OG));have aK:=Aside0.mk ((by rw [hg];exact (ax ay):w.heap.size<=OG));clear HB;have HB:=aA;have OH:=aC;have GW615:=aD;have GE615:=aK;clear aA aC aD aK;clear hb aU hg;have Iw:w4.cell? ⟨OG,0,none⟩=some (.int .i64 aM):=(ag OH.out 0).trans rfl;have Ix:w4.cell? ⟨OG,1,none⟩=some (.int .i64 aJ):=(ag OH.out 1).trans rfl;have Iy:=af OH.out 0;have Iz:=af OH.out 1))
 go_ret
 exact ⟨by first|rfl|(simp [aX,aY]<;>rfl)|(simp only [<-Wc,<-Wd];first|rfl|(simp [aX,aY]<;>rfl))|(simp [*,aX,aY]<;>rfl),ay⟩
def mL.f (k:Nat) (aM:Int) (aJ:Int) (bw:Int) (bk:Int):Option (Int×Int):=(cj.f k aM aJ).bind fun KX=>(if KX=true then ((cj.f k bw bk).bind fun zb=>(if zb=true then ((bJ.f k (wrap64 ((wrap64 (aM*bk))+(wrap64 (bw*aJ)))) (wrap64 (aJ*bk))).bind fun nI=>(some (nI.1,nI.2))) else (some (0,0)))) else (some (0,0)))
theorem mL.mono:∀a0 a1 a2 a3 k,aR (mL.f k a0 a1 a2 a3) (mL.f (k+1) a0 a1 a2 a3):=by
 intro a0 a1 a2 a3 k
 unfold mL.f
 repeat' first
  |(with_reducible exact cj.mono _ _ _)
  |(with_reducible exact bJ.mono _ _ _)
  |(with_reducible exact aR.refl _)
  |(with_reducible exact aR.none _)
  |(with_reducible refine aR.ite ?_ ?_)
  |(with_reducible refine aR.bind ?_ (fun _=>?_))
set_option maxHeartbeats 8000000 in
set_option maxRecDepth 100000 in
theorem mL.calls (k:Nat) (aM:Int) (aJ:Int) (bw:Int) (bk:Int) (r1:Int) (r2:Int) (w:World) (h:mL.f k aM aJ bw bk=some (r1,r2)):
 Calls Try.prog 76 #[.agg #[.int .i64 aM,.int .i64 aJ],.agg #[.int .i64 bw,.int .i64 bk]] w fun e w'=>e= .returned (.agg #[.int .i64 r1,.int .i64 r2])/\Below w.heap.size w w':=by
 have lB:=Try.underlying34
 have HB:=Aside0.mk (Below.refl w.heap.size w)
 have H:((cj.f k aM aJ).bind fun KX=>(if KX=true then ((cj.f k bw bk).bind fun zb=>(if zb=true then ((bJ.f k (wrap64 ((wrap64 (aM*bk))+(wrap64 (bw*aJ)))) (wrap64 (aJ*bk))).bind fun nI=>(some (nI.1,nI.2))) else (some (0,0)))) else (some (0,0))))=some (r1,r2):=h
 clear h
 replace H:=Option.bind_eq_some_iff.mp H
 obtain ⟨KX,jx,H⟩:=H
 replace H:(if KX=true then ((cj.f k bw bk).bind fun zb=>(if zb=true then ((bJ.f k (wrap64 ((wrap64 (aM*bk))+(wrap64 (bw*aJ)))) (wrap64 (aJ*bk))).bind fun nI=>(some (nI.1,nI.2))) else (some (0,0)))) else (some (0,0)))=some (r1,r2):=H
 have A3:=Aside0.mk jx
 clear jx
 by_cases c4:KX=true
 ·subst c4
  have H1:((cj.f k bw bk).bind fun zb=>(if zb=true then ((bJ.f k (wrap64 ((wrap64 (aM*bk))+(wrap64 (bw*aJ)))) (wrap64 (aJ*bk))).bind fun nI=>(some (nI.1,nI.2))) else (some (0,0))))=some (r1,r2):=by rw [if_pos rfl] at H;exact H
  clear H
  have H:=H1
  clear H1
  replace H:=Option.bind_eq_some_iff.mp H
  obtain ⟨zb,yz,H⟩:=H
  replace H:(if zb=true then ((bJ.f k (wrap64 ((wrap64 (aM*bk))+(wrap64 (bw*aJ)))) (wrap64 (aJ*bk))).bind fun nI=>(some (nI.1,nI.2))) else (some (0,0)))=some (r1,r2):=H
  have A5:=Aside0.mk yz
  clear yz
  by_cases c6:zb=true
  ·subst c6
   have H1:((bJ.f k (wrap64 ((wrap64 (aM*bk))+(wrap64 (bw*aJ)))) (wrap64 (aJ*bk))).bind fun nI=>(some (nI.1,nI.2)))=some (r1,r2):=by rw [if_pos rfl] at H;exact H
   clear H
   have H:=H1
   clear H1
   replace H:=Option.bind_eq_some_iff.mp H
   obtain ⟨⟨We,a1F⟩,CC,H⟩:=H
   replace H:(some (We,a1F))=some (r1,r2):=H
   have A7:=Aside0.mk CC
   clear CC
   simp only [Option.some.injEq,Prod.mk.injEq] at H
   obtain ⟨rfl,rfl⟩:=H
   go_enter Try.func76,Try.ntmps76
   go_wp2_with (first|((with_reducible refine bn (N:=2) rfl ?_);refine bq ?hg (N:=2) ?hd (cs:= #[.int .i64 aM,.int .i64 aJ]) (t:=34) ?hr ?_;(case hd=>rfl);(case hg=>rfl);(case hr=>first|(go_simp;done)|(go_simp;rfl));intro dZ hg w8 aU hb;have aA:=Aside0.mk (ah ay hb);have aC:=Aside0.mk (aU);have aD:=Aside0.mk ((by rw [hg];exact (ax ay):w.heap.size<=dZ));have aK:=Aside0.mk ((by rw [hg];exact (ax ay):w.heap.size<=dZ));clear HB;have HB:=aA;have dr:=aC;have a4j:=aD;have a4k:=aK;clear aA aC aD aK;clear hb aU hg)|((with_reducible refine bn (N:=3) rfl ?_);refine bq ?hg (N:=3) ?hd (cs:= #[.int .i64 bw,.int .i64 bk]) (t:=34) ?hr ?_;(case hd=>rfl);(case hg=>rfl);(case hr=>first|(go_simp;done)|(go_simp;rfl));intro fF hg w9 aU hb;have aA:=Aside0.mk (aj (g:=dZ) (o:= .cells #[.int .i64 aM,.int .i64 aJ] 34 (0,0)) (aH dr) hb);have aC:=Aside0.mk (ah ay hb);have aD:=Aside0.mk (aU);have aK:=Aside0.mk ((by rw [hg];exact (ax ay):w.heap.size<=fF));have bF:=Aside0.mk ((by rw [hg];exact (ax ay):w.heap.size<=fF));have bS:=Aside0.mk ((by rw [hg];exact Nat.ne_of_lt (bf (g:=dZ) (o:= .cells #[.int .i64 aM,.int .i64 aJ] 34 (0,0)) (aH dr)):dZ≠fF));have bY:=Aside0.mk ((by rw [hg];exact Nat.ne_of_gt (bf (g:=dZ) (o:= .cells #[.int .i64 aM,.int .i64 aJ] 34 (0,0)) (aH dr)):fF≠dZ));clear dr;clear HB;have dr:=aA;have HB:=aC;have eE:=aD;have a4l:=aK;have a4m:=bF;have vJ:=bS;have vK:=bY;clear aA aC aD aK bF bS bY;clear hb aU hg)|((with_reducible refine bn (N:=4) rfl ?_);refine bq ?hg (N:=4) ?hd (cs:= #[.int .i64 0,.int .i64 0]) (t:=34) ?hr ?_;(case hd=>rfl);(case hg=>rfl);(case hr=>first|(go_simp;done)|(go_simp;rfl));intro gu hg mU aU hb;have aA:=Aside0.mk (aj (g:=dZ) (o:= .cells #[.int .i64 aM,.int .i64 aJ] 34 (0,0)) (aH dr) hb);have aC:=Aside0.mk (aj (g:=fF) (o:= .cells #[.int .i64 bw,.int .i64 bk] 34 (0,0)) (aH eE) hb);have aD:=Aside0.mk (ah ay hb);have aK:=Aside0.mk (aU);have bF:=Aside0.mk ((by rw [hg];exact (ax ay):w.heap.size<=gu));have bS:=Aside0.mk ((by rw [hg];exact (ax ay):w.heap.size<=gu));have bY:=Aside0.mk ((by rw [hg];exact Nat.ne_of_lt (bf (g:=dZ) (o:= .cells #[.int .i64 aM,.int .i64 aJ] 34 (0,0)) (aH dr)):dZ≠gu));have eX:=Aside0.mk ((by rw [hg];exact Nat.ne_of_gt (bf (g:=dZ) (o:= .cells #[.int .i64 aM,.int .i64 aJ] 34 (0,0)) (aH dr)):gu≠dZ));have fY:=Aside0.mk ((by rw [hg];exact Nat.ne_of_lt (bf (g:=fF) (o:= .cells #[.int .i64 bw,.int .i64 bk] 34 (0,0)) (aH eE)):fF≠gu));have gT:=Aside0.mk ((by rw [hg];exact Nat.ne_of_gt (bf (g:=fF) (o:= .cells #[.int .i64 bw,.int .i64 bk] 34 (0,0)) (aH eE)):gu≠fF));clear dr;clear eE;clear HB;have dr:=aA;have eE:=aC;have HB:=aD;have gv:=aK;have a4n:=bF;have a4o:=bS;have vL:=bY;have vM:=eX;have vN:=fY;have vO:=gT;clear aA aC aD aK bF bS bY eX fY gT;clear hb aU hg;have Wf:=vJ.out;have Wh:=vK.out;have Wi:=vL.out;have Wj:=vM.out;have pZ:mU.cell? ⟨dZ,0,none⟩=some (.int .i64 aM):=(ag dr.out 0).trans rfl;have qa:mU.cell? ⟨dZ,1,none⟩=some (.int .i64 aJ):=(ag dr.out 1).trans rfl;have qb:=af dr.out 0;have qc:=af dr.out 1)|((with_reducible refine aV (f:=80) rfl ?_);refine bH (some 6) rfl rfl Try.func80 (by kernel_rfl) rfl #[.agg #[.int .i64 aM,.int .i64 aJ]] rfl (by (try simp only [List.map_toArray,List.map_cons,List.map_nil]);first|done|rfl|(simp only [List.length_drop,List.length_take];rfl)) ?_;(with_reducible refine (cj.calls k aM aJ true _ A3.out).mono ?_);rintro e TI ⟨rfl,hb⟩;refine ⟨_,rfl,?_⟩;have aA:=Aside0.mk (aj (g:=dZ) (o:= .cells #[.int .i64 aM,.int .i64 aJ] 34 (0,0)) (aH dr) hb);have aC:=Aside0.mk (aj (g:=fF) (o:= .cells #[.int .i64 bw,.int .i64 bk] 34 (0,0)) (aH eE) hb);have aD:=Aside0.mk (aj (g:=gu) (o:= .cells #[.int .i64 0,.int .i64 0] 34 (0,0)) (aH gv) hb);have aK:=Aside0.mk (ah ay hb);clear dr;clear eE;clear gv;clear HB;have dr:=aA;have eE:=aC;have gv:=aD;have HB:=aK;clear aA aC aD aK;(try clear hb);(try clear hb2);(try clear hk);(try clear hi);have a4p:=vN.out;have a4q:=vO.out;have KY:TI.cell? ⟨fF,0,none⟩=some (.int .i64 bw):=(ag eE.out 0).trans rfl;have KZ:TI.cell? ⟨fF,1,none⟩=some (.int .i64 bk):=(ag eE.out 1).trans rfl;have La:=af eE.out 0;have Lb:=af eE.out 1)|(go_at_call 80;(with_reducible refine (cj.calls k bw bk true _ A5.out).mono ?_);rintro e sX ⟨rfl,hb⟩;have aA:=Aside0.mk (aj (g:=dZ) (o:= .cells #[.int .i64 aM,.int .i64 aJ] 34 (0,0)) (aH dr) hb);have aC:=Aside0.mk (aj (g:=fF) (o:= .cells #[.int .i64 bw,.int .i64 bk] 34 (0,0)) (aH eE) hb);have aD:=Aside0.mk (aj (g:=gu) (o:= .cells #[.int .i64 0,.int .i64 0] 34 (0,0)) (aH gv) hb);have aK:=Aside0.mk (ah ay hb);clear dr;clear eE;clear gv;clear HB;have dr:=aA;have eE:=aC;have gv:=aD;have HB:=aK;clear aA aC aD aK;(try clear hb);(try clear hb2);(try clear hk);(try clear hi);have DW:sX.cell? ⟨dZ,0,none⟩=some (.int .i64 aM):=(ag dr.out 0).trans rfl;have DX:sX.cell? ⟨dZ,1,none⟩=some (.int .i64 aJ):=(ag dr.out 1).trans rfl;have DY:=af dr.out 0;have DZ:=af dr.out 1;have Lc:sX.cell? ⟨fF,0,none⟩=some (.int .i64 bw):=(ag eE.out 0).trans rfl;have Ld:sX.cell? ⟨fF,1,none⟩=some (.int .i64 bk):=(ag eE.out 1).trans rfl;have Le:=af eE.out 0;have Lf:=af eE.out 1)|((with_reducible refine aV (f:=87) rfl ?_);refine bH (some 30) rfl rfl Try.func87 (by kernel_rfl) rfl #[.int .i64 (wrap64 ((wrap64 (aM*bk))+(wrap64 (bw*aJ)))),.int .i64 (wrap64 (aJ*bk))] rfl (by (try simp only [List.map_toArray,List.map_cons,List.map_nil]);first|done|rfl|(simp only [List.length_drop,List.length_take];rfl)) ?_;(with_reducible refine (bJ.calls k (wrap64 ((wrap64 (aM*bk))+(wrap64 (bw*aJ)))) (wrap64 (aJ*bk)) We a1F _ A7.out).mono ?_);rintro e BI ⟨rfl,hb⟩;refine ⟨_,rfl,?_⟩;have aA:=Aside0.mk (aj (g:=dZ) (o:= .cells #[.int .i64 aM,.int .i64 aJ] 34 (0,0)) (aH dr) hb);have aC:=Aside0.mk (aj (g:=fF) (o:= .cells #[.int .i64 bw,.int .i64 bk] 34 (0,0)) (aH eE) hb);have aD:=Aside0.mk (aj (g:=gu) (o:= .cells #[.int .i64 0,.int .i64 0] 34 (0,0)) (aH gv) hb);have aK:=Aside0.mk (ah ay hb);clear dr;clear eE;clear gv;clear HB;have dr:=aA;have eE:=aC;have gv:=aD;have HB:=aK;clear aA aC aD aK;(try clear hb);(try clear hb2);(try clear hk);(try clear hi);have zJ:BI.cell? ⟨gu,0,none⟩=some (.int .i64 0):=(ag gv.out 0).trans rfl;have zK:BI.cell? ⟨gu,1,none⟩=some (.int .i64 0):=(ag gv.out 1).trans rfl;have zL:=af gv.out 0;have zM:=af gv.out 1))
   refine bodyPost_ret (results_cell_row rfl _ _ gu 34 #[.int .i64 We,.int .i64 a1F] (0,0) _ rfl (by (with_reducible repeat (first|refine aq ?_ _|refine ak ?_|refine ai ?_ _));refine bh (cs:= #[.int .i64 We,.int .i64 0]) ?_ 1 _ rfl;(with_reducible repeat (first|refine aq ?_ _|refine ak ?_|refine ai ?_ _));refine bh (cs:= #[.int .i64 0,.int .i64 0]) ?_ 0 _ rfl;(with_reducible repeat (first|refine aq ?_ _|refine ak ?_|refine ai ?_ _));exact gv.out) Try.underlying34 rfl (by kernel_rfl)) rfl ?_
   exact ⟨by first|rfl|(simp [aX,aY]<;>rfl)|(simp [*,aX,aY]<;>rfl),ay⟩
  ·replace c6:=Bool.eq_false_iff.mpr c6
   subst c6
   have H1:(some (0,0))=some (r1,r2):=by rw [if_neg (show ¬(false=true) by decide)] at H;exact H
   clear H
   have H:=H1
   clear H1
   simp only [Option.some.injEq,Prod.mk.injEq] at H
   obtain ⟨rfl,rfl⟩:=H
   go_enter Try.func76,Try.ntmps76
   go_wp2_with (first|((with_reducible refine bn (N:=2) rfl ?_);refine bq ?hg (N:=2) ?hd (cs:= #[.int .i64 aM,.int .i64 aJ]) (t:=34) ?hr ?_;(case hd=>rfl);(case hg=>rfl);(case hr=>first|(go_simp;done)|(go_simp;rfl));intro dZ hg nh aU hb;have aA:=Aside0.mk (ah ay hb);have aC:=Aside0.mk (aU);have aD:=Aside0.mk ((by rw [hg];exact (ax ay):w.heap.size<=dZ));have aK:=Aside0.mk ((by rw [hg];exact (ax ay):w.heap.size<=dZ));clear HB;have HB:=aA;have dr:=aC;have a4j:=aD;have a4k:=aK;clear aA aC aD aK;clear hb aU hg)|((with_reducible refine bn (N:=3) rfl ?_);refine bq ?hg (N:=3) ?hd (cs:= #[.int .i64 bw,.int .i64 bk]) (t:=34) ?hr ?_;(case hd=>rfl);(case hg=>rfl);(case hr=>first|(go_simp;done)|(go_simp;rfl));intro fF hg TJ aU hb;have aA:=Aside0.mk (aj (g:=dZ) (o:= .cells #[.int .i64 aM,.int .i64 aJ] 34 (0,0)) (aH dr) hb);have aC:=Aside0.mk (ah ay hb);have aD:=Aside0.mk (aU);have aK:=Aside0.mk ((by rw [hg];exact (ax ay):w.heap.size<=fF));have bF:=Aside0.mk ((by rw [hg];exact (ax ay):w.heap.size<=fF));have bS:=Aside0.mk ((by rw [hg];exact Nat.ne_of_lt (bf (g:=dZ) (o:= .cells #[.int .i64 aM,.int .i64 aJ] 34 (0,0)) (aH dr)):dZ≠fF));have bY:=Aside0.mk ((by rw [hg];exact Nat.ne_of_gt (bf (g:=dZ) (o:= .cells #[.int .i64 aM,.int .i64 aJ] 34 (0,0)) (aH dr)):fF≠dZ));clear dr;clear HB;have dr:=aA;have HB:=aC;have eE:=aD;have a4l:=aK;have a4m:=bF;have vJ:=bS;have vK:=bY;clear aA aC aD aK bF bS bY;clear hb aU hg)|((with_reducible refine bn (N:=4) rfl ?_);refine bq ?hg (N:=4) ?hd (cs:= #[.int .i64 0,.int .i64 0]) (t:=34) ?hr ?_;(case hd=>rfl);(case hg=>rfl);(case hr=>first|(go_simp;done)|(go_simp;rfl));intro gu hg w24 aU hb;have aA:=Aside0.mk (aj (g:=dZ) (o:= .cells #[.int .i64 aM,.int .i64 aJ] 34 (0,0)) (aH dr) hb);have aC:=Aside0.mk (aj (g:=fF) (o:= .cells #[.int .i64 bw,.int .i64 bk] 34 (0,0)) (aH eE) hb);have aD:=Aside0.mk (ah ay hb);have aK:=Aside0.mk (aU);have bF:=Aside0.mk ((by rw [hg];exact (ax ay):w.heap.size<=gu));have bS:=Aside0.mk ((by rw [hg];exact (ax ay):w.heap.size<=gu));have bY:=Aside0.mk ((by rw [hg];exact Nat.ne_of_lt (bf (g:=dZ) (o:= .cells #[.int .i64 aM,.int .i64 aJ] 34 (0,0)) (aH dr)):dZ≠gu));have eX:=Aside0.mk ((by rw [hg];exact Nat.ne_of_gt (bf (g:=dZ) (o:= .cells #[.int .i64 aM,.int .i64 aJ] 34 (0,0)) (aH dr)):gu≠dZ));have fY:=Aside0.mk ((by rw [hg];exact Nat.ne_of_lt (bf (g:=fF) (o:= .cells #[.int .i64 bw,.int .i64 bk] 34 (0,0)) (aH eE)):fF≠gu));have gT:=Aside0.mk ((by rw [hg];exact Nat.ne_of_gt (bf (g:=fF) (o:= .cells #[.int .i64 bw,.int .i64 bk] 34 (0,0)) (aH eE)):gu≠fF));clear dr;clear eE;clear HB;have dr:=aA;have eE:=aC;have HB:=aD;have gv:=aK;have a4n:=bF;have a4o:=bS;have vL:=bY;have vM:=eX;have vN:=fY;have vO:=gT;clear aA aC aD aK bF bS bY eX fY gT;clear hb aU hg;have b2G:=vJ.out;have b2H:=vK.out;have hnb26:=vL.out;have hnc26:=vM.out;have TK:w24.cell? ⟨dZ,0,none⟩=some (.int .i64 aM):=(ag dr.out 0).trans rfl;have TL:w24.cell? ⟨dZ,1,none⟩=some (.int .i64 aJ):=(ag dr.out 1).trans rfl;have TM:=af dr.out 0;have TN:=af dr.out 1)|((with_reducible refine aV (f:=80) rfl ?_);refine bH (some 6) rfl rfl Try.func80 (by kernel_rfl) rfl #[.agg #[.int .i64 aM,.int .i64 aJ]] rfl (by (try simp only [List.map_toArray,List.map_cons,List.map_nil]);first|done|rfl|(simp only [List.length_drop,List.length_take];rfl)) ?_;(with_reducible refine (cj.calls k aM aJ true _ A3.out).mono ?_);rintro e Yx ⟨rfl,hb⟩;refine ⟨_,rfl,?_⟩;have aA:=Aside0.mk (aj (g:=dZ) (o:= .cells #[.int .i64 aM,.int .i64 aJ] 34 (0,0)) (aH dr) hb);have aC:=Aside0.mk (aj (g:=fF) (o:= .cells #[.int .i64 bw,.int .i64 bk] 34 (0,0)) (aH eE) hb);have aD:=Aside0.mk (aj (g:=gu) (o:= .cells #[.int .i64 0,.int .i64 0] 34 (0,0)) (aH gv) hb);have aK:=Aside0.mk (ah ay hb);clear dr;clear eE;clear gv;clear HB;have dr:=aA;have eE:=aC;have gv:=aD;have HB:=aK;clear aA aC aD aK;(try clear hb);(try clear hb2);(try clear hk);(try clear hi);have hnb29:=vN.out;have hnc29:=vO.out;have hcz30_0:Yx.cell? ⟨fF,0,none⟩=some (.int .i64 bw):=(ag eE.out 0).trans rfl;have hcz30_1:Yx.cell? ⟨fF,1,none⟩=some (.int .i64 bk):=(ag eE.out 1).trans rfl;have hfz30_0:=af eE.out 0;have hfz30_1:=af eE.out 1)|(go_at_call 80;(with_reducible refine (cj.calls k bw bk false _ A5.out).mono ?_);rintro e w31 ⟨rfl,hb⟩;have aA:=Aside0.mk (aj (g:=dZ) (o:= .cells #[.int .i64 aM,.int .i64 aJ] 34 (0,0)) (aH dr) hb);have aC:=Aside0.mk (aj (g:=fF) (o:= .cells #[.int .i64 bw,.int .i64 bk] 34 (0,0)) (aH eE) hb);have aD:=Aside0.mk (aj (g:=gu) (o:= .cells #[.int .i64 0,.int .i64 0] 34 (0,0)) (aH gv) hb);have aK:=Aside0.mk (ah ay hb);clear dr;clear eE;clear gv;clear HB;have dr:=aA;have eE:=aC;have gv:=aD;have HB:=aK;clear aA aC aD aK;(try clear hb);(try clear hb2);(try clear hk);(try clear hi);have TP:w31.cell? ⟨gu,0,none⟩=some (.int .i64 0):=(ag gv.out 0).trans rfl;have TQ:w31.cell? ⟨gu,1,none⟩=some (.int .i64 0):=(ag gv.out 1).trans rfl;have TR:=af gv.out 0;have TS:=af gv.out 1))
   refine bodyPost_ret (results_cell_row rfl _ _ gu 34 #[.int .i64 0,.int .i64 0] (0,0) _ rfl (by (with_reducible repeat (first|refine aq ?_ _|refine ak ?_|refine ai ?_ _));refine bh (cs:= #[.int .i64 0,.int .i64 0]) ?_ 1 _ rfl;(with_reducible repeat (first|refine aq ?_ _|refine ak ?_|refine ai ?_ _));refine bh (cs:= #[.int .i64 0,.int .i64 0]) ?_ 0 _ rfl;(with_reducible repeat (first|refine aq ?_ _|refine ak ?_|refine ai ?_ _));exact gv.out) Try.underlying34 rfl (by kernel_rfl)) rfl ?_
   exact ⟨by first|rfl|(simp [aX,aY]<;>rfl)|(simp [*,aX,aY]<;>rfl),ay⟩
 ·replace c4:=Bool.eq_false_iff.mpr c4
  subst c4
  have H1:(some (0,0))=some (r1,r2):=by rw [if_neg (show ¬(false=true) by decide)] at H;exact H
  clear H
  have H:=H1
  clear H1
  simp only [Option.some.injEq,Prod.mk.injEq] at H
  obtain ⟨rfl,rfl⟩:=H
  go_enter Try.func76,Try.ntmps76
  go_wp2_with (first|((with_reducible refine bn (N:=2) rfl ?_);refine bq ?hg (N:=2) ?hd (cs:= #[.int .i64 aM,.int .i64 aJ]) (t:=34) ?hr ?_;(case hd=>rfl);(case hg=>rfl);(case hr=>first|(go_simp;done)|(go_simp;rfl));intro dZ hg Qa aU hb;have aA:=Aside0.mk (ah ay hb);have aC:=Aside0.mk (aU);have aD:=Aside0.mk ((by rw [hg];exact (ax ay):w.heap.size<=dZ));have aK:=Aside0.mk ((by rw [hg];exact (ax ay):w.heap.size<=dZ));clear HB;have HB:=aA;have dr:=aC;have a4j:=aD;have a4k:=aK;clear aA aC aD aK;clear hb aU hg)|((with_reducible refine bn (N:=3) rfl ?_);refine bq ?hg (N:=3) ?hd (cs:= #[.int .i64 bw,.int .i64 bk]) (t:=34) ?hr ?_;(case hd=>rfl);(case hg=>rfl);(case hr=>first|(go_simp;done)|(go_simp;rfl));intro fF hg w34 aU hb;have aA:=Aside0.mk (aj (g:=dZ) (o:= .cells #[.int .i64 aM,.int .i64 aJ] 34 (0,0)) (aH dr) hb);have aC:=Aside0.mk (ah ay hb);have aD:=Aside0.mk (aU);have aK:=Aside0.mk ((by rw [hg];exact (ax ay):w.heap.size<=fF));have bF:=Aside0.mk ((by rw [hg];exact (ax ay):w.heap.size<=fF));have bS:=Aside0.mk ((by rw [hg];exact Nat.ne_of_lt (bf (g:=dZ) (o:= .cells #[.int .i64 aM,.int .i64 aJ] 34 (0,0)) (aH dr)):dZ≠fF));have bY:=Aside0.mk ((by rw [hg];exact Nat.ne_of_gt (bf (g:=dZ) (o:= .cells #[.int .i64 aM,.int .i64 aJ] 34 (0,0)) (aH dr)):fF≠dZ));clear dr;clear HB;have dr:=aA;have HB:=aC;have eE:=aD;have a4l:=aK;have a4m:=bF;have vJ:=bS;have vK:=bY;clear aA aC aD aK bF bS bY;clear hb aU hg)|((with_reducible refine bn (N:=4) rfl ?_);refine bq ?hg (N:=4) ?hd (cs:= #[.int .i64 0,.int .i64 0]) (t:=34) ?hr ?_;(case hd=>rfl);(case hg=>rfl);(case hr=>first|(go_simp;done)|(go_simp;rfl));intro gu hg BJ aU hb;have aA:=Aside0.mk (aj (g:=dZ) (o:= .cells #[.int .i64 aM,.int .i64 aJ] 34 (0,0)) (aH dr) hb);have aC:=Aside0.mk (aj (g:=fF) (o:= .cells #[.int .i64 bw,.int .i64 bk] 34 (0,0)) (aH eE) hb);have aD:=Aside0.mk (ah ay hb);have aK:=Aside0.mk (aU);have bF:=Aside0.mk ((by rw [hg];exact (ax ay):w.heap.size<=gu));have bS:=Aside0.mk ((by rw [hg];exact (ax ay):w.heap.size<=gu));have bY:=Aside0.mk ((by rw [hg];exact Nat.ne_of_lt (bf (g:=dZ) (o:= .cells #[.int .i64 aM,.int .i64 aJ] 34 (0,0)) (aH dr)):dZ≠gu));have eX:=Aside0.mk ((by rw [hg];exact Nat.ne_of_gt (bf (g:=dZ) (o:= .cells #[.int .i64 aM,.int .i64 aJ] 34 (0,0)) (aH dr)):gu≠dZ));have fY:=Aside0.mk ((by rw [hg];exact Nat.ne_of_lt (bf (g:=fF) (o:= .cells #[.int .i64 bw,.int .i64 bk] 34 (0,0)) (aH eE)):fF≠gu));have gT:=Aside0.mk ((by rw [hg];exact Nat.ne_of_gt (bf (g:=fF) (o:= .cells #[.int .i64 bw,.int .i64 bk] 34 (0,0)) (aH eE)):gu≠fF));clear dr;clear eE;clear HB;have dr:=aA;have eE:=aC;have HB:=aD;have gv:=aK;have a4n:=bF;have a4o:=bS;have vL:=bY;have vM:=eX;have vN:=fY;have vO:=gT;clear aA aC aD aK bF bS bY eX fY gT;clear hb aU hg;have b2K:=vJ.out;have b2L:=vK.out;have hnb37:=vL.out;have hnc37:=vM.out;have TT:BJ.cell? ⟨dZ,0,none⟩=some (.int .i64 aM):=(ag dr.out 0).trans rfl;have TU:BJ.cell? ⟨dZ,1,none⟩=some (.int .i64 aJ):=(ag dr.out 1).trans rfl;have TV:=af dr.out 0;have TW:=af dr.out 1)|((with_reducible refine aV (f:=80) rfl ?_);refine bH (some 6) rfl rfl Try.func80 (by kernel_rfl) rfl #[.agg #[.int .i64 aM,.int .i64 aJ]] rfl (by (try simp only [List.map_toArray,List.map_cons,List.map_nil]);first|done|rfl|(simp only [List.length_drop,List.length_take];rfl)) ?_;(with_reducible refine (cj.calls k aM aJ false _ A3.out).mono ?_);rintro e Qb ⟨rfl,hb⟩;refine ⟨_,rfl,?_⟩;have aA:=Aside0.mk (aj (g:=dZ) (o:= .cells #[.int .i64 aM,.int .i64 aJ] 34 (0,0)) (aH dr) hb);have aC:=Aside0.mk (aj (g:=fF) (o:= .cells #[.int .i64 bw,.int .i64 bk] 34 (0,0)) (aH eE) hb);have aD:=Aside0.mk (aj (g:=gu) (o:= .cells #[.int .i64 0,.int .i64 0] 34 (0,0)) (aH gv) hb);have aK:=Aside0.mk (ah ay hb);clear dr;clear eE;clear gv;clear HB;have dr:=aA;have eE:=aC;have gv:=aD;have HB:=aK;clear aA aC aD aK;(try clear hb);(try clear hb2);(try clear hk);(try clear hi);have hnb40:=vO.out;have hnc40:=vN.out;have KT:Qb.cell? ⟨gu,0,none⟩=some (.int .i64 0):=(ag gv.out 0).trans rfl;have KU:Qb.cell? ⟨gu,1,none⟩=some (.int .i64 0):=(ag gv.out 1).trans rfl;have KV:=af gv.out 0;have KW:=af gv.out 1))
  refine bodyPost_ret (results_cell_row rfl _ _ gu 34 #[.int .i64 0,.int .i64 0] (0,0) _ rfl (by (with_reducible repeat (first|refine aq ?_ _|refine ak ?_|refine ai ?_ _));refine bh (cs:= #[.int .i64 0,.int .i64 0]) ?_ 1 _ rfl;(with_reducible repeat (first|refine aq ?_ _|refine ak ?_|refine ai ?_ _));refine bh (cs:= #[.int .i64 0,.int .i64 0]) ?_ 0 _ rfl;(with_reducible repeat (first|refine aq ?_ _|refine ak ?_|refine ai ?_ _));exact gv.out) Try.underlying34 rfl (by kernel_rfl)) rfl ?_
  exact ⟨by first|rfl|(simp [aX,aY]<;>rfl)|(simp [*,aX,aY]<;>rfl),ay⟩
def xg.f (a0:Int):Option (Int×Int):=some (a0,1)
set_option maxHeartbeats 8000000 in
set_option maxRecDepth 100000 in
theorem xg.calls (a0:Int) (r1:Int) (r2:Int) (w:World) (h:xg.f a0=some (r1,r2)):
 Calls Try.prog 75 #[.int .i64 a0] w fun e w'=>e= .returned (.agg #[.int .i64 r1,.int .i64 r2])/\Below w.heap.size w w':=by
 have lB:=Try.underlying34
 have HB:=Aside0.mk (Below.refl w.heap.size w)
 have H:(some (a0,1))=some (r1,r2):=h
 clear h
 simp only [Option.some.injEq,Prod.mk.injEq] at H
 obtain ⟨rfl,rfl⟩:=H
 go_enter Try.func75,Try.ntmps75
 go_wp2_with (first|((with_reducible refine bn (N:=2) rfl ?_);refine bq ?hg (N:=2) ?hd (cs:= #[.int .i64 0,.int .i64 0]) (t:=34) ?hr ?_;(case hd=>rfl);(case hg=>rfl);(case hr=>first|(go_simp;done)|(go_simp;rfl));intro IA hg w2 aU hb;have aA:=Aside0.mk (ah ay hb);have aC:=Aside0.mk (aU);have aD:=Aside0.mk ((by rw [hg];exact (ax ay):w.heap.size<=IA));have aK:=Aside0.mk ((by rw [hg];exact (ax ay):w.heap.size<=IA));clear HB;have HB:=aA;have IB:=aC;have GW367:=aD;have GE367:=aK;clear aA aC aD aK;clear hb aU hg;have hcz3_0:w2.cell? ⟨IA,0,none⟩=some (.int .i64 0):=(ag IB.out 0).trans rfl;have hcz3_1:w2.cell? ⟨IA,1,none⟩=some (.int .i64 0):=(ag IB.out 1).trans rfl;have hfz3_0:=af IB.out 0;have hfz3_1:=af IB.out 1))
 refine bodyPost_ret (results_cell_row rfl _ _ IA 34 #[.int .i64 a0,.int .i64 1] (0,0) _ rfl (by (with_reducible repeat (first|refine aq ?_ _|refine ak ?_|refine ai ?_ _));refine bh (cs:= #[.int .i64 a0,.int .i64 0]) ?_ 1 _ rfl;(with_reducible repeat (first|refine aq ?_ _|refine ak ?_|refine ai ?_ _));refine bh (cs:= #[.int .i64 0,.int .i64 0]) ?_ 0 _ rfl;(with_reducible repeat (first|refine aq ?_ _|refine ak ?_|refine ai ?_ _));exact IB.out) Try.underlying34 rfl (by kernel_rfl)) rfl ?_
 exact ⟨by first|rfl|(simp [aX,aY]<;>rfl)|(simp [*,aX,aY]<;>rfl),ay⟩
def er.f:Nat->Int->Int->Option (Int)
 |0,_,_=>none
 |k+1,a0,a1=>if a1=0 then (some a0) else ((er.f k a1 (Int.tmod a0 a1)).bind fun t134=>(some t134))
theorem er.cC:∀k,(∀y0 y1,aR (er.f k y0 y1) (er.f (k+1) y0 y1))
 |0=>fun _ _ r h=>by simp [er.f] at h
 |k+1=>by
  have dN:=er.cC k
  ·intro y0 y1
   unfold er.f
   repeat' first
   |(with_reducible exact dN _ _)
   |(with_reducible exact aR.refl _)
   |(with_reducible exact aR.none _)
   |(with_reducible refine aR.ite ?_ ?_)
   |(with_reducible refine aR.bind ?_ (fun _=>?_))
theorem er.mono:∀a0 a1 k,aR (er.f k a0 a1) (er.f (k+1) a0 a1):=by
 intro a0 a1 k
 have dN:=er.cC k
 exact dN a0 a1
set_option maxHeartbeats 8000000 in
set_option maxRecDepth 100000 in
theorem er.calls (k:Nat):∀(a0:Int) (a1:Int) (r:Int) (w:World) (h:er.f k a0 a1=some r),
 Calls Try.prog 94 #[.int .i64 a0,.int .i64 a1] w fun e w'=>e= .returned (.int .i64 r)/\aW w w':=by
 induction k using Nat.strongRecOn with
 |_ k ih=>
 intro a0 a1 r w h
 cases k with
 |zero=>exact absurd h (by simp [er.f])
 |succ k=>
 simp only [er.f] at h
 have H:(if a1=0 then (some a0) else ((er.f k a1 (Int.tmod a0 a1)).bind fun t134=>(some t134)))=some r:=h
 clear h
 by_cases c3:a1=0
 ·rw [if_pos c3] at H
  have iw:(a1==0)=true:=beq_iff_eq.mpr c3
  have oz:(a1 !=0)=false:=bne_eq_false_iff_eq.mpr c3
  clear c3
  obtain rfl:=Option.some.inj H
  go_enter Try.func94,Try.ntmps94
  go_wp2
  go_ret
  exact ⟨by first|rfl|(simp;done)|(simp [*];done),by repeat (first|exact aW.refl _|apply aW.step)⟩
 ·rw [if_neg c3] at H
  have iw:(a1==0)=false:=beq_eq_false_iff_ne.mpr c3
  have oz:(a1 !=0)=true:=bne_iff_ne.mpr c3
  replace H:=Option.bind_eq_some_iff.mp H
  obtain ⟨t134,vE,H⟩:=H
  replace H:(some t134)=some r:=H
  have A4:=Aside0.mk vE
  clear vE
  obtain rfl:=Option.some.inj H
  go_enter Try.func94,Try.ntmps94
  go_wp2_with (first|((with_reducible refine aV (f:=94) rfl ?_);refine bH (some 12) rfl rfl Try.func94 (by kernel_rfl) rfl #[.int .i64 a1,.int .i64 (Int.tmod a0 a1)] rfl (by (try simp only [List.map_toArray,List.map_cons,List.map_nil]);first|done|rfl|(simp only [List.length_drop,List.length_take];rfl)) ?_;(with_reducible refine (ih k (by omega) a1 (Int.tmod a0 a1) t134 _ A4.out).mono ?_);rintro e w' ⟨rfl,⟨nd,rfl⟩⟩;refine ⟨_,rfl,?_⟩))
  go_ret
  exact ⟨by first|rfl|(simp;done)|(simp [*];done),by repeat (first|exact aW.refl _|apply aW.step)⟩
def jm.f (a0:Int):Option (Int):=if a0<0 then (some (wrap64 (-a0))) else (some a0)
set_option maxHeartbeats 8000000 in
set_option maxRecDepth 100000 in
theorem jm.calls (a0:Int) (r:Int) (w:World) (h:jm.f a0=some r):
 Calls Try.prog 95 #[.int .i64 a0] w fun e w'=>e= .returned (.int .i64 r)/\aW w w':=by
 have H:(if a0<0 then (some (wrap64 (-a0))) else (some a0))=some r:=h
 clear h
 by_cases c2:a0<0
 ·rw [if_pos c2] at H
  have Bf:decide (a0<0)=true:=decide_eq_true c2
  clear c2
  obtain rfl:=Option.some.inj H
  go_enter Try.func95,Try.ntmps95
  go_wp2
  go_ret
  exact ⟨by first|rfl|(simp;done)|(simp [*];done),by repeat (first|exact aW.refl _|apply aW.step)⟩
 ·rw [if_neg c2] at H
  have Bf:decide (a0<0)=false:=decide_eq_false c2
  clear c2
  obtain rfl:=Option.some.inj H
  go_enter Try.func95,Try.ntmps95
  go_wp2
  go_ret
  exact ⟨by first|rfl|(simp;done)|(simp [*];done),by repeat (first|exact aW.refl _|apply aW.step)⟩
def cJ.f (k:Nat) (a0:Int) (a1:Int):Option (Int×Int):=(jm.f a0).bind fun wG=>((jm.f a1).bind fun uw=>((er.f k wG uw).bind fun t138=>(if a1<0 then (if (wrap64 (-t138))=0 then (none) else (some (wrap64 (Int.tdiv a0 (wrap64 (-t138))),wrap64 (Int.tdiv a1 (wrap64 (-t138)))))) else (if t138=0 then (none) else (some (wrap64 (Int.tdiv a0 t138),wrap64 (Int.tdiv a1 t138)))))))
theorem cJ.mono:∀a0 a1 k,aR (cJ.f k a0 a1) (cJ.f (k+1) a0 a1):=by
 intro a0 a1 k
 unfold cJ.f
 repeat' first
  |(with_reducible exact er.mono _ _ _)
  |(with_reducible exact aR.refl _)
  |(with_reducible exact aR.none _)
  |(with_reducible refine aR.ite ?_ ?_)
  |(with_reducible refine aR.bind ?_ (fun _=>?_))
def cJ.T4:Bool×List (List Nat×List Nat):=(true,[([],[]),([],[]),([0,1],[0,1]),([],[]),([],[]),([3,4],[3,4]),([2,5],[2,5]),([6,0,1,2,3,4,5,6],[6])])
def cJ.B4:List Nat:=[0,0,3,0,0,24,63,127]
theorem cJ.FW:lz .any (opsOf Try.f89 4)=cJ.T4:=by kernel_rfl
theorem cJ.Bb:rj cJ.T4.2 cJ.B4=true:=by kernel_rfl
set_option maxHeartbeats 8000000 in
set_option maxRecDepth 100000 in
theorem cJ.calls (k:Nat) (a0:Int) (a1:Int) (r1:Int) (r2:Int) (w:World) (h:cJ.f k a0 a1=some (r1,r2)):
 Calls Try.prog 89 #[.int .i64 a0,.int .i64 a1] w fun e w'=>e= .returned (.agg #[.int .i64 r1,.int .i64 r2])/\Below w.heap.size w w':=by
 have lB:=Try.underlying34
 have HB:=Aside0.mk (Below.refl w.heap.size w)
 have H:((jm.f a0).bind fun wG=>((jm.f a1).bind fun uw=>((er.f k wG uw).bind fun t138=>(if a1<0 then (if (wrap64 (-t138))=0 then (none) else (some (wrap64 (Int.tdiv a0 (wrap64 (-t138))),wrap64 (Int.tdiv a1 (wrap64 (-t138)))))) else (if t138=0 then (none) else (some (wrap64 (Int.tdiv a0 t138),wrap64 (Int.tdiv a1 t138))))))))=some (r1,r2):=h
 clear h
 replace H:=Option.bind_eq_some_iff.mp H
 obtain ⟨wG,jx,H⟩:=H
 replace H:((jm.f a1).bind fun uw=>((er.f k wG uw).bind fun t138=>(if a1<0 then (if (wrap64 (-t138))=0 then (none) else (some (wrap64 (Int.tdiv a0 (wrap64 (-t138))),wrap64 (Int.tdiv a1 (wrap64 (-t138)))))) else (if t138=0 then (none) else (some (wrap64 (Int.tdiv a0 t138),wrap64 (Int.tdiv a1 t138)))))))=some (r1,r2):=H
 have A3:=Aside0.mk jx
 clear jx
 replace H:=Option.bind_eq_some_iff.mp H
 obtain ⟨uw,vE,H⟩:=H
 replace H:((er.f k wG uw).bind fun t138=>(if a1<0 then (if (wrap64 (-t138))=0 then (none) else (some (wrap64 (Int.tdiv a0 (wrap64 (-t138))),wrap64 (Int.tdiv a1 (wrap64 (-t138)))))) else (if t138=0 then (none) else (some (wrap64 (Int.tdiv a0 t138),wrap64 (Int.tdiv a1 t138))))))=some (r1,r2):=H
 have A4:=Aside0.mk vE
 clear vE
 replace H:=Option.bind_eq_some_iff.mp H
 obtain ⟨t138,yz,H⟩:=H
 replace H:(if a1<0 then (if (wrap64 (-t138))=0 then (none) else (some (wrap64 (Int.tdiv a0 (wrap64 (-t138))),wrap64 (Int.tdiv a1 (wrap64 (-t138)))))) else (if t138=0 then (none) else (some (wrap64 (Int.tdiv a0 t138),wrap64 (Int.tdiv a1 t138)))))=some (r1,r2):=H
 have A5:=Aside0.mk yz
 clear yz
 by_cases c6:a1<0
 ·rw [if_pos c6] at H
  have oc:decide (a1<0)=true:=decide_eq_true c6
  clear c6
  by_cases c7:(wrap64 (-t138))=0
  ·rw [if_pos c7] at H
   exact absurd H (by simp)
  ·rw [if_neg c7] at H
   have tH:((wrap64 (-t138))==0)=false:=beq_eq_false_iff_ne.mpr c7
   have a8J:((wrap64 (-t138)) !=0)=true:=bne_iff_ne.mpr c7
   simp only [Option.some.injEq,Prod.mk.injEq] at H
   obtain ⟨rfl,rfl⟩:=H
   go_enter Try.func89,Try.ntmps89
   try go_wp2_with (first|((with_reducible refine bn (N:=4) rfl ?_);refine bq ?hg (N:=4) ?hd (cs:= #[.int .i64 0,.int .i64 0]) (t:=34) ?hr ?_;(case hd=>rfl);(case hg=>rfl);(case hr=>first|(go_simp;done)|(go_simp;rfl));intro nJ hg w8 aU hb;have aA:=Aside0.mk (ah ay hb);have aC:=Aside0.mk (aU);have aD:=Aside0.mk ((by rw [hg];exact (ax ay):w.heap.size<=nJ));have aK:=Aside0.mk ((by rw [hg];exact (ax ay):w.heap.size<=nJ));clear HB;have HB:=aA;have fU:=aC;have b2M:=aD;have b2N:=aK;clear aA aC aD aK;clear hb aU hg)|((with_reducible refine aV (f:=95) rfl ?_);refine bH (some 7) rfl rfl Try.func95 (by kernel_rfl) rfl #[.int .i64 a0] rfl (by (try simp only [List.map_toArray,List.map_cons,List.map_nil]);first|done|rfl|(simp only [List.length_drop,List.length_take];rfl)) ?_;(with_reducible refine (jm.calls a0 wG _ A3.out).mono ?_);rintro e w' ⟨rfl,⟨nd,rfl⟩⟩;refine ⟨_,rfl,?_⟩;(try (rw [pn w8];generalize lR:World.drewN w8 _=w8;have aA:Aside0 (w8.heap[nJ]? =some (.cells #[.int .i64 0,.int .i64 0] 34 (0,0))):=⟨by rw [<-lR];exact (aH fU)⟩;have aC:Aside0 (Below w.heap.size w w8):=⟨by rw [<-lR];exact ay⟩;clear fU HB lR;have fU:=aA;have HB:=aC;clear aA aC)))|((with_reducible refine aV (f:=95) rfl ?_);refine bH (some 9) rfl rfl Try.func95 (by kernel_rfl) rfl #[.int .i64 a1] rfl (by (try simp only [List.map_toArray,List.map_cons,List.map_nil]);first|done|rfl|(simp only [List.length_drop,List.length_take];rfl)) ?_;(with_reducible refine (jm.calls a1 uw _ A4.out).mono ?_);rintro e w' ⟨rfl,⟨nd,rfl⟩⟩;refine ⟨_,rfl,?_⟩;(try (rw [pn w8];generalize lR:World.drewN w8 _=w8;have aA:Aside0 (w8.heap[nJ]? =some (.cells #[.int .i64 0,.int .i64 0] 34 (0,0))):=⟨by rw [<-lR];exact (aH fU)⟩;have aC:Aside0 (Below w.heap.size w w8):=⟨by rw [<-lR];exact ay⟩;clear fU HB lR;have fU:=aA;have HB:=aC;clear aA aC)))|((with_reducible refine aV (f:=94) rfl ?_);refine bH (some 10) rfl rfl Try.func94 (by kernel_rfl) rfl #[.int .i64 wG,.int .i64 uw] rfl (by (try simp only [List.map_toArray,List.map_cons,List.map_nil]);first|done|rfl|(simp only [List.length_drop,List.length_take];rfl)) ?_;(with_reducible refine (er.calls k wG uw t138 _ A5.out).mono ?_);rintro e w' ⟨rfl,⟨nd,rfl⟩⟩;refine ⟨_,rfl,?_⟩;(try (rw [pn w8];generalize lR:World.drewN w8 _=w8;have aA:Aside0 (w8.heap[nJ]? =some (.cells #[.int .i64 0,.int .i64 0] 34 (0,0))):=⟨by rw [<-lR];exact (aH fU)⟩;have aC:Aside0 (Below w.heap.size w w8):=⟨by rw [<-lR];exact ay⟩;clear fU HB lR;have fU:=aA;have HB:=aC;clear aA aC))))
   have aA:=Aside0.mk (ak fU.out)
   have aC:=Aside0.mk (aI HB.out)
   clear fU
   clear HB
   have fU:=aA
   have HB:=aC
   clear aA aC
   refine fL (n:=8) (S:=fun w'=>True) (ds:=[]) #[false,false,false,false,false,false,false,false] (by kernel_rfl) rfl rfl trivial (fun hHeld=>?_);refine jK cJ.FW cJ.Bb (fun cG oV=>?_)
   generalize w8.drew=w9 at fU HB hHeld⊢
   refine cB cG (i:=0) (N:=some 15) ?_
   refine cB cG (i:=1) (N:=some 16) ?_
   refine cB cG (i:=2) (N:=some 17) ?_
   refine cB cG (i:=3) (N:=some 18) ?_
   refine cB cG (i:=4) (N:=some 19) ?_
   refine cB cG (i:=5) (N:=some 20) ?_
   refine cB cG (i:=6) (N:=some 21) ?_
   refine gj (i:=7) (N:=none) #[true,true,true,true,true,true,true,true] rfl rfl (lA cG.out (by kernel_rfl)) (by decide) (fun K hK=>?_)
   have hs10:w9.cell? ⟨nJ,0,none⟩=some (.int .i64 0):=(ag fU.out 0).trans rfl
   have hfs10:=af fU.out 0
   have hs11:w9.cell? ⟨nJ,1,none⟩=some (.int .i64 0):=(ag fU.out 1).trans rfl
   have hfs11:=af fU.out 1
   refine lO (w1:=?_) (by rfl) rfl ?_ ?_
   rotate_left
   ·go_simp
    rfl
   refine hK.out _ _ trivial (fun hHeld=>?_)
   clear hK K
   refine gU (mO cG.out (by kernel_rfl)) ?_
   try go_wp2
   refine bodyPost_ret (results_cell_row rfl _ _ nJ 34 #[.int .i64 (wrap64 (Int.tdiv a0 (wrap64 (-t138)))),.int .i64 (wrap64 (Int.tdiv a1 (wrap64 (-t138))))] (0,0) _ rfl (by (with_reducible repeat (first|refine aq ?_ _|refine ak ?_|refine ai ?_ _));refine bh (cs:= #[.int .i64 (wrap64 (Int.tdiv a0 (wrap64 (-t138)))),.int .i64 0]) ?_ 1 _ rfl;(with_reducible repeat (first|refine aq ?_ _|refine ak ?_|refine ai ?_ _));refine bh (cs:= #[.int .i64 0,.int .i64 0]) ?_ 0 _ rfl;(with_reducible repeat (first|refine aq ?_ _|refine ak ?_|refine ai ?_ _));exact fU.out) Try.underlying34 rfl (by kernel_rfl)) rfl ?_
   exact ⟨by first|rfl|(simp [aX,aY]<;>rfl)|(simp [*,aX,aY]<;>rfl),ay⟩
 ·rw [if_neg c6] at H
  have oc:decide (a1<0)=false:=decide_eq_false c6
  clear c6
  by_cases c12:t138=0
  ·rw [if_pos c12] at H
   exact absurd H (by simp)
  ·rw [if_neg c12] at H
   have yA:(t138==0)=false:=beq_eq_false_iff_ne.mpr c12
   have c12b1:(t138 !=0)=true:=bne_iff_ne.mpr c12
   simp only [Option.some.injEq,Prod.mk.injEq] at H
   obtain ⟨rfl,rfl⟩:=H
   go_enter Try.func89,Try.ntmps89
   try go_wp2_with (first|((with_reducible refine bn (N:=4) rfl ?_);refine bq ?hg (N:=4) ?hd (cs:= #[.int .i64 0,.int .i64 0]) (t:=34) ?hr ?_;(case hd=>rfl);(case hg=>rfl);(case hr=>first|(go_simp;done)|(go_simp;rfl));intro nJ hg iZ aU hb;have aA:=Aside0.mk (ah ay hb);have aC:=Aside0.mk (aU);have aD:=Aside0.mk ((by rw [hg];exact (ax ay):w.heap.size<=nJ));have aK:=Aside0.mk ((by rw [hg];exact (ax ay):w.heap.size<=nJ));clear HB;have HB:=aA;have fU:=aC;have b2M:=aD;have b2N:=aK;clear aA aC aD aK;clear hb aU hg)|((with_reducible refine aV (f:=95) rfl ?_);refine bH (some 7) rfl rfl Try.func95 (by kernel_rfl) rfl #[.int .i64 a0] rfl (by (try simp only [List.map_toArray,List.map_cons,List.map_nil]);first|done|rfl|(simp only [List.length_drop,List.length_take];rfl)) ?_;(with_reducible refine (jm.calls a0 wG _ A3.out).mono ?_);rintro e w' ⟨rfl,⟨nd,rfl⟩⟩;refine ⟨_,rfl,?_⟩;(try (rw [pn iZ];generalize lR:World.drewN iZ _=iZ;have aA:Aside0 (iZ.heap[nJ]? =some (.cells #[.int .i64 0,.int .i64 0] 34 (0,0))):=⟨by rw [<-lR];exact (aH fU)⟩;have aC:Aside0 (Below w.heap.size w iZ):=⟨by rw [<-lR];exact ay⟩;clear fU HB lR;have fU:=aA;have HB:=aC;clear aA aC)))|((with_reducible refine aV (f:=95) rfl ?_);refine bH (some 9) rfl rfl Try.func95 (by kernel_rfl) rfl #[.int .i64 a1] rfl (by (try simp only [List.map_toArray,List.map_cons,List.map_nil]);first|done|rfl|(simp only [List.length_drop,List.length_take];rfl)) ?_;(with_reducible refine (jm.calls a1 uw _ A4.out).mono ?_);rintro e w' ⟨rfl,⟨nd,rfl⟩⟩;refine ⟨_,rfl,?_⟩;(try (rw [pn iZ];generalize lR:World.drewN iZ _=iZ;have aA:Aside0 (iZ.heap[nJ]? =some (.cells #[.int .i64 0,.int .i64 0] 34 (0,0))):=⟨by rw [<-lR];exact (aH fU)⟩;have aC:Aside0 (Below w.heap.size w iZ):=⟨by rw [<-lR];exact ay⟩;clear fU HB lR;have fU:=aA;have HB:=aC;clear aA aC)))|((with_reducible refine aV (f:=94) rfl ?_);refine bH (some 10) rfl rfl Try.func94 (by kernel_rfl) rfl #[.int .i64 wG,.int .i64 uw] rfl (by (try simp only [List.map_toArray,List.map_cons,List.map_nil]);first|done|rfl|(simp only [List.length_drop,List.length_take];rfl)) ?_;(with_reducible refine (er.calls k wG uw t138 _ A5.out).mono ?_);rintro e w' ⟨rfl,⟨nd,rfl⟩⟩;refine ⟨_,rfl,?_⟩;(try (rw [pn iZ];generalize lR:World.drewN iZ _=iZ;have aA:Aside0 (iZ.heap[nJ]? =some (.cells #[.int .i64 0,.int .i64 0] 34 (0,0))):=⟨by rw [<-lR];exact (aH fU)⟩;have aC:Aside0 (Below w.heap.size w iZ):=⟨by rw [<-lR];exact ay⟩;clear fU HB lR;have fU:=aA;have HB:=aC;clear aA aC))))
   have aA:=Aside0.mk (ak fU.out)
   have aC:=Aside0.mk (aI HB.out)
   clear fU
   clear HB
   have fU:=aA
   have HB:=aC
   clear aA aC
   refine fL (n:=8) (S:=fun w'=>True) (ds:=[]) #[false,false,false,false,false,false,false,false] (by kernel_rfl) rfl rfl trivial (fun hHeld=>?_);refine jK cJ.FW cJ.Bb (fun cG oV=>?_)
   generalize iZ.drew=TI at fU HB hHeld⊢
   refine cB cG (i:=0) (N:=some 15) ?_
   refine cB cG (i:=1) (N:=some 16) ?_
   refine cB cG (i:=2) (N:=some 17) ?_
   refine cB cG (i:=3) (N:=some 18) ?_
   refine cB cG (i:=4) (N:=some 19) ?_
   refine cB cG (i:=5) (N:=some 20) ?_
   refine cB cG (i:=6) (N:=some 21) ?_
   refine gj (i:=7) (N:=none) #[true,true,true,true,true,true,true,true] rfl rfl (lA cG.out (by kernel_rfl)) (by decide) (fun K hK=>?_)
   have hs15:TI.cell? ⟨nJ,0,none⟩=some (.int .i64 0):=(ag fU.out 0).trans rfl
   have hfs15:=af fU.out 0
   have b6J:TI.cell? ⟨nJ,1,none⟩=some (.int .i64 0):=(ag fU.out 1).trans rfl
   have b2O:=af fU.out 1
   refine lO (w1:=?_) (by rfl) rfl ?_ ?_
   rotate_left
   ·go_simp
    rfl
   refine hK.out _ _ trivial (fun hHeld=>?_)
   clear hK K
   refine gU (mO cG.out (by kernel_rfl)) ?_
   try go_wp2
   refine bodyPost_ret (results_cell_row rfl _ _ nJ 34 #[.int .i64 (wrap64 (Int.tdiv a0 t138)),.int .i64 (wrap64 (Int.tdiv a1 t138))] (0,0) _ rfl (by (with_reducible repeat (first|refine aq ?_ _|refine ak ?_|refine ai ?_ _));refine bh (cs:= #[.int .i64 (wrap64 (Int.tdiv a0 t138)),.int .i64 0]) ?_ 1 _ rfl;(with_reducible repeat (first|refine aq ?_ _|refine ak ?_|refine ai ?_ _));refine bh (cs:= #[.int .i64 0,.int .i64 0]) ?_ 0 _ rfl;(with_reducible repeat (first|refine aq ?_ _|refine ak ?_|refine ai ?_ _));exact fU.out) Try.underlying34 rfl (by kernel_rfl)) rfl ?_
   exact ⟨by first|rfl|(simp [aX,aY]<;>rfl)|(simp [*,aX,aY]<;>rfl),ay⟩
def fZ.f (k:Nat) (aM:Int) (aJ:Int) (bw:Int) (bk:Int):Option (Int×Int):=(cJ.f k (wrap64 ((wrap64 (aM*bk))+(wrap64 (bw*aJ)))) (wrap64 (aJ*bk))).bind fun IC=>(some (IC.1,IC.2))
theorem fZ.mono:∀a0 a1 a2 a3 k,aR (fZ.f k a0 a1 a2 a3) (fZ.f (k+1) a0 a1 a2 a3):=by
 intro a0 a1 a2 a3 k
 unfold fZ.f
 repeat' first
  |(with_reducible exact cJ.mono _ _ _)
  |(with_reducible exact aR.refl _)
  |(with_reducible exact aR.none _)
  |(with_reducible refine aR.ite ?_ ?_)
  |(with_reducible refine aR.bind ?_ (fun _=>?_))
set_option maxHeartbeats 8000000 in
set_option maxRecDepth 100000 in
theorem fZ.calls (k:Nat) (aM:Int) (aJ:Int) (bw:Int) (bk:Int) (r1:Int) (r2:Int) (w:World) (h:fZ.f k aM aJ bw bk=some (r1,r2)):
 Calls Try.prog 83 #[.agg #[.int .i64 aM,.int .i64 aJ],.agg #[.int .i64 bw,.int .i64 bk]] w fun e w'=>e= .returned (.agg #[.int .i64 r1,.int .i64 r2])/\Below w.heap.size w w':=by
 have lB:=Try.underlying34
 have HB:=Aside0.mk (Below.refl w.heap.size w)
 have H:((cJ.f k (wrap64 ((wrap64 (aM*bk))+(wrap64 (bw*aJ)))) (wrap64 (aJ*bk))).bind fun IC=>(some (IC.1,IC.2)))=some (r1,r2):=h
 clear h
 replace H:=Option.bind_eq_some_iff.mp H
 obtain ⟨⟨Wk,t143⟩,jx,H⟩:=H
 replace H:(some (Wk,t143))=some (r1,r2):=H
 have A3:=Aside0.mk jx
 clear jx
 simp only [Option.some.injEq,Prod.mk.injEq] at H
 obtain ⟨rfl,rfl⟩:=H
 go_enter Try.func83,Try.ntmps83
 go_wp2_with (first|((with_reducible refine bn (N:=2) rfl ?_);refine bq ?hg (N:=2) ?hd (cs:= #[.int .i64 aM,.int .i64 aJ]) (t:=34) ?hr ?_;(case hd=>rfl);(case hg=>rfl);(case hr=>first|(go_simp;done)|(go_simp;rfl));intro pK hg w4 aU hb;have aA:=Aside0.mk (ah ay hb);have aC:=Aside0.mk (aU);have aD:=Aside0.mk ((by rw [hg];exact (ax ay):w.heap.size<=pK));have aK:=Aside0.mk ((by rw [hg];exact (ax ay):w.heap.size<=pK));clear HB;have HB:=aA;have nK:=aC;have GW139:=aD;have GE139:=aK;clear aA aC aD aK;clear hb aU hg)|((with_reducible refine bn (N:=3) rfl ?_);refine bq ?hg (N:=3) ?hd (cs:= #[.int .i64 bw,.int .i64 bk]) (t:=34) ?hr ?_;(case hd=>rfl);(case hg=>rfl);(case hr=>first|(go_simp;done)|(go_simp;rfl));intro sq hg w5 aU hb;have aA:=Aside0.mk (aj (g:=pK) (o:= .cells #[.int .i64 aM,.int .i64 aJ] 34 (0,0)) (aH nK) hb);have aC:=Aside0.mk (ah ay hb);have aD:=Aside0.mk (aU);have aK:=Aside0.mk ((by rw [hg];exact (ax ay):w.heap.size<=sq));have bF:=Aside0.mk ((by rw [hg];exact (ax ay):w.heap.size<=sq));have bS:=Aside0.mk ((by rw [hg];exact Nat.ne_of_lt (bf (g:=pK) (o:= .cells #[.int .i64 aM,.int .i64 aJ] 34 (0,0)) (aH nK)):pK≠sq));have bY:=Aside0.mk ((by rw [hg];exact Nat.ne_of_gt (bf (g:=pK) (o:= .cells #[.int .i64 aM,.int .i64 aJ] 34 (0,0)) (aH nK)):sq≠pK));clear nK;clear HB;have nK:=aA;have HB:=aC;have sr:=aD;have GW140:=aK;have GE140:=bF;have Yy:=bS;have Yz:=bY;clear aA aC aD aK bF bS bY;clear hb aU hg)|((with_reducible refine bn (N:=4) rfl ?_);refine bq ?hg (N:=4) ?hd (cs:= #[.int .i64 0,.int .i64 0]) (t:=34) ?hr ?_;(case hd=>rfl);(case hg=>rfl);(case hr=>first|(go_simp;done)|(go_simp;rfl));intro uV hg w6 aU hb;have aA:=Aside0.mk (aj (g:=pK) (o:= .cells #[.int .i64 aM,.int .i64 aJ] 34 (0,0)) (aH nK) hb);have aC:=Aside0.mk (aj (g:=sq) (o:= .cells #[.int .i64 bw,.int .i64 bk] 34 (0,0)) (aH sr) hb);have aD:=Aside0.mk (ah ay hb);have aK:=Aside0.mk (aU);have bF:=Aside0.mk ((by rw [hg];exact (ax ay):w.heap.size<=uV));have bS:=Aside0.mk ((by rw [hg];exact (ax ay):w.heap.size<=uV));have bY:=Aside0.mk ((by rw [hg];exact Nat.ne_of_lt (bf (g:=pK) (o:= .cells #[.int .i64 aM,.int .i64 aJ] 34 (0,0)) (aH nK)):pK≠uV));have eX:=Aside0.mk ((by rw [hg];exact Nat.ne_of_gt (bf (g:=pK) (o:= .cells #[.int .i64 aM,.int .i64 aJ] 34 (0,0)) (aH nK)):uV≠pK));have fY:=Aside0.mk ((by rw [hg];exact Nat.ne_of_lt (bf (g:=sq) (o:= .cells #[.int .i64 bw,.int .i64 bk] 34 (0,0)) (aH sr)):sq≠uV));have gT:=Aside0.mk ((by rw [hg];exact Nat.ne_of_gt (bf (g:=sq) (o:= .cells #[.int .i64 bw,.int .i64 bk] 34 (0,0)) (aH sr)):uV≠sq));clear nK;clear sr;clear HB;have nK:=aA;have sr:=aC;have HB:=aD;have yB:=aK;have GW141:=bF;have GE141:=bS;have YA:=bY;have YB:=eX;have YC:=fY;have YD:=gT;clear aA aC aD aK bF bS bY eX fY gT;clear hb aU hg;have CA:=Yy.out;have CB:=Yz.out;have FX:=YA.out;have FY:=YB.out;have vF:w6.cell? ⟨pK,0,none⟩=some (.int .i64 aM):=(ag nK.out 0).trans rfl;have vG:w6.cell? ⟨pK,1,none⟩=some (.int .i64 aJ):=(ag nK.out 1).trans rfl;have vH:=af nK.out 0;have vI:=af nK.out 1;have Bc:=YC.out;have Be:=YD.out;have uq:w6.cell? ⟨sq,0,none⟩=some (.int .i64 bw):=(ag sr.out 0).trans rfl;have ur:w6.cell? ⟨sq,1,none⟩=some (.int .i64 bk):=(ag sr.out 1).trans rfl;have uu:=af sr.out 0;have uv:=af sr.out 1)|((with_reducible refine aV (f:=89) rfl ?_);refine bH (some 21) rfl rfl Try.func89 (by kernel_rfl) rfl #[.int .i64 (wrap64 ((wrap64 (aM*bk))+(wrap64 (bw*aJ)))),.int .i64 (wrap64 (aJ*bk))] rfl (by (try simp only [List.map_toArray,List.map_cons,List.map_nil]);first|done|rfl|(simp only [List.length_drop,List.length_take];rfl)) ?_;(with_reducible refine (cJ.calls k (wrap64 ((wrap64 (aM*bk))+(wrap64 (bw*aJ)))) (wrap64 (aJ*bk)) Wk t143 _ A3.out).mono ?_);rintro e mV ⟨rfl,hb⟩;refine ⟨_,rfl,?_⟩;have aA:=Aside0.mk (aj (g:=pK) (o:= .cells #[.int .i64 aM,.int .i64 aJ] 34 (0,0)) (aH nK) hb);have aC:=Aside0.mk (aj (g:=sq) (o:= .cells #[.int .i64 bw,.int .i64 bk] 34 (0,0)) (aH sr) hb);have aD:=Aside0.mk (aj (g:=uV) (o:= .cells #[.int .i64 0,.int .i64 0] 34 (0,0)) (aH yB) hb);have aK:=Aside0.mk (ah ay hb);clear nK;clear sr;clear yB;clear HB;have nK:=aA;have sr:=aC;have yB:=aD;have HB:=aK;clear aA aC aD aK;(try clear hb);(try clear hb2);(try clear hk);(try clear hi);have pZ:mV.cell? ⟨uV,0,none⟩=some (.int .i64 0):=(ag yB.out 0).trans rfl;have qa:mV.cell? ⟨uV,1,none⟩=some (.int .i64 0):=(ag yB.out 1).trans rfl;have qb:=af yB.out 0;have qc:=af yB.out 1))
 refine bodyPost_ret (results_cell_row rfl _ _ uV 34 #[.int .i64 Wk,.int .i64 t143] (0,0) _ rfl (by (with_reducible repeat (first|refine aq ?_ _|refine ak ?_|refine ai ?_ _));refine bh (cs:= #[.int .i64 Wk,.int .i64 0]) ?_ 1 _ rfl;(with_reducible repeat (first|refine aq ?_ _|refine ak ?_|refine ai ?_ _));refine bh (cs:= #[.int .i64 0,.int .i64 0]) ?_ 0 _ rfl;(with_reducible repeat (first|refine aq ?_ _|refine ak ?_|refine ai ?_ _));exact yB.out) Try.underlying34 rfl (by kernel_rfl)) rfl ?_
 exact ⟨by first|rfl|(simp [aX,aY]<;>rfl)|(simp [*,aX,aY]<;>rfl),ay⟩
def kn.f (k:Nat) (aM:Int) (aJ:Int) (bw:Int) (bk:Int):Option (Int×Int):=(cJ.f k (wrap64 ((wrap64 (aM*bk))-(wrap64 (bw*aJ)))) (wrap64 (aJ*bk))).bind fun ID=>(some (ID.1,ID.2))
theorem kn.mono:∀a0 a1 a2 a3 k,aR (kn.f k a0 a1 a2 a3) (kn.f (k+1) a0 a1 a2 a3):=by
 intro a0 a1 a2 a3 k
 unfold kn.f
 repeat' first
  |(with_reducible exact cJ.mono _ _ _)
  |(with_reducible exact aR.refl _)
  |(with_reducible exact aR.none _)
  |(with_reducible refine aR.ite ?_ ?_)
  |(with_reducible refine aR.bind ?_ (fun _=>?_))
set_option maxHeartbeats 8000000 in
set_option maxRecDepth 100000 in
theorem kn.calls (k:Nat) (aM:Int) (aJ:Int) (bw:Int) (bk:Int) (r1:Int) (r2:Int) (w:World) (h:kn.f k aM aJ bw bk=some (r1,r2)):
 Calls Try.prog 92 #[.agg #[.int .i64 aM,.int .i64 aJ],.agg #[.int .i64 bw,.int .i64 bk]] w fun e w'=>e= .returned (.agg #[.int .i64 r1,.int .i64 r2])/\Below w.heap.size w w':=by
 have lB:=Try.underlying34
 have HB:=Aside0.mk (Below.refl w.heap.size w)
 have H:((cJ.f k (wrap64 ((wrap64 (aM*bk))-(wrap64 (bw*aJ)))) (wrap64 (aJ*bk))).bind fun ID=>(some (ID.1,ID.2)))=some (r1,r2):=h
 clear h
 replace H:=Option.bind_eq_some_iff.mp H
 obtain ⟨⟨t164,a1G⟩,jx,H⟩:=H
 replace H:(some (t164,a1G))=some (r1,r2):=H
 have A3:=Aside0.mk jx
 clear jx
 simp only [Option.some.injEq,Prod.mk.injEq] at H
 obtain ⟨rfl,rfl⟩:=H
 go_enter Try.func92,Try.ntmps92
 go_wp2_with (first|((with_reducible refine bn (N:=2) rfl ?_);refine bq ?hg (N:=2) ?hd (cs:= #[.int .i64 aM,.int .i64 aJ]) (t:=34) ?hr ?_;(case hd=>rfl);(case hg=>rfl);(case hr=>first|(go_simp;done)|(go_simp;rfl));intro pL hg w4 aU hb;have aA:=Aside0.mk (ah ay hb);have aC:=Aside0.mk (aU);have aD:=Aside0.mk ((by rw [hg];exact (ax ay):w.heap.size<=pL));have aK:=Aside0.mk ((by rw [hg];exact (ax ay):w.heap.size<=pL));clear HB;have HB:=aA;have nL:=aC;have GW161:=aD;have GE161:=aK;clear aA aC aD aK;clear hb aU hg)|((with_reducible refine bn (N:=3) rfl ?_);refine bq ?hg (N:=3) ?hd (cs:= #[.int .i64 bw,.int .i64 bk]) (t:=34) ?hr ?_;(case hd=>rfl);(case hg=>rfl);(case hr=>first|(go_simp;done)|(go_simp;rfl));intro su hg w5 aU hb;have aA:=Aside0.mk (aj (g:=pL) (o:= .cells #[.int .i64 aM,.int .i64 aJ] 34 (0,0)) (aH nL) hb);have aC:=Aside0.mk (ah ay hb);have aD:=Aside0.mk (aU);have aK:=Aside0.mk ((by rw [hg];exact (ax ay):w.heap.size<=su));have bF:=Aside0.mk ((by rw [hg];exact (ax ay):w.heap.size<=su));have bS:=Aside0.mk ((by rw [hg];exact Nat.ne_of_lt (bf (g:=pL) (o:= .cells #[.int .i64 aM,.int .i64 aJ] 34 (0,0)) (aH nL)):pL≠su));have bY:=Aside0.mk ((by rw [hg];exact Nat.ne_of_gt (bf (g:=pL) (o:= .cells #[.int .i64 aM,.int .i64 aJ] 34 (0,0)) (aH nL)):su≠pL));clear nL;clear HB;have nL:=aA;have HB:=aC;have sw:=aD;have GW162:=aK;have GE162:=bF;have YE:=bS;have YF:=bY;clear aA aC aD aK bF bS bY;clear hb aU hg)|((with_reducible refine bn (N:=4) rfl ?_);refine bq ?hg (N:=4) ?hd (cs:= #[.int .i64 0,.int .i64 0]) (t:=34) ?hr ?_;(case hd=>rfl);(case hg=>rfl);(case hr=>first|(go_simp;done)|(go_simp;rfl));intro uW hg w6 aU hb;have aA:=Aside0.mk (aj (g:=pL) (o:= .cells #[.int .i64 aM,.int .i64 aJ] 34 (0,0)) (aH nL) hb);have aC:=Aside0.mk (aj (g:=su) (o:= .cells #[.int .i64 bw,.int .i64 bk] 34 (0,0)) (aH sw) hb);have aD:=Aside0.mk (ah ay hb);have aK:=Aside0.mk (aU);have bF:=Aside0.mk ((by rw [hg];exact (ax ay):w.heap.size<=uW));have bS:=Aside0.mk ((by rw [hg];exact (ax ay):w.heap.size<=uW));have bY:=Aside0.mk ((by rw [hg];exact Nat.ne_of_lt (bf (g:=pL) (o:= .cells #[.int .i64 aM,.int .i64 aJ] 34 (0,0)) (aH nL)):pL≠uW));have eX:=Aside0.mk ((by rw [hg];exact Nat.ne_of_gt (bf (g:=pL) (o:= .cells #[.int .i64 aM,.int .i64 aJ] 34 (0,0)) (aH nL)):uW≠pL));have fY:=Aside0.mk ((by rw [hg];exact Nat.ne_of_lt (bf (g:=su) (o:= .cells #[.int .i64 bw,.int .i64 bk] 34 (0,0)) (aH sw)):su≠uW));have gT:=Aside0.mk ((by rw [hg];exact Nat.ne_of_gt (bf (g:=su) (o:= .cells #[.int .i64 bw,.int .i64 bk] 34 (0,0)) (aH sw)):uW≠su));clear nL;clear sw;clear HB;have nL:=aA;have sw:=aC;have HB:=aD;have yC:=aK;have GW163:=bF;have GE163:=bS;have YG:=bY;have YH:=eX;have YI:=fY;have YJ:=gT;clear aA aC aD aK bF bS bY eX fY gT;clear hb aU hg;have CA:=YE.out;have CB:=YF.out;have FX:=YG.out;have FY:=YH.out;have vF:w6.cell? ⟨pL,0,none⟩=some (.int .i64 aM):=(ag nL.out 0).trans rfl;have vG:w6.cell? ⟨pL,1,none⟩=some (.int .i64 aJ):=(ag nL.out 1).trans rfl;have vH:=af nL.out 0;have vI:=af nL.out 1;have Bc:=YI.out;have Be:=YJ.out;have uq:w6.cell? ⟨su,0,none⟩=some (.int .i64 bw):=(ag sw.out 0).trans rfl;have ur:w6.cell? ⟨su,1,none⟩=some (.int .i64 bk):=(ag sw.out 1).trans rfl;have uu:=af sw.out 0;have uv:=af sw.out 1)|((with_reducible refine aV (f:=89) rfl ?_);refine bH (some 21) rfl rfl Try.func89 (by kernel_rfl) rfl #[.int .i64 (wrap64 ((wrap64 (aM*bk))-(wrap64 (bw*aJ)))),.int .i64 (wrap64 (aJ*bk))] rfl (by (try simp only [List.map_toArray,List.map_cons,List.map_nil]);first|done|rfl|(simp only [List.length_drop,List.length_take];rfl)) ?_;(with_reducible refine (cJ.calls k (wrap64 ((wrap64 (aM*bk))-(wrap64 (bw*aJ)))) (wrap64 (aJ*bk)) t164 a1G _ A3.out).mono ?_);rintro e mV ⟨rfl,hb⟩;refine ⟨_,rfl,?_⟩;have aA:=Aside0.mk (aj (g:=pL) (o:= .cells #[.int .i64 aM,.int .i64 aJ] 34 (0,0)) (aH nL) hb);have aC:=Aside0.mk (aj (g:=su) (o:= .cells #[.int .i64 bw,.int .i64 bk] 34 (0,0)) (aH sw) hb);have aD:=Aside0.mk (aj (g:=uW) (o:= .cells #[.int .i64 0,.int .i64 0] 34 (0,0)) (aH yC) hb);have aK:=Aside0.mk (ah ay hb);clear nL;clear sw;clear yC;clear HB;have nL:=aA;have sw:=aC;have yC:=aD;have HB:=aK;clear aA aC aD aK;(try clear hb);(try clear hb2);(try clear hk);(try clear hi);have pZ:mV.cell? ⟨uW,0,none⟩=some (.int .i64 0):=(ag yC.out 0).trans rfl;have qa:mV.cell? ⟨uW,1,none⟩=some (.int .i64 0):=(ag yC.out 1).trans rfl;have qb:=af yC.out 0;have qc:=af yC.out 1))
 refine bodyPost_ret (results_cell_row rfl _ _ uW 34 #[.int .i64 t164,.int .i64 a1G] (0,0) _ rfl (by (with_reducible repeat (first|refine aq ?_ _|refine ak ?_|refine ai ?_ _));refine bh (cs:= #[.int .i64 t164,.int .i64 0]) ?_ 1 _ rfl;(with_reducible repeat (first|refine aq ?_ _|refine ak ?_|refine ai ?_ _));refine bh (cs:= #[.int .i64 0,.int .i64 0]) ?_ 0 _ rfl;(with_reducible repeat (first|refine aq ?_ _|refine ak ?_|refine ai ?_ _));exact yC.out) Try.underlying34 rfl (by kernel_rfl)) rfl ?_
 exact ⟨by first|rfl|(simp [aX,aY]<;>rfl)|(simp [*,aX,aY]<;>rfl),ay⟩
end Go.Proofs.Ytkckdphjhlbdcaa.P
