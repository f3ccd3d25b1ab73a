/-
  Part 3 of the proof of this: The law FnCover answers true at every argument.
-/
import Derived.Test.YtnhknojfpjheoaaKCover2
import Derived.Deep.LoopGhost
import Derived.Deep.RegionHeld3
namespace Go.Proofs.Ytnhknojfpjheoaa.P
open Go.RowKit Go.Proofs.YtnhknojfpjheoaaW.PrintWords Go.Proofs.YtnhknojfpjheoaaW.PrintLast Go.Proofs.YtnhknojfpjheoaaW.PrintMore
attribute [local go_sem] max2_int min2_int max_two min_two max_three min_three max_four min_four
set_option linter.all false
def nL.f (k:Nat) (aH:Bool) (aG:Int) (dJ:Int) (cM:List (bV)) (cN:List (bV)) (bg:Bool) (aV:Int) (dy:Int) (gA:List (bV)) (gB:List (bV)):Option (Bool):=if (aH !=bg)=true then (some false) else ((jG.f aG dJ aV dy).bind fun JY=>(if JY=true then ((bJ.f k cM gA).bind fun ye=>(if ye=true then ((bJ.f k cN gB).bind fun sr=>(if sr=true then (some true) else (some false))) else (some false))) else (some false)))
theorem nL.mono:∀a0 a1 a2 a3 a4 a5 a6 a7 a8 a9 k,aW (nL.f k a0 a1 a2 a3 a4 a5 a6 a7 a8 a9) (nL.f (k+1) a0 a1 a2 a3 a4 a5 a6 a7 a8 a9):=by
 intro a0 a1 a2 a3 a4 a5 a6 a7 a8 a9 k
 unfold nL.f
 repeat' first
  |(with_reducible exact bJ.mono _ _ _)
  |(with_reducible exact aW.refl _)
  |(with_reducible exact aW.none _)
  |(with_reducible refine aW.ite ?_ ?_)
  |(with_reducible refine aW.bind ?_ (fun _=>?_))
set_option maxHeartbeats 8000000 in
set_option maxRecDepth 100000 in
theorem nL.calls (k:Nat) (aH:Bool) (aG:Int) (dJ:Int) (eT:Option Addr) (eU:Nat) (cM:List (bV)) (eX:Option Addr) (eY:Nat) (cN:List (bV)) (bg:Bool) (aV:Int) (dy:Int) (jH:Option Addr) (jI:Nat) (gA:List (bV)) (kj:Option Addr) (ko:Nat) (gB:List (bV)) (r:Bool) (w:World) (Hf:Kd.C fD w eT cM.length cM) (Hg:cM.length<=eU) (Hj:Kd.C fD w eX cN.length cN) (Hl:cN.length<=eY) (a3j:Kd.C fD w jH gA.length gA) (a3k:gA.length<=jI) (a3l:Kd.C fD w kj gB.length gB) (a3m:gB.length<=ko) (h:nL.f k aH aG dJ cM cN bg aV dy gA gB=some r):
 Calls Try.prog 10 #[.agg #[.bool aH,.int .i64 aG,.int .i64 dJ,.slice eT cM.length eU,.slice eX cN.length eY],.agg #[.bool bg,.int .i64 aV,.int .i64 dy,.slice jH gA.length jI,.slice kj gB.length ko]] w fun e w'=>e= .returned (.bool r)/\Below w.heap.size w w':=by
 have a0E:=Try.underlying29
 have lY:=Try.underlying26
 have Aq:=Aside0.mk Hf
 have Ar:=Aside0.mk Hg
 clear Hf Hg
 have Ho:=Aside0.mk Hj
 have Hp:=Aside0.mk Hl
 clear Hj Hl
 have Ut:=Aside0.mk a3j
 have Uu:=Aside0.mk a3k
 clear a3j a3k
 have a3n:=Aside0.mk a3l
 have a3o:=Aside0.mk a3m
 clear a3l a3m
 have HB:=Aside0.mk (Below.refl w.heap.size w)
 have H:(if (aH !=bg)=true then (some false) else ((jG.f aG dJ aV dy).bind fun JY=>(if JY=true then ((bJ.f k cM gA).bind fun ye=>(if ye=true then ((bJ.f k cN gB).bind fun sr=>(if sr=true then (some true) else (some false))) else (some false))) else (some false))))=some r:=h
 clear h
 by_cases c3:(aH !=bg)=true
 ·rw [if_pos c3] at H
  have gw:(aH !=bg)=true:=c3
  (try (have mz:decide (aH=bg)=false:=by simpa using c3))
  (try (have yc:(aH==bg)=false:=by simpa using c3))
  (try (have c3b3:¬(aH=bg):=by simpa using c3))
  clear c3
  obtain rfl:=Option.some.inj H
  go_enter Try.func10,Try.ntmps10
  go_wp2_with (first|((with_reducible refine bk (N:=2) rfl ?_);refine bp ?hg (N:=2) ?hd (cs:= #[.bool aH,.int .i64 aG,.int .i64 dJ,.slice eT cM.length eU,.slice eX cN.length eY]) (t:=29) ?hr ?_;(case hd=>rfl);(case hg=>rfl);(case hr=>first|(go_simp;done)|(go_simp;rfl));intro bR hg w4 aU hb;have ay:=Aside0.mk (ai ax hb);have aA:=Aside0.mk (aU);have aD:=Aside0.mk ((by rw [hg];exact (av ax):w.heap.size<=bR));have aR:=Aside0.mk ((by rw [hg];exact (av ax):w.heap.size<=bR));clear HB;have HB:=ay;have bu:=aA;have Nw:=aD;have Nx:=aR;clear ay aA aD aR;clear hb aU hg)|((with_reducible refine bk (N:=3) rfl ?_);refine bp ?hg (N:=3) ?hd (cs:= #[.bool bg,.int .i64 aV,.int .i64 dy,.slice jH gA.length jI,.slice kj gB.length ko]) (t:=29) ?hr ?_;(case hd=>rfl);(case hg=>rfl);(case hr=>first|(go_simp;done)|(go_simp;rfl));intro cn hg w5 aU hb;have ay:=Aside0.mk (ah (g:=bR) (o:= .cells #[.bool aH,.int .i64 aG,.int .i64 dJ,.slice eT cM.length eU,.slice eX cN.length eY] 29 (0,0)) (aJ bu) hb);have aA:=Aside0.mk (ai ax hb);have aD:=Aside0.mk (aU);have aR:=Aside0.mk ((by rw [hg];exact (av ax):w.heap.size<=cn));have bK:=Aside0.mk ((by rw [hg];exact (av ax):w.heap.size<=cn));have bT:=Aside0.mk ((by rw [hg];exact Nat.ne_of_lt (aY (g:=bR) (o:= .cells #[.bool aH,.int .i64 aG,.int .i64 dJ,.slice eT cM.length eU,.slice eX cN.length eY] 29 (0,0)) (aJ bu)):bR≠cn));have cm:=Aside0.mk ((by rw [hg];exact Nat.ne_of_gt (aY (g:=bR) (o:= .cells #[.bool aH,.int .i64 aG,.int .i64 dJ,.slice eT cM.length eU,.slice eX cN.length eY] 29 (0,0)) (aJ bu)):cn≠bR));clear bu;clear HB;have bu:=ay;have HB:=aA;have bE:=aD;have Ny:=aR;have Nz:=bK;have mH:=bT;have mI:=cm;clear ay aA aD aR bK bT cm;clear hb aU hg;have hnb6:=mH.out;have hnc6:=mI.out;have OC:w5.cell? ⟨bR,0,none⟩=some (.bool aH):=(ag bu.out 0).trans rfl;have OD:w5.cell? ⟨bR,1,none⟩=some (.int .i64 aG):=(ag bu.out 1).trans rfl;have WI:w5.cell? ⟨bR,2,none⟩=some (.int .i64 dJ):=(ag bu.out 2).trans rfl;have hcz7_3:w5.cell? ⟨bR,3,none⟩=some (.slice eT cM.length eU):=(ag bu.out 3).trans rfl;have hcz7_4:w5.cell? ⟨bR,4,none⟩=some (.slice eX cN.length eY):=(ag bu.out 4).trans rfl;have OE:=aa bu.out 0;have OG:=aa bu.out 1;have WJ:=aa bu.out 2;have hfz7_3:=aa bu.out 3;have hfz7_4:=aa bu.out 4;have Oy:w5.cell? ⟨cn,0,none⟩=some (.bool bg):=(ag bE.out 0).trans rfl;have Oz:w5.cell? ⟨cn,1,none⟩=some (.int .i64 aV):=(ag bE.out 1).trans rfl;have a8H:w5.cell? ⟨cn,2,none⟩=some (.int .i64 dy):=(ag bE.out 2).trans rfl;have a8I:w5.cell? ⟨cn,3,none⟩=some (.slice jH gA.length jI):=(ag bE.out 3).trans rfl;have a8J:w5.cell? ⟨cn,4,none⟩=some (.slice kj gB.length ko):=(ag bE.out 4).trans rfl;have OA:=aa bE.out 0;have OB:=aa bE.out 1;have a8K:=aa bE.out 2;have a8L:=aa bE.out 3;have a8M:=aa bE.out 4))
  go_ret
  exact ⟨by first|rfl|(simp [aM,aQ]<;>rfl)|(simp [*,aM,aQ]<;>rfl),ax⟩
 ·rw [if_neg c3] at H
  have gw:(aH !=bg)=false:=by simpa using c3
  (try (have mz:decide (aH=bg)=true:=by simpa using c3))
  (try (have yc:(aH==bg)=true:=by simpa using c3))
  clear c3
  replace H:=Option.bind_eq_some_iff.mp H
  obtain ⟨JY,OH,H⟩:=H
  replace H:(if JY=true then ((bJ.f k cM gA).bind fun ye=>(if ye=true then ((bJ.f k cN gB).bind fun sr=>(if sr=true then (some true) else (some false))) else (some false))) else (some false))=some r:=H
  have A9:=Aside0.mk OH
  clear OH
  by_cases c10:JY=true
  ·subst c10
   have H1:((bJ.f k cM gA).bind fun ye=>(if ye=true then ((bJ.f k cN gB).bind fun sr=>(if sr=true then (some true) else (some false))) else (some false)))=some r:=by rw [if_pos rfl] at H;exact H
   clear H
   have H:=H1
   clear H1
   replace H:=Option.bind_eq_some_iff.mp H
   obtain ⟨ye,OI,H⟩:=H
   replace H:(if ye=true then ((bJ.f k cN gB).bind fun sr=>(if sr=true then (some true) else (some false))) else (some false))=some r:=H
   have WK:=Aside0.mk OI
   clear OI
   by_cases c12:ye=true
   ·subst c12
    have H1:((bJ.f k cN gB).bind fun sr=>(if sr=true then (some true) else (some false)))=some r:=by rw [if_pos rfl] at H;exact H
    clear H
    have H:=H1
    clear H1
    replace H:=Option.bind_eq_some_iff.mp H
    obtain ⟨sr,OJ,H⟩:=H
    replace H:(if sr=true then (some true) else (some false))=some r:=H
    have A13:=Aside0.mk OJ
    clear OJ
    by_cases c14:sr=true
    ·subst c14
     have H1:(some true)=some r:=by rw [if_pos rfl] at H;exact H
     clear H
     have H:=H1
     clear H1
     obtain rfl:=Option.some.inj H
     go_enter Try.func10,Try.ntmps10
     go_wp2_with (first|((with_reducible refine bk (N:=2) rfl ?_);refine bp ?hg (N:=2) ?hd (cs:= #[.bool aH,.int .i64 aG,.int .i64 dJ,.slice eT cM.length eU,.slice eX cN.length eY]) (t:=29) ?hr ?_;(case hd=>rfl);(case hg=>rfl);(case hr=>first|(go_simp;done)|(go_simp;rfl));intro bR hg He aU hb;have ay:=Aside0.mk (ai ax hb);have aA:=Aside0.mk (aU);have aD:=Aside0.mk ((by rw [hg];exact (av ax):w.heap.size<=bR));have aR:=Aside0.mk ((by rw [hg];exact (av ax):w.heap.size<=bR));clear HB;have HB:=ay;have bu:=aA;have Nw:=aD;have Nx:=aR;clear ay aA aD aR;clear hb aU hg)|((with_reducible refine bk (N:=3) rfl ?_);refine bp ?hg (N:=3) ?hd (cs:= #[.bool bg,.int .i64 aV,.int .i64 dy,.slice jH gA.length jI,.slice kj gB.length ko]) (t:=29) ?hr ?_;(case hd=>rfl);(case hg=>rfl);(case hr=>first|(go_simp;done)|(go_simp;rfl));intro cn hg lB aU hb;have ay:=Aside0.mk (ah (g:=bR) (o:= .cells #[.bool aH,.int .i64 aG,.int .i64 dJ,.slice eT cM.length eU,.slice eX cN.length eY] 29 (0,0)) (aJ bu) hb);have aA:=Aside0.mk (ai ax hb);have aD:=Aside0.mk (aU);have aR:=Aside0.mk ((by rw [hg];exact (av ax):w.heap.size<=cn));have bK:=Aside0.mk ((by rw [hg];exact (av ax):w.heap.size<=cn));have bT:=Aside0.mk ((by rw [hg];exact Nat.ne_of_lt (aY (g:=bR) (o:= .cells #[.bool aH,.int .i64 aG,.int .i64 dJ,.slice eT cM.length eU,.slice eX cN.length eY] 29 (0,0)) (aJ bu)):bR≠cn));have cm:=Aside0.mk ((by rw [hg];exact Nat.ne_of_gt (aY (g:=bR) (o:= .cells #[.bool aH,.int .i64 aG,.int .i64 dJ,.slice eT cM.length eU,.slice eX cN.length eY] 29 (0,0)) (aJ bu)):cn≠bR));clear bu;clear HB;have bu:=ay;have HB:=aA;have bE:=aD;have Ny:=aR;have Nz:=bK;have mH:=bT;have mI:=cm;clear ay aA aD aR bK bT cm;clear hb aU hg;have b3e:=mH.out;have b3f:=mI.out;have JQ:lB.cell? ⟨bR,0,none⟩=some (.bool aH):=(ag bu.out 0).trans rfl;have JR:lB.cell? ⟨bR,1,none⟩=some (.int .i64 aG):=(ag bu.out 1).trans rfl;have hcz18_2:lB.cell? ⟨bR,2,none⟩=some (.int .i64 dJ):=(ag bu.out 2).trans rfl;have hcz18_3:lB.cell? ⟨bR,3,none⟩=some (.slice eT cM.length eU):=(ag bu.out 3).trans rfl;have hcz18_4:lB.cell? ⟨bR,4,none⟩=some (.slice eX cN.length eY):=(ag bu.out 4).trans rfl;have JS:=aa bu.out 0;have JT:=aa bu.out 1;have hfz18_2:=aa bu.out 2;have hfz18_3:=aa bu.out 3;have hfz18_4:=aa bu.out 4;have JU:lB.cell? ⟨cn,0,none⟩=some (.bool bg):=(ag bE.out 0).trans rfl;have JV:lB.cell? ⟨cn,1,none⟩=some (.int .i64 aV):=(ag bE.out 1).trans rfl;have hcz19_2:lB.cell? ⟨cn,2,none⟩=some (.int .i64 dy):=(ag bE.out 2).trans rfl;have hcz19_3:lB.cell? ⟨cn,3,none⟩=some (.slice jH gA.length jI):=(ag bE.out 3).trans rfl;have hcz19_4:lB.cell? ⟨cn,4,none⟩=some (.slice kj gB.length ko):=(ag bE.out 4).trans rfl;have JW:=aa bE.out 0;have JX:=aa bE.out 1;have hfz19_2:=aa bE.out 2;have hfz19_3:=aa bE.out 3;have hfz19_4:=aa bE.out 4)|((with_reducible refine aZ (f:=36) rfl ?_);refine bO (some 14) rfl rfl Try.func36 (by kernel_rfl) rfl #[.agg #[.int .i64 aG,.int .i64 dJ],.agg #[.int .i64 aV,.int .i64 dy]] rfl (by (try simp only [List.map_toArray,List.map_cons,List.map_nil]);first|done|rfl|(simp only [List.length_drop,List.length_take];rfl)) ?_;(with_reducible refine (jG.calls aG dJ aV dy true _ A9.out).mono ?_);rintro e sM ⟨rfl,hb⟩;refine ⟨_,rfl,?_⟩;have ay:=Aside0.mk (ah (g:=bR) (o:= .cells #[.bool aH,.int .i64 aG,.int .i64 dJ,.slice eT cM.length eU,.slice eX cN.length eY] 29 (0,0)) (aJ bu) hb);have aA:=Aside0.mk (ah (g:=cn) (o:= .cells #[.bool bg,.int .i64 aV,.int .i64 dy,.slice jH gA.length jI,.slice kj gB.length ko] 29 (0,0)) (aJ bE) hb);have aD:=Aside0.mk (ai ax hb);clear bu;clear bE;clear HB;have bu:=ay;have bE:=aA;have HB:=aD;clear ay aA aD;(try clear hb);(try clear hb2);(try clear hk);(try clear hi);have yU:sM.cell? ⟨bR,0,none⟩=some (.bool aH):=(ag bu.out 0).trans rfl;have yV:sM.cell? ⟨bR,1,none⟩=some (.int .i64 aG):=(ag bu.out 1).trans rfl;have a5L:sM.cell? ⟨bR,2,none⟩=some (.int .i64 dJ):=(ag bu.out 2).trans rfl;have hcz21_3:sM.cell? ⟨bR,3,none⟩=some (.slice eT cM.length eU):=(ag bu.out 3).trans rfl;have hcz21_4:sM.cell? ⟨bR,4,none⟩=some (.slice eX cN.length eY):=(ag bu.out 4).trans rfl;have yX:=aa bu.out 0;have yY:=aa bu.out 1;have a5M:=aa bu.out 2;have hfz21_3:=aa bu.out 3;have hfz21_4:=aa bu.out 4;have hcz22_0:sM.cell? ⟨cn,0,none⟩=some (.bool bg):=(ag bE.out 0).trans rfl;have hcz22_1:sM.cell? ⟨cn,1,none⟩=some (.int .i64 aV):=(ag bE.out 1).trans rfl;have hcz22_2:sM.cell? ⟨cn,2,none⟩=some (.int .i64 dy):=(ag bE.out 2).trans rfl;have hcz22_3:sM.cell? ⟨cn,3,none⟩=some (.slice jH gA.length jI):=(ag bE.out 3).trans rfl;have hcz22_4:sM.cell? ⟨cn,4,none⟩=some (.slice kj gB.length ko):=(ag bE.out 4).trans rfl;have hfz22_0:=aa bE.out 0;have hfz22_1:=aa bE.out 1;have hfz22_2:=aa bE.out 2;have hfz22_3:=aa bE.out 3;have hfz22_4:=aa bE.out 4)|((with_reducible refine aZ (f:=37) rfl ?_);refine bO (some 20) rfl rfl Try.func37 (by kernel_rfl) rfl #[.slice eT cM.length eU,.slice jH gA.length jI] rfl (by (try simp only [List.map_toArray,List.map_cons,List.map_nil]);first|done|rfl|(simp only [List.length_drop,List.length_take];rfl)) ?_;(with_reducible refine (bJ.calls k _ _ cM _ _ gA true _ ?bX ?bY ?iY ?iZ WK.out).mono ?_);(case bX=>repeat (first|exact (Kd.bQ Aq.out HB.out)|(with_reducible refine Kd.cO ?_ _)|(with_reducible refine Kd.cP ?_ _)|(with_reducible refine Kd.dw ?_)));(case bY=>exact Ar.out);(case iY=>repeat (first|exact (Kd.bQ Ut.out HB.out)|(with_reducible refine Kd.cO ?_ _)|(with_reducible refine Kd.cP ?_ _)|(with_reducible refine Kd.dw ?_)));(case iZ=>exact Uu.out);rintro e vD ⟨rfl,hb⟩;refine ⟨_,rfl,?_⟩;have ay:=Aside0.mk (ah (g:=bR) (o:= .cells #[.bool aH,.int .i64 aG,.int .i64 dJ,.slice eT cM.length eU,.slice eX cN.length eY] 29 (0,0)) (aJ bu) hb);have aA:=Aside0.mk (ah (g:=cn) (o:= .cells #[.bool bg,.int .i64 aV,.int .i64 dy,.slice jH gA.length jI,.slice kj gB.length ko] 29 (0,0)) (aJ bE) hb);have aD:=Aside0.mk (ai ax hb);clear bu;clear bE;clear HB;have bu:=ay;have bE:=aA;have HB:=aD;clear ay aA aD;(try clear hb);(try clear hb2);(try clear hk);(try clear hi);have hcz24_0:vD.cell? ⟨bR,0,none⟩=some (.bool aH):=(ag bu.out 0).trans rfl;have hcz24_1:vD.cell? ⟨bR,1,none⟩=some (.int .i64 aG):=(ag bu.out 1).trans rfl;have hcz24_2:vD.cell? ⟨bR,2,none⟩=some (.int .i64 dJ):=(ag bu.out 2).trans rfl;have hcz24_3:vD.cell? ⟨bR,3,none⟩=some (.slice eT cM.length eU):=(ag bu.out 3).trans rfl;have hcz24_4:vD.cell? ⟨bR,4,none⟩=some (.slice eX cN.length eY):=(ag bu.out 4).trans rfl;have hfz24_0:=aa bu.out 0;have hfz24_1:=aa bu.out 1;have hfz24_2:=aa bu.out 2;have hfz24_3:=aa bu.out 3;have hfz24_4:=aa bu.out 4;have JZ:vD.cell? ⟨cn,0,none⟩=some (.bool bg):=(ag bE.out 0).trans rfl;have Ka:vD.cell? ⟨cn,1,none⟩=some (.int .i64 aV):=(ag bE.out 1).trans rfl;have hcz25_2:vD.cell? ⟨cn,2,none⟩=some (.int .i64 dy):=(ag bE.out 2).trans rfl;have hcz25_3:vD.cell? ⟨cn,3,none⟩=some (.slice jH gA.length jI):=(ag bE.out 3).trans rfl;have hcz25_4:vD.cell? ⟨cn,4,none⟩=some (.slice kj gB.length ko):=(ag bE.out 4).trans rfl;have Kb:=aa bE.out 0;have Ke:=aa bE.out 1;have hfz25_2:=aa bE.out 2;have hfz25_3:=aa bE.out 3;have hfz25_4:=aa bE.out 4)|((with_reducible refine aZ (f:=37) rfl ?_);refine bO (some 26) rfl rfl Try.func37 (by kernel_rfl) rfl #[.slice eX cN.length eY,.slice kj gB.length ko] rfl (by (try simp only [List.map_toArray,List.map_cons,List.map_nil]);first|done|rfl|(simp only [List.length_drop,List.length_take];rfl)) ?_;(with_reducible refine (bJ.calls k _ _ cN _ _ gB true _ ?bX ?bY ?iY ?iZ A13.out).mono ?_);(case bX=>repeat (first|exact (Kd.bQ Ho.out HB.out)|(with_reducible refine Kd.cO ?_ _)|(with_reducible refine Kd.cP ?_ _)|(with_reducible refine Kd.dw ?_)));(case bY=>exact Hp.out);(case iY=>repeat (first|exact (Kd.bQ a3n.out HB.out)|(with_reducible refine Kd.cO ?_ _)|(with_reducible refine Kd.cP ?_ _)|(with_reducible refine Kd.dw ?_)));(case iZ=>exact a3o.out);rintro e w26 ⟨rfl,hb⟩;refine ⟨_,rfl,?_⟩;have ay:=Aside0.mk (ah (g:=bR) (o:= .cells #[.bool aH,.int .i64 aG,.int .i64 dJ,.slice eT cM.length eU,.slice eX cN.length eY] 29 (0,0)) (aJ bu) hb);have aA:=Aside0.mk (ah (g:=cn) (o:= .cells #[.bool bg,.int .i64 aV,.int .i64 dy,.slice jH gA.length jI,.slice kj gB.length ko] 29 (0,0)) (aJ bE) hb);have aD:=Aside0.mk (ai ax hb);clear bu;clear bE;clear HB;have bu:=ay;have bE:=aA;have HB:=aD;clear ay aA aD;(try clear hb);(try clear hb2);(try clear hk);(try clear hi)))
     go_ret
     exact ⟨by first|rfl|(simp [aM,aQ]<;>rfl)|(simp [*,aM,aQ]<;>rfl),ax⟩
    ·replace c14:=Bool.eq_false_iff.mpr c14
     subst c14
     have H1:(some false)=some r:=by rw [if_neg (show ¬(false=true) by decide)] at H;exact H
     clear H
     have H:=H1
     clear H1
     obtain rfl:=Option.some.inj H
     go_enter Try.func10,Try.ntmps10
     go_wp2_with (first|((with_reducible refine bk (N:=2) rfl ?_);refine bp ?hg (N:=2) ?hd (cs:= #[.bool aH,.int .i64 aG,.int .i64 dJ,.slice eT cM.length eU,.slice eX cN.length eY]) (t:=29) ?hr ?_;(case hd=>rfl);(case hg=>rfl);(case hr=>first|(go_simp;done)|(go_simp;rfl));intro bR hg LY aU hb;have ay:=Aside0.mk (ai ax hb);have aA:=Aside0.mk (aU);have aD:=Aside0.mk ((by rw [hg];exact (av ax):w.heap.size<=bR));have aR:=Aside0.mk ((by rw [hg];exact (av ax):w.heap.size<=bR));clear HB;have HB:=ay;have bu:=aA;have Nw:=aD;have Nx:=aR;clear ay aA aD aR;clear hb aU hg)|((with_reducible refine bk (N:=3) rfl ?_);refine bp ?hg (N:=3) ?hd (cs:= #[.bool bg,.int .i64 aV,.int .i64 dy,.slice jH gA.length jI,.slice kj gB.length ko]) (t:=29) ?hr ?_;(case hd=>rfl);(case hg=>rfl);(case hr=>first|(go_simp;done)|(go_simp;rfl));intro cn hg xB aU hb;have ay:=Aside0.mk (ah (g:=bR) (o:= .cells #[.bool aH,.int .i64 aG,.int .i64 dJ,.slice eT cM.length eU,.slice eX cN.length eY] 29 (0,0)) (aJ bu) hb);have aA:=Aside0.mk (ai ax hb);have aD:=Aside0.mk (aU);have aR:=Aside0.mk ((by rw [hg];exact (av ax):w.heap.size<=cn));have bK:=Aside0.mk ((by rw [hg];exact (av ax):w.heap.size<=cn));have bT:=Aside0.mk ((by rw [hg];exact Nat.ne_of_lt (aY (g:=bR) (o:= .cells #[.bool aH,.int .i64 aG,.int .i64 dJ,.slice eT cM.length eU,.slice eX cN.length eY] 29 (0,0)) (aJ bu)):bR≠cn));have cm:=Aside0.mk ((by rw [hg];exact Nat.ne_of_gt (aY (g:=bR) (o:= .cells #[.bool aH,.int .i64 aG,.int .i64 dJ,.slice eT cM.length eU,.slice eX cN.length eY] 29 (0,0)) (aJ bu)):cn≠bR));clear bu;clear HB;have bu:=ay;have HB:=aA;have bE:=aD;have Ny:=aR;have Nz:=bK;have mH:=bT;have mI:=cm;clear ay aA aD aR bK bT cm;clear hb aU hg;have b3g:=mH.out;have b3h:=mI.out;have a5N:xB.cell? ⟨bR,0,none⟩=some (.bool aH):=(ag bu.out 0).trans rfl;have a5O:xB.cell? ⟨bR,1,none⟩=some (.int .i64 aG):=(ag bu.out 1).trans rfl;have hcz30_2:xB.cell? ⟨bR,2,none⟩=some (.int .i64 dJ):=(ag bu.out 2).trans rfl;have hcz30_3:xB.cell? ⟨bR,3,none⟩=some (.slice eT cM.length eU):=(ag bu.out 3).trans rfl;have hcz30_4:xB.cell? ⟨bR,4,none⟩=some (.slice eX cN.length eY):=(ag bu.out 4).trans rfl;have a5P:=aa bu.out 0;have a5Q:=aa bu.out 1;have hfz30_2:=aa bu.out 2;have hfz30_3:=aa bu.out 3;have hfz30_4:=aa bu.out 4;have yZ:xB.cell? ⟨cn,0,none⟩=some (.bool bg):=(ag bE.out 0).trans rfl;have za:xB.cell? ⟨cn,1,none⟩=some (.int .i64 aV):=(ag bE.out 1).trans rfl;have zb:xB.cell? ⟨cn,2,none⟩=some (.int .i64 dy):=(ag bE.out 2).trans rfl;have hcz31_3:xB.cell? ⟨cn,3,none⟩=some (.slice jH gA.length jI):=(ag bE.out 3).trans rfl;have hcz31_4:xB.cell? ⟨cn,4,none⟩=some (.slice kj gB.length ko):=(ag bE.out 4).trans rfl;have ze:=aa bE.out 0;have zf:=aa bE.out 1;have zg:=aa bE.out 2;have hfz31_3:=aa bE.out 3;have hfz31_4:=aa bE.out 4)|((with_reducible refine aZ (f:=36) rfl ?_);refine bO (some 14) rfl rfl Try.func36 (by kernel_rfl) rfl #[.agg #[.int .i64 aG,.int .i64 dJ],.agg #[.int .i64 aV,.int .i64 dy]] rfl (by (try simp only [List.map_toArray,List.map_cons,List.map_nil]);first|done|rfl|(simp only [List.length_drop,List.length_take];rfl)) ?_;(with_reducible refine (jG.calls aG dJ aV dy true _ A9.out).mono ?_);rintro e qw ⟨rfl,hb⟩;refine ⟨_,rfl,?_⟩;have ay:=Aside0.mk (ah (g:=bR) (o:= .cells #[.bool aH,.int .i64 aG,.int .i64 dJ,.slice eT cM.length eU,.slice eX cN.length eY] 29 (0,0)) (aJ bu) hb);have aA:=Aside0.mk (ah (g:=cn) (o:= .cells #[.bool bg,.int .i64 aV,.int .i64 dy,.slice jH gA.length jI,.slice kj gB.length ko] 29 (0,0)) (aJ bE) hb);have aD:=Aside0.mk (ai ax hb);clear bu;clear bE;clear HB;have bu:=ay;have bE:=aA;have HB:=aD;clear ay aA aD;(try clear hb);(try clear hb2);(try clear hk);(try clear hi);have RN:qw.cell? ⟨bR,0,none⟩=some (.bool aH):=(ag bu.out 0).trans rfl;have RO:qw.cell? ⟨bR,1,none⟩=some (.int .i64 aG):=(ag bu.out 1).trans rfl;have hcz33_2:qw.cell? ⟨bR,2,none⟩=some (.int .i64 dJ):=(ag bu.out 2).trans rfl;have hcz33_3:qw.cell? ⟨bR,3,none⟩=some (.slice eT cM.length eU):=(ag bu.out 3).trans rfl;have hcz33_4:qw.cell? ⟨bR,4,none⟩=some (.slice eX cN.length eY):=(ag bu.out 4).trans rfl;have RP:=aa bu.out 0;have RQ:=aa bu.out 1;have hfz33_2:=aa bu.out 2;have hfz33_3:=aa bu.out 3;have hfz33_4:=aa bu.out 4;have Dq:qw.cell? ⟨cn,0,none⟩=some (.bool bg):=(ag bE.out 0).trans rfl;have Dr:qw.cell? ⟨cn,1,none⟩=some (.int .i64 aV):=(ag bE.out 1).trans rfl;have Ds:qw.cell? ⟨cn,2,none⟩=some (.int .i64 dy):=(ag bE.out 2).trans rfl;have hcz34_3:qw.cell? ⟨cn,3,none⟩=some (.slice jH gA.length jI):=(ag bE.out 3).trans rfl;have hcz34_4:qw.cell? ⟨cn,4,none⟩=some (.slice kj gB.length ko):=(ag bE.out 4).trans rfl;have Dt:=aa bE.out 0;have Du:=aa bE.out 1;have Dv:=aa bE.out 2;have hfz34_3:=aa bE.out 3;have hfz34_4:=aa bE.out 4)|((with_reducible refine aZ (f:=37) rfl ?_);refine bO (some 20) rfl rfl Try.func37 (by kernel_rfl) rfl #[.slice eT cM.length eU,.slice jH gA.length jI] rfl (by (try simp only [List.map_toArray,List.map_cons,List.map_nil]);first|done|rfl|(simp only [List.length_drop,List.length_take];rfl)) ?_;(with_reducible refine (bJ.calls k _ _ cM _ _ gA true _ ?bX ?bY ?iY ?iZ WK.out).mono ?_);(case bX=>repeat (first|exact (Kd.bQ Aq.out HB.out)|(with_reducible refine Kd.cO ?_ _)|(with_reducible refine Kd.cP ?_ _)|(with_reducible refine Kd.dw ?_)));(case bY=>exact Ar.out);(case iY=>repeat (first|exact (Kd.bQ Ut.out HB.out)|(with_reducible refine Kd.cO ?_ _)|(with_reducible refine Kd.cP ?_ _)|(with_reducible refine Kd.dw ?_)));(case iZ=>exact Uu.out);rintro e pI ⟨rfl,hb⟩;refine ⟨_,rfl,?_⟩;have ay:=Aside0.mk (ah (g:=bR) (o:= .cells #[.bool aH,.int .i64 aG,.int .i64 dJ,.slice eT cM.length eU,.slice eX cN.length eY] 29 (0,0)) (aJ bu) hb);have aA:=Aside0.mk (ah (g:=cn) (o:= .cells #[.bool bg,.int .i64 aV,.int .i64 dy,.slice jH gA.length jI,.slice kj gB.length ko] 29 (0,0)) (aJ bE) hb);have aD:=Aside0.mk (ai ax hb);clear bu;clear bE;clear HB;have bu:=ay;have bE:=aA;have HB:=aD;clear ay aA aD;(try clear hb);(try clear hb2);(try clear hk);(try clear hi);have zh:pI.cell? ⟨bR,0,none⟩=some (.bool aH):=(ag bu.out 0).trans rfl;have zi:pI.cell? ⟨bR,1,none⟩=some (.int .i64 aG):=(ag bu.out 1).trans rfl;have zj:pI.cell? ⟨bR,2,none⟩=some (.int .i64 dJ):=(ag bu.out 2).trans rfl;have Dw:pI.cell? ⟨bR,3,none⟩=some (.slice eT cM.length eU):=(ag bu.out 3).trans rfl;have Dx:pI.cell? ⟨bR,4,none⟩=some (.slice eX cN.length eY):=(ag bu.out 4).trans rfl;have zk:=aa bu.out 0;have zl:=aa bu.out 1;have zm:=aa bu.out 2;have Dy:=aa bu.out 3;have Dz:=aa bu.out 4;have Kf:pI.cell? ⟨cn,0,none⟩=some (.bool bg):=(ag bE.out 0).trans rfl;have Kg:pI.cell? ⟨cn,1,none⟩=some (.int .i64 aV):=(ag bE.out 1).trans rfl;have hcz37_2:pI.cell? ⟨cn,2,none⟩=some (.int .i64 dy):=(ag bE.out 2).trans rfl;have hcz37_3:pI.cell? ⟨cn,3,none⟩=some (.slice jH gA.length jI):=(ag bE.out 3).trans rfl;have hcz37_4:pI.cell? ⟨cn,4,none⟩=some (.slice kj gB.length ko):=(ag bE.out 4).trans rfl;have Kh:=aa bE.out 0;have Ki:=aa bE.out 1;have hfz37_2:=aa bE.out 2;have hfz37_3:=aa bE.out 3;have hfz37_4:=aa bE.out 4)|((with_reducible refine aZ (f:=37) rfl ?_);refine bO (some 26) rfl rfl Try.func37 (by kernel_rfl) rfl #[.slice eX cN.length eY,.slice kj gB.length ko] rfl (by (try simp only [List.map_toArray,List.map_cons,List.map_nil]);first|done|rfl|(simp only [List.length_drop,List.length_take];rfl)) ?_;(with_reducible refine (bJ.calls k _ _ cN _ _ gB false _ ?bX ?bY ?iY ?iZ A13.out).mono ?_);(case bX=>repeat (first|exact (Kd.bQ Ho.out HB.out)|(with_reducible refine Kd.cO ?_ _)|(with_reducible refine Kd.cP ?_ _)|(with_reducible refine Kd.dw ?_)));(case bY=>exact Hp.out);(case iY=>repeat (first|exact (Kd.bQ a3n.out HB.out)|(with_reducible refine Kd.cO ?_ _)|(with_reducible refine Kd.cP ?_ _)|(with_reducible refine Kd.dw ?_)));(case iZ=>exact a3o.out);rintro e w38 ⟨rfl,hb⟩;refine ⟨_,rfl,?_⟩;have ay:=Aside0.mk (ah (g:=bR) (o:= .cells #[.bool aH,.int .i64 aG,.int .i64 dJ,.slice eT cM.length eU,.slice eX cN.length eY] 29 (0,0)) (aJ bu) hb);have aA:=Aside0.mk (ah (g:=cn) (o:= .cells #[.bool bg,.int .i64 aV,.int .i64 dy,.slice jH gA.length jI,.slice kj gB.length ko] 29 (0,0)) (aJ bE) hb);have aD:=Aside0.mk (ai ax hb);clear bu;clear bE;clear HB;have bu:=ay;have bE:=aA;have HB:=aD;clear ay aA aD;(try clear hb);(try clear hb2);(try clear hk);(try clear hi)))
     go_ret
     exact ⟨by first|rfl|(simp [aM,aQ]<;>rfl)|(simp [*,aM,aQ]<;>rfl),ax⟩
   ·replace c12:=Bool.eq_false_iff.mpr c12
    subst c12
    have H1:(some false)=some r:=by rw [if_neg (show ¬(false=true) by decide)] at H;exact H
    clear H
    have H:=H1
    clear H1
    obtain rfl:=Option.some.inj H
    go_enter Try.func10,Try.ntmps10
    go_wp2_with (first|((with_reducible refine bk (N:=2) rfl ?_);refine bp ?hg (N:=2) ?hd (cs:= #[.bool aH,.int .i64 aG,.int .i64 dJ,.slice eT cM.length eU,.slice eX cN.length eY]) (t:=29) ?hr ?_;(case hd=>rfl);(case hg=>rfl);(case hr=>first|(go_simp;done)|(go_simp;rfl));intro bR hg LZ aU hb;have ay:=Aside0.mk (ai ax hb);have aA:=Aside0.mk (aU);have aD:=Aside0.mk ((by rw [hg];exact (av ax):w.heap.size<=bR));have aR:=Aside0.mk ((by rw [hg];exact (av ax):w.heap.size<=bR));clear HB;have HB:=ay;have bu:=aA;have Nw:=aD;have Nx:=aR;clear ay aA aD aR;clear hb aU hg)|((with_reducible refine bk (N:=3) rfl ?_);refine bp ?hg (N:=3) ?hd (cs:= #[.bool bg,.int .i64 aV,.int .i64 dy,.slice jH gA.length jI,.slice kj gB.length ko]) (t:=29) ?hr ?_;(case hd=>rfl);(case hg=>rfl);(case hr=>first|(go_simp;done)|(go_simp;rfl));intro cn hg wL aU hb;have ay:=Aside0.mk (ah (g:=bR) (o:= .cells #[.bool aH,.int .i64 aG,.int .i64 dJ,.slice eT cM.length eU,.slice eX cN.length eY] 29 (0,0)) (aJ bu) hb);have aA:=Aside0.mk (ai ax hb);have aD:=Aside0.mk (aU);have aR:=Aside0.mk ((by rw [hg];exact (av ax):w.heap.size<=cn));have bK:=Aside0.mk ((by rw [hg];exact (av ax):w.heap.size<=cn));have bT:=Aside0.mk ((by rw [hg];exact Nat.ne_of_lt (aY (g:=bR) (o:= .cells #[.bool aH,.int .i64 aG,.int .i64 dJ,.slice eT cM.length eU,.slice eX cN.length eY] 29 (0,0)) (aJ bu)):bR≠cn));have cm:=Aside0.mk ((by rw [hg];exact Nat.ne_of_gt (aY (g:=bR) (o:= .cells #[.bool aH,.int .i64 aG,.int .i64 dJ,.slice eT cM.length eU,.slice eX cN.length eY] 29 (0,0)) (aJ bu)):cn≠bR));clear bu;clear HB;have bu:=ay;have HB:=aA;have bE:=aD;have Ny:=aR;have Nz:=bK;have mH:=bT;have mI:=cm;clear ay aA aD aR bK bT cm;clear hb aU hg;have hnb41:=mH.out;have hnc41:=mI.out;have a5R:wL.cell? ⟨bR,0,none⟩=some (.bool aH):=(ag bu.out 0).trans rfl;have a5S:wL.cell? ⟨bR,1,none⟩=some (.int .i64 aG):=(ag bu.out 1).trans rfl;have hcz42_2:wL.cell? ⟨bR,2,none⟩=some (.int .i64 dJ):=(ag bu.out 2).trans rfl;have hcz42_3:wL.cell? ⟨bR,3,none⟩=some (.slice eT cM.length eU):=(ag bu.out 3).trans rfl;have hcz42_4:wL.cell? ⟨bR,4,none⟩=some (.slice eX cN.length eY):=(ag bu.out 4).trans rfl;have a5T:=aa bu.out 0;have a5U:=aa bu.out 1;have hfz42_2:=aa bu.out 2;have hfz42_3:=aa bu.out 3;have hfz42_4:=aa bu.out 4;have hcz43_0:wL.cell? ⟨cn,0,none⟩=some (.bool bg):=(ag bE.out 0).trans rfl;have hcz43_1:wL.cell? ⟨cn,1,none⟩=some (.int .i64 aV):=(ag bE.out 1).trans rfl;have hcz43_2:wL.cell? ⟨cn,2,none⟩=some (.int .i64 dy):=(ag bE.out 2).trans rfl;have hcz43_3:wL.cell? ⟨cn,3,none⟩=some (.slice jH gA.length jI):=(ag bE.out 3).trans rfl;have hcz43_4:wL.cell? ⟨cn,4,none⟩=some (.slice kj gB.length ko):=(ag bE.out 4).trans rfl;have hfz43_0:=aa bE.out 0;have hfz43_1:=aa bE.out 1;have hfz43_2:=aa bE.out 2;have hfz43_3:=aa bE.out 3;have hfz43_4:=aa bE.out 4)|((with_reducible refine aZ (f:=36) rfl ?_);refine bO (some 14) rfl rfl Try.func36 (by kernel_rfl) rfl #[.agg #[.int .i64 aG,.int .i64 dJ],.agg #[.int .i64 aV,.int .i64 dy]] rfl (by (try simp only [List.map_toArray,List.map_cons,List.map_nil]);first|done|rfl|(simp only [List.length_drop,List.length_take];rfl)) ?_;(with_reducible refine (jG.calls aG dJ aV dy true _ A9.out).mono ?_);rintro e Bp ⟨rfl,hb⟩;refine ⟨_,rfl,?_⟩;have ay:=Aside0.mk (ah (g:=bR) (o:= .cells #[.bool aH,.int .i64 aG,.int .i64 dJ,.slice eT cM.length eU,.slice eX cN.length eY] 29 (0,0)) (aJ bu) hb);have aA:=Aside0.mk (ah (g:=cn) (o:= .cells #[.bool bg,.int .i64 aV,.int .i64 dy,.slice jH gA.length jI,.slice kj gB.length ko] 29 (0,0)) (aJ bE) hb);have aD:=Aside0.mk (ai ax hb);clear bu;clear bE;clear HB;have bu:=ay;have bE:=aA;have HB:=aD;clear ay aA aD;(try clear hb);(try clear hb2);(try clear hk);(try clear hi);have hcz45_0:Bp.cell? ⟨bR,0,none⟩=some (.bool aH):=(ag bu.out 0).trans rfl;have hcz45_1:Bp.cell? ⟨bR,1,none⟩=some (.int .i64 aG):=(ag bu.out 1).trans rfl;have hcz45_2:Bp.cell? ⟨bR,2,none⟩=some (.int .i64 dJ):=(ag bu.out 2).trans rfl;have hcz45_3:Bp.cell? ⟨bR,3,none⟩=some (.slice eT cM.length eU):=(ag bu.out 3).trans rfl;have hcz45_4:Bp.cell? ⟨bR,4,none⟩=some (.slice eX cN.length eY):=(ag bu.out 4).trans rfl;have hfz45_0:=aa bu.out 0;have hfz45_1:=aa bu.out 1;have hfz45_2:=aa bu.out 2;have hfz45_3:=aa bu.out 3;have hfz45_4:=aa bu.out 4;have hcz46_0:Bp.cell? ⟨cn,0,none⟩=some (.bool bg):=(ag bE.out 0).trans rfl;have hcz46_1:Bp.cell? ⟨cn,1,none⟩=some (.int .i64 aV):=(ag bE.out 1).trans rfl;have hcz46_2:Bp.cell? ⟨cn,2,none⟩=some (.int .i64 dy):=(ag bE.out 2).trans rfl;have hcz46_3:Bp.cell? ⟨cn,3,none⟩=some (.slice jH gA.length jI):=(ag bE.out 3).trans rfl;have hcz46_4:Bp.cell? ⟨cn,4,none⟩=some (.slice kj gB.length ko):=(ag bE.out 4).trans rfl;have hfz46_0:=aa bE.out 0;have hfz46_1:=aa bE.out 1;have hfz46_2:=aa bE.out 2;have hfz46_3:=aa bE.out 3;have hfz46_4:=aa bE.out 4)|((with_reducible refine aZ (f:=37) rfl ?_);refine bO (some 20) rfl rfl Try.func37 (by kernel_rfl) rfl #[.slice eT cM.length eU,.slice jH gA.length jI] rfl (by (try simp only [List.map_toArray,List.map_cons,List.map_nil]);first|done|rfl|(simp only [List.length_drop,List.length_take];rfl)) ?_;(with_reducible refine (bJ.calls k _ _ cM _ _ gA false _ ?bX ?bY ?iY ?iZ WK.out).mono ?_);(case bX=>repeat (first|exact (Kd.bQ Aq.out HB.out)|(with_reducible refine Kd.cO ?_ _)|(with_reducible refine Kd.cP ?_ _)|(with_reducible refine Kd.dw ?_)));(case bY=>exact Ar.out);(case iY=>repeat (first|exact (Kd.bQ Ut.out HB.out)|(with_reducible refine Kd.cO ?_ _)|(with_reducible refine Kd.cP ?_ _)|(with_reducible refine Kd.dw ?_)));(case iZ=>exact Uu.out);rintro e w47 ⟨rfl,hb⟩;refine ⟨_,rfl,?_⟩;have ay:=Aside0.mk (ah (g:=bR) (o:= .cells #[.bool aH,.int .i64 aG,.int .i64 dJ,.slice eT cM.length eU,.slice eX cN.length eY] 29 (0,0)) (aJ bu) hb);have aA:=Aside0.mk (ah (g:=cn) (o:= .cells #[.bool bg,.int .i64 aV,.int .i64 dy,.slice jH gA.length jI,.slice kj gB.length ko] 29 (0,0)) (aJ bE) hb);have aD:=Aside0.mk (ai ax hb);clear bu;clear bE;clear HB;have bu:=ay;have bE:=aA;have HB:=aD;clear ay aA aD;(try clear hb);(try clear hb2);(try clear hk);(try clear hi)))
    go_ret
    exact ⟨by first|rfl|(simp [aM,aQ]<;>rfl)|(simp [*,aM,aQ]<;>rfl),ax⟩
  ·replace c10:=Bool.eq_false_iff.mpr c10
   subst c10
   have H1:(some false)=some r:=by rw [if_neg (show ¬(false=true) by decide)] at H;exact H
   clear H
   have H:=H1
   clear H1
   obtain rfl:=Option.some.inj H
   go_enter Try.func10,Try.ntmps10
   go_wp2_with (first|((with_reducible refine bk (N:=2) rfl ?_);refine bp ?hg (N:=2) ?hd (cs:= #[.bool aH,.int .i64 aG,.int .i64 dJ,.slice eT cM.length eU,.slice eX cN.length eY]) (t:=29) ?hr ?_;(case hd=>rfl);(case hg=>rfl);(case hr=>first|(go_simp;done)|(go_simp;rfl));intro bR hg w48 aU hb;have ay:=Aside0.mk (ai ax hb);have aA:=Aside0.mk (aU);have aD:=Aside0.mk ((by rw [hg];exact (av ax):w.heap.size<=bR));have aR:=Aside0.mk ((by rw [hg];exact (av ax):w.heap.size<=bR));clear HB;have HB:=ay;have bu:=aA;have Nw:=aD;have Nx:=aR;clear ay aA aD aR;clear hb aU hg)|((with_reducible refine bk (N:=3) rfl ?_);refine bp ?hg (N:=3) ?hd (cs:= #[.bool bg,.int .i64 aV,.int .i64 dy,.slice jH gA.length jI,.slice kj gB.length ko]) (t:=29) ?hr ?_;(case hd=>rfl);(case hg=>rfl);(case hr=>first|(go_simp;done)|(go_simp;rfl));intro cn hg BQ aU hb;have ay:=Aside0.mk (ah (g:=bR) (o:= .cells #[.bool aH,.int .i64 aG,.int .i64 dJ,.slice eT cM.length eU,.slice eX cN.length eY] 29 (0,0)) (aJ bu) hb);have aA:=Aside0.mk (ai ax hb);have aD:=Aside0.mk (aU);have aR:=Aside0.mk ((by rw [hg];exact (av ax):w.heap.size<=cn));have bK:=Aside0.mk ((by rw [hg];exact (av ax):w.heap.size<=cn));have bT:=Aside0.mk ((by rw [hg];exact Nat.ne_of_lt (aY (g:=bR) (o:= .cells #[.bool aH,.int .i64 aG,.int .i64 dJ,.slice eT cM.length eU,.slice eX cN.length eY] 29 (0,0)) (aJ bu)):bR≠cn));have cm:=Aside0.mk ((by rw [hg];exact Nat.ne_of_gt (aY (g:=bR) (o:= .cells #[.bool aH,.int .i64 aG,.int .i64 dJ,.slice eT cM.length eU,.slice eX cN.length eY] 29 (0,0)) (aJ bu)):cn≠bR));clear bu;clear HB;have bu:=ay;have HB:=aA;have bE:=aD;have Ny:=aR;have Nz:=bK;have mH:=bT;have mI:=cm;clear ay aA aD aR bK bT cm;clear hb aU hg;have hnb50:=mH.out;have hnc50:=mI.out;have hcz51_0:BQ.cell? ⟨bR,0,none⟩=some (.bool aH):=(ag bu.out 0).trans rfl;have hcz51_1:BQ.cell? ⟨bR,1,none⟩=some (.int .i64 aG):=(ag bu.out 1).trans rfl;have hcz51_2:BQ.cell? ⟨bR,2,none⟩=some (.int .i64 dJ):=(ag bu.out 2).trans rfl;have hcz51_3:BQ.cell? ⟨bR,3,none⟩=some (.slice eT cM.length eU):=(ag bu.out 3).trans rfl;have hcz51_4:BQ.cell? ⟨bR,4,none⟩=some (.slice eX cN.length eY):=(ag bu.out 4).trans rfl;have hfz51_0:=aa bu.out 0;have hfz51_1:=aa bu.out 1;have hfz51_2:=aa bu.out 2;have hfz51_3:=aa bu.out 3;have hfz51_4:=aa bu.out 4;have a5V:BQ.cell? ⟨cn,0,none⟩=some (.bool bg):=(ag bE.out 0).trans rfl;have a5W:BQ.cell? ⟨cn,1,none⟩=some (.int .i64 aV):=(ag bE.out 1).trans rfl;have hcz52_2:BQ.cell? ⟨cn,2,none⟩=some (.int .i64 dy):=(ag bE.out 2).trans rfl;have hcz52_3:BQ.cell? ⟨cn,3,none⟩=some (.slice jH gA.length jI):=(ag bE.out 3).trans rfl;have hcz52_4:BQ.cell? ⟨cn,4,none⟩=some (.slice kj gB.length ko):=(ag bE.out 4).trans rfl;have a5X:=aa bE.out 0;have a5Y:=aa bE.out 1;have hfz52_2:=aa bE.out 2;have hfz52_3:=aa bE.out 3;have hfz52_4:=aa bE.out 4)|((with_reducible refine aZ (f:=36) rfl ?_);refine bO (some 14) rfl rfl Try.func36 (by kernel_rfl) rfl #[.agg #[.int .i64 aG,.int .i64 dJ],.agg #[.int .i64 aV,.int .i64 dy]] rfl (by (try simp only [List.map_toArray,List.map_cons,List.map_nil]);first|done|rfl|(simp only [List.length_drop,List.length_take];rfl)) ?_;(with_reducible refine (jG.calls aG dJ aV dy false _ A9.out).mono ?_);rintro e w53 ⟨rfl,hb⟩;refine ⟨_,rfl,?_⟩;have ay:=Aside0.mk (ah (g:=bR) (o:= .cells #[.bool aH,.int .i64 aG,.int .i64 dJ,.slice eT cM.length eU,.slice eX cN.length eY] 29 (0,0)) (aJ bu) hb);have aA:=Aside0.mk (ah (g:=cn) (o:= .cells #[.bool bg,.int .i64 aV,.int .i64 dy,.slice jH gA.length jI,.slice kj gB.length ko] 29 (0,0)) (aJ bE) hb);have aD:=Aside0.mk (ai ax hb);clear bu;clear bE;clear HB;have bu:=ay;have bE:=aA;have HB:=aD;clear ay aA aD;(try clear hb);(try clear hb2);(try clear hk);(try clear hi)))
   go_ret
   exact ⟨by first|rfl|(simp [aM,aQ]<;>rfl)|(simp [*,aM,aQ]<;>rfl),ax⟩
def ct.l0:Nat->List (bV)->Int->Int->Option (Int)
 |0,_,_,_=>none
 |k+1,x0,x1,x5=>if x5<(x0.length:Int) then (if 0<=x5 then (if ((bh x0 x5).f0)=x1 then (if ((bh x0 x5).f1)=(wrap64 (x1+1)) then (ct.l0 k x0 (wrap64 ((wrap64 (x1+1))+1)) (wrap64 (x5+1))) else (some (-1))) else (some (-1))) else (none)) else (some x1)
def ct.f (k:Nat) (l0:List (bV)) (a1:Int):Option (Int):=ct.l0 k l0 a1 0
theorem ct.cH:∀k,(∀y0 y1 y2,aW (ct.l0 k y0 y1 y2) (ct.l0 (k+1) y0 y1 y2))
 |0=>fun _ _ _ r h=>by simp [ct.l0] at h
 |k+1=>by
  have dP:=ct.cH k
  ·intro y0 y1 y2
   unfold ct.l0
   repeat' first
   |(with_reducible exact dP _ _ _)
   |(with_reducible exact aW.refl _)
   |(with_reducible exact aW.none _)
   |(with_reducible refine aW.ite ?_ ?_)
   |(with_reducible refine aW.bind ?_ (fun _=>?_))
theorem ct.mono:∀a0 a1 k,aW (ct.f k a0 a1) (ct.f (k+1) a0 a1):=by
 intro a0 a1 k
 have dP:=ct.cH k
 unfold ct.f
 repeat' first
  |(with_reducible exact dP _ _ _)
  |(with_reducible exact aW.refl _)
  |(with_reducible exact aW.none _)
  |(with_reducible refine aW.ite ?_ ?_)
  |(with_reducible refine aW.bind ?_ (fun _=>?_))
set_option maxHeartbeats 8000000 in
set_option maxRecDepth 100000 in
theorem ct.calls (k:Nat) (A0:Option Addr) (c0:Nat) (l0:List (bV)) (a1:Int) (r:Int) (w:World) (fE:Kd.C fD w A0 l0.length l0) (hc0:l0.length<=c0) (h:ct.f k l0 a1=some r):
 Calls Try.prog 39 #[.slice A0 l0.length c0,.int .i64 a1] w fun e w'=>e= .returned (.int .i64 r)/\bl w w':=by
 have eL:=Aside0.mk fE
 have kB:=Aside0.mk hc0
 clear fE hc0
 have H:(ct.l0 k l0 a1 0)=some r:=h
 clear h
 have H':=Aside0.mk H
 clear H
 go_enter Try.func39,Try.ntmps39
 go_wp2
 go_loopg [1,5] k (fun kq v1 v5 w'=>∃(eE:Int) (aT:Int),v1= .int .i64 eE/\v5= .int .i64 aT/\Aside0 (ct.l0 kq l0 eE aT=some r)/\Aside0 (kq<=k)/\bl w w')
 case atStart=>exact ⟨(a1),(0),(by first|rfl|(simp;done)|(simp [*];done)),(by first|rfl|(simp;done)|(simp [*];done)),H',⟨Nat.le_refl _⟩,by repeat (first|exact bl.refl _|apply bl.step)⟩
 case round=>
  clear H'
  try clear p2
  obtain ⟨eE,aT,rfl,rfl,HA,fI,⟨m1,rfl⟩⟩:=hrel
  cases gk with
  |zero=>exact absurd HA.out (by simp [ct.l0])
  |succ k1=>
   have H:=HA.out
   clear HA
   simp only [ct.l0] at H
   by_cases c3:aT<(l0.length:Int)
   ·rw [if_pos c3] at H
    have gw:decide (aT<(l0.length:Int))=true:=decide_eq_true c3
    clear c3
    by_cases c4:0<=aT
    ·rw [if_pos c4] at H
     have kP:decide (0<=aT)=true:=decide_eq_true c4
     clear c4
     by_cases c5:((bh l0 aT).f0)=eE
     ·rw [if_pos c5] at H
      have sZ:(((bh l0 aT).f0)==eE)=true:=beq_iff_eq.mpr c5
      have a8O:(((bh l0 aT).f0) !=eE)=false:=bne_eq_false_iff_eq.mpr c5
      clear c5
      by_cases c6:((bh l0 aT).f1)=(wrap64 (eE+1))
      ·rw [if_pos c6] at H
       have oQ:(((bh l0 aT).f1)==(wrap64 (eE+1)))=true:=beq_iff_eq.mpr c6
       have OL:(((bh l0 aT).f1) !=(wrap64 (eE+1)))=false:=bne_eq_false_iff_eq.mpr c6
       clear c6
       have H':=Aside0.mk H
       clear H
       have wM:0<=(aT:Int):=of_decide_eq_true (by first|(with_reducible assumption)|assumption)
       have wN:aT<(l0.length:Int):=of_decide_eq_true (by first|(with_reducible assumption)|assumption)
       obtain ⟨NA,OM,RR,RS⟩:=iI eL.out aT wM wN
       cases OM
       replace wM:=eq_true wM
       replace wN:=eq_true wN
       have Fy:0<=(aT:Int):=of_decide_eq_true (by first|(with_reducible assumption)|assumption)
       have Fz:aT<(l0.length:Int):=of_decide_eq_true (by first|(with_reducible assumption)|assumption)
       obtain ⟨Uv,a0F,a5Z,a6a⟩:=iI eL.out aT Fy Fz
       obtain rfl:NA=Uv:=(by injection a0F)
       replace Fy:=eq_true Fy
       replace Fz:=eq_true Fz
       go_wp2
       go_roundg k1
       case measure=>have:=fI.out;omega
       case rel=>exact ⟨(wrap64 ((wrap64 (eE+1))+1)),(wrap64 (aT+1)),(by first|rfl|(simp;done)|(simp [*];done)),(by first|rfl|(simp;done)|(simp [*];done)),H',⟨by have:=fI.out;omega⟩,by repeat (first|exact bl.refl _|apply bl.step)⟩
      ·rw [if_neg c6] at H
       have oQ:(((bh l0 aT).f1)==(wrap64 (eE+1)))=false:=beq_eq_false_iff_ne.mpr c6
       have OL:(((bh l0 aT).f1) !=(wrap64 (eE+1)))=true:=bne_iff_ne.mpr c6
       obtain rfl:=Option.some.inj H
       have wM:0<=(aT:Int):=of_decide_eq_true (by first|(with_reducible assumption)|assumption)
       have wN:aT<(l0.length:Int):=of_decide_eq_true (by first|(with_reducible assumption)|assumption)
       obtain ⟨NA,OM,RR,RS⟩:=iI eL.out aT wM wN
       cases OM
       replace wM:=eq_true wM
       replace wN:=eq_true wN
       have Fy:0<=(aT:Int):=of_decide_eq_true (by first|(with_reducible assumption)|assumption)
       have Fz:aT<(l0.length:Int):=of_decide_eq_true (by first|(with_reducible assumption)|assumption)
       obtain ⟨Uv,a0F,a5Z,a6a⟩:=iI eL.out aT Fy Fz
       obtain rfl:NA=Uv:=(by injection a0F)
       replace Fy:=eq_true Fy
       replace Fz:=eq_true Fz
       go_wp2
       go_ret
       exact ⟨by first|rfl|(simp;done)|(simp [*];done),by repeat (first|exact bl.refl _|apply bl.step)⟩
     ·rw [if_neg c5] at H
      have sZ:(((bh l0 aT).f0)==eE)=false:=beq_eq_false_iff_ne.mpr c5
      have a8O:(((bh l0 aT).f0) !=eE)=true:=bne_iff_ne.mpr c5
      obtain rfl:=Option.some.inj H
      have wM:0<=(aT:Int):=of_decide_eq_true (by first|(with_reducible assumption)|assumption)
      have wN:aT<(l0.length:Int):=of_decide_eq_true (by first|(with_reducible assumption)|assumption)
      obtain ⟨NA,OM,RR,RS⟩:=iI eL.out aT wM wN
      cases OM
      replace wM:=eq_true wM
      replace wN:=eq_true wN
      go_wp2
      go_ret
      exact ⟨by first|rfl|(simp;done)|(simp [*];done),by repeat (first|exact bl.refl _|apply bl.step)⟩
    ·rw [if_neg c4] at H
     exact absurd H (by simp)
   ·rw [if_neg c3] at H
    have gw:decide (aT<(l0.length:Int))=false:=decide_eq_false c3
    clear c3
    obtain rfl:=Option.some.inj H
    go_wp2
    go_ret
    exact ⟨by first|rfl|(simp;done)|(simp [*];done),by repeat (first|exact bl.refl _|apply bl.step)⟩
def lT.f (k:Nat) (aH:Bool) (aG:Int) (dJ:Int) (cM:List (bV)) (cN:List (bV)) (a1:Int):Option (Int):=(ct.f k cM a1).bind fun oT=>(if oT<0 then (some (-1)) else ((ct.f k cN oT).bind fun qy=>(if qy<0 then (some (-1)) else (some qy))))
theorem lT.mono:∀a0 a1 a2 a3 a4 a5 k,aW (lT.f k a0 a1 a2 a3 a4 a5) (lT.f (k+1) a0 a1 a2 a3 a4 a5):=by
 intro a0 a1 a2 a3 a4 a5 k
 unfold lT.f
 repeat' first
  |(with_reducible exact ct.mono _ _ _)
  |(with_reducible exact aW.refl _)
  |(with_reducible exact aW.none _)
  |(with_reducible refine aW.ite ?_ ?_)
  |(with_reducible refine aW.bind ?_ (fun _=>?_))
set_option maxHeartbeats 8000000 in
set_option maxRecDepth 100000 in
theorem lT.calls (k:Nat) (aH:Bool) (aG:Int) (dJ:Int) (eT:Option Addr) (eU:Nat) (cM:List (bV)) (eX:Option Addr) (eY:Nat) (cN:List (bV)) (a1:Int) (r:Int) (w:World) (Hf:Kd.C fD w eT cM.length cM) (Hg:cM.length<=eU) (Hj:Kd.C fD w eX cN.length cN) (Hl:cN.length<=eY) (h:lT.f k aH aG dJ cM cN a1=some r):
 Calls Try.prog 16 #[.agg #[.bool aH,.int .i64 aG,.int .i64 dJ,.slice eT cM.length eU,.slice eX cN.length eY],.int .i64 a1] w fun e w'=>e= .returned (.int .i64 r)/\Below w.heap.size w w':=by
 have a0E:=Try.underlying29
 have Aq:=Aside0.mk Hf
 have Ar:=Aside0.mk Hg
 clear Hf Hg
 have Ho:=Aside0.mk Hj
 have Hp:=Aside0.mk Hl
 clear Hj Hl
 have HB:=Aside0.mk (Below.refl w.heap.size w)
 have H:((ct.f k cM a1).bind fun oT=>(if oT<0 then (some (-1)) else ((ct.f k cN oT).bind fun qy=>(if qy<0 then (some (-1)) else (some qy)))))=some r:=h
 clear h
 replace H:=Option.bind_eq_some_iff.mp H
 obtain ⟨oT,iO,H⟩:=H
 replace H:(if oT<0 then (some (-1)) else ((ct.f k cN oT).bind fun qy=>(if qy<0 then (some (-1)) else (some qy))))=some r:=H
 have A3:=Aside0.mk iO
 clear iO
 by_cases c4:oT<0
 ·rw [if_pos c4] at H
  have kP:decide (oT<0)=true:=decide_eq_true c4
  clear c4
  obtain rfl:=Option.some.inj H
  go_enter Try.func16,Try.ntmps16
  go_wp2_with (first|((with_reducible refine bk (N:=2) rfl ?_);refine bp ?hg (N:=2) ?hd (cs:= #[.bool aH,.int .i64 aG,.int .i64 dJ,.slice eT cM.length eU,.slice eX cN.length eY]) (t:=29) ?hr ?_;(case hd=>rfl);(case hg=>rfl);(case hr=>first|(go_simp;done)|(go_simp;rfl));intro jJ hg w5 aU hb;have ay:=Aside0.mk (ai ax hb);have aA:=Aside0.mk (aU);have aD:=Aside0.mk ((by rw [hg];exact (av ax):w.heap.size<=jJ));have aR:=Aside0.mk ((by rw [hg];exact (av ax):w.heap.size<=jJ));clear HB;have HB:=ay;have gq:=aA;have a3q:=aD;have a3r:=aR;clear ay aA aD aR;clear hb aU hg;have OO:w5.cell? ⟨jJ,0,none⟩=some (.bool aH):=(ag gq.out 0).trans rfl;have OP:w5.cell? ⟨jJ,1,none⟩=some (.int .i64 aG):=(ag gq.out 1).trans rfl;have hcz6_2:w5.cell? ⟨jJ,2,none⟩=some (.int .i64 dJ):=(ag gq.out 2).trans rfl;have hcz6_3:w5.cell? ⟨jJ,3,none⟩=some (.slice eT cM.length eU):=(ag gq.out 3).trans rfl;have hcz6_4:w5.cell? ⟨jJ,4,none⟩=some (.slice eX cN.length eY):=(ag gq.out 4).trans rfl;have OQ:=aa gq.out 0;have OS:=aa gq.out 1;have hfz6_2:=aa gq.out 2;have hfz6_3:=aa gq.out 3;have hfz6_4:=aa gq.out 4)|((with_reducible refine aZ (f:=39) rfl ?_);refine bO (some 8) rfl rfl Try.func39 (by kernel_rfl) rfl #[.slice eT cM.length eU,.int .i64 a1] rfl (by (try simp only [List.map_toArray,List.map_cons,List.map_nil]);first|done|rfl|(simp only [List.length_drop,List.length_take];rfl)) ?_;(with_reducible refine (ct.calls k _ _ cM a1 oT _ ?bX ?bY A3.out).mono ?_);(case bX=>repeat (first|exact (Kd.bQ Aq.out HB.out)|(with_reducible refine Kd.cO ?_ _)|(with_reducible refine Kd.cP ?_ _)|(with_reducible refine Kd.dw ?_)));(case bY=>exact Ar.out);rintro e w' ⟨rfl,⟨nd,rfl⟩⟩;refine ⟨_,rfl,?_⟩))
  go_ret
  exact ⟨by first|rfl|(simp [aM,aQ]<;>rfl)|(simp [*,aM,aQ]<;>rfl),ax⟩
 ·rw [if_neg c4] at H
  have kP:decide (oT<0)=false:=decide_eq_false c4
  clear c4
  replace H:=Option.bind_eq_some_iff.mp H
  obtain ⟨qy,BP,H⟩:=H
  replace H:(if qy<0 then (some (-1)) else (some qy))=some r:=H
  have A7:=Aside0.mk BP
  clear BP
  by_cases c8:qy<0
  ·rw [if_pos c8] at H
   have td:decide (qy<0)=true:=decide_eq_true c8
   clear c8
   obtain rfl:=Option.some.inj H
   go_enter Try.func16,Try.ntmps16
   go_wp2_with (first|((with_reducible refine bk (N:=2) rfl ?_);refine bp ?hg (N:=2) ?hd (cs:= #[.bool aH,.int .i64 aG,.int .i64 dJ,.slice eT cM.length eU,.slice eX cN.length eY]) (t:=29) ?hr ?_;(case hd=>rfl);(case hg=>rfl);(case hr=>first|(go_simp;done)|(go_simp;rfl));intro jJ hg w9 aU hb;have ay:=Aside0.mk (ai ax hb);have aA:=Aside0.mk (aU);have aD:=Aside0.mk ((by rw [hg];exact (av ax):w.heap.size<=jJ));have aR:=Aside0.mk ((by rw [hg];exact (av ax):w.heap.size<=jJ));clear HB;have HB:=ay;have gq:=aA;have a3q:=aD;have a3r:=aR;clear ay aA aD aR;clear hb aU hg;have Kj:w9.cell? ⟨jJ,0,none⟩=some (.bool aH):=(ag gq.out 0).trans rfl;have Kk:w9.cell? ⟨jJ,1,none⟩=some (.int .i64 aG):=(ag gq.out 1).trans rfl;have a6b:w9.cell? ⟨jJ,2,none⟩=some (.int .i64 dJ):=(ag gq.out 2).trans rfl;have a6c:w9.cell? ⟨jJ,3,none⟩=some (.slice eT cM.length eU):=(ag gq.out 3).trans rfl;have a6d:w9.cell? ⟨jJ,4,none⟩=some (.slice eX cN.length eY):=(ag gq.out 4).trans rfl;have Kl:=aa gq.out 0;have Km:=aa gq.out 1;have a6e:=aa gq.out 2;have a6f:=aa gq.out 3;have a6g:=aa gq.out 4)|((with_reducible refine aZ (f:=39) rfl ?_);refine bO (some 8) rfl rfl Try.func39 (by kernel_rfl) rfl #[.slice eT cM.length eU,.int .i64 a1] rfl (by (try simp only [List.map_toArray,List.map_cons,List.map_nil]);first|done|rfl|(simp only [List.length_drop,List.length_take];rfl)) ?_;(with_reducible refine (ct.calls k _ _ cM a1 oT _ ?bX ?bY A3.out).mono ?_);(case bX=>repeat (first|exact (Kd.bQ Aq.out HB.out)|(with_reducible refine Kd.cO ?_ _)|(with_reducible refine Kd.cP ?_ _)|(with_reducible refine Kd.dw ?_)));(case bY=>exact Ar.out);rintro e w' ⟨rfl,⟨nd,rfl⟩⟩;refine ⟨_,rfl,?_⟩)|((with_reducible refine aZ (f:=39) rfl ?_);refine bO (some 14) rfl rfl Try.func39 (by kernel_rfl) rfl #[.slice eX cN.length eY,.int .i64 oT] rfl (by (try simp only [List.map_toArray,List.map_cons,List.map_nil]);first|done|rfl|(simp only [List.length_drop,List.length_take];rfl)) ?_;(with_reducible refine (ct.calls k _ _ cN oT qy _ ?bX ?bY A7.out).mono ?_);(case bX=>repeat (first|exact (Kd.bQ Ho.out ax)|(with_reducible refine Kd.cO ?_ _)|(with_reducible refine Kd.cP ?_ _)|(with_reducible refine Kd.dw ?_)));(case bY=>exact Hp.out);rintro e w' ⟨rfl,⟨nd,rfl⟩⟩;refine ⟨_,rfl,?_⟩))
   go_ret
   exact ⟨by first|rfl|(simp [aM,aQ]<;>rfl)|(simp [*,aM,aQ]<;>rfl),ax⟩
  ·rw [if_neg c8] at H
   have td:decide (qy<0)=false:=decide_eq_false c8
   clear c8
   obtain rfl:=Option.some.inj H
   go_enter Try.func16,Try.ntmps16
   go_wp2_with (first|((with_reducible refine bk (N:=2) rfl ?_);refine bp ?hg (N:=2) ?hd (cs:= #[.bool aH,.int .i64 aG,.int .i64 dJ,.slice eT cM.length eU,.slice eX cN.length eY]) (t:=29) ?hr ?_;(case hd=>rfl);(case hg=>rfl);(case hr=>first|(go_simp;done)|(go_simp;rfl));intro jJ hg fk aU hb;have ay:=Aside0.mk (ai ax hb);have aA:=Aside0.mk (aU);have aD:=Aside0.mk ((by rw [hg];exact (av ax):w.heap.size<=jJ));have aR:=Aside0.mk ((by rw [hg];exact (av ax):w.heap.size<=jJ));clear HB;have HB:=ay;have gq:=aA;have a3q:=aD;have a3r:=aR;clear ay aA aD aR;clear hb aU hg;have a6h:fk.cell? ⟨jJ,0,none⟩=some (.bool aH):=(ag gq.out 0).trans rfl;have a6i:fk.cell? ⟨jJ,1,none⟩=some (.int .i64 aG):=(ag gq.out 1).trans rfl;have hcz12_2:fk.cell? ⟨jJ,2,none⟩=some (.int .i64 dJ):=(ag gq.out 2).trans rfl;have hcz12_3:fk.cell? ⟨jJ,3,none⟩=some (.slice eT cM.length eU):=(ag gq.out 3).trans rfl;have hcz12_4:fk.cell? ⟨jJ,4,none⟩=some (.slice eX cN.length eY):=(ag gq.out 4).trans rfl;have a6j:=aa gq.out 0;have a6k:=aa gq.out 1;have hfz12_2:=aa gq.out 2;have hfz12_3:=aa gq.out 3;have hfz12_4:=aa gq.out 4)|((with_reducible refine aZ (f:=39) rfl ?_);refine bO (some 8) rfl rfl Try.func39 (by kernel_rfl) rfl #[.slice eT cM.length eU,.int .i64 a1] rfl (by (try simp only [List.map_toArray,List.map_cons,List.map_nil]);first|done|rfl|(simp only [List.length_drop,List.length_take];rfl)) ?_;(with_reducible refine (ct.calls k _ _ cM a1 oT _ ?bX ?bY A3.out).mono ?_);(case bX=>repeat (first|exact (Kd.bQ Aq.out HB.out)|(with_reducible refine Kd.cO ?_ _)|(with_reducible refine Kd.cP ?_ _)|(with_reducible refine Kd.dw ?_)));(case bY=>exact Ar.out);rintro e w' ⟨rfl,⟨nd,rfl⟩⟩;refine ⟨_,rfl,?_⟩)|((with_reducible refine aZ (f:=39) rfl ?_);refine bO (some 14) rfl rfl Try.func39 (by kernel_rfl) rfl #[.slice eX cN.length eY,.int .i64 oT] rfl (by (try simp only [List.map_toArray,List.map_cons,List.map_nil]);first|done|rfl|(simp only [List.length_drop,List.length_take];rfl)) ?_;(with_reducible refine (ct.calls k _ _ cN oT qy _ ?bX ?bY A7.out).mono ?_);(case bX=>repeat (first|exact (Kd.bQ Ho.out ax)|(with_reducible refine Kd.cO ?_ _)|(with_reducible refine Kd.cP ?_ _)|(with_reducible refine Kd.dw ?_)));(case bY=>exact Hp.out);rintro e w' ⟨rfl,⟨nd,rfl⟩⟩;refine ⟨_,rfl,?_⟩))
   go_ret
   exact ⟨by first|rfl|(simp [aM,aQ]<;>rfl)|(simp [*,aM,aQ]<;>rfl),ax⟩
def cB.l0:Nat->List (bV)->Int->Int->Option (Int×(List (bV)))
 |0,_,_,_=>none
 |k+1,x0,x1,x5=>if x5<(x0.length:Int) then (if 0<=x5 then ((some (x0.set (x5:Int).toNat (⟨x1,(bh x0 x5).f1⟩:bV):List (bV))).bind fun tA=>(cB.l0 k (tA.set (x5:Int).toNat (⟨(bh tA x5).f0,wrap64 (x1+1)⟩:bV)) (wrap64 ((wrap64 (x1+1))+1)) (wrap64 (x5+1)))) else (none)) else (some (x1,x0))
def cB.f (k:Nat) (l0:List (bV)) (a1:Int):Option (Int×(List (bV))):=cB.l0 k l0 a1 0
theorem cB.cH:∀k,(∀y0 y1 y2,aW (cB.l0 k y0 y1 y2) (cB.l0 (k+1) y0 y1 y2))
 |0=>fun _ _ _ r h=>by simp [cB.l0] at h
 |k+1=>by
  have dP:=cB.cH k
  ·intro y0 y1 y2
   unfold cB.l0
   repeat' first
   |(with_reducible exact dP _ _ _)
   |(with_reducible exact aW.refl _)
   |(with_reducible exact aW.none _)
   |(with_reducible refine aW.ite ?_ ?_)
   |(with_reducible refine aW.bind ?_ (fun _=>?_))
theorem cB.mono:∀a0 a1 k,aW (cB.f k a0 a1) (cB.f (k+1) a0 a1):=by
 intro a0 a1 k
 have dP:=cB.cH k
 unfold cB.f
 repeat' first
  |(with_reducible exact dP _ _ _)
  |(with_reducible exact aW.refl _)
  |(with_reducible exact aW.none _)
  |(with_reducible refine aW.ite ?_ ?_)
  |(with_reducible refine aW.bind ?_ (fun _=>?_))
set_option maxHeartbeats 8000000 in
set_option maxRecDepth 100000 in
theorem cB.calls (k:Nat) (oJ:Nat->Prop) (kQ:Value) (l0:List (bV)) (a1:Int) (r1:Int) (r2:List (bV)) (w0 w:World) (hB:Below w0.heap.size w0 w) (sk:Kd.R fD 26 w w0.heap.size oJ kQ l0) (h:cB.f k l0 a1=some (r1,r2)):
 Calls Try.prog 38 #[kQ,.int .i64 a1] w fun e w'=>e= .returned (.int .i64 r1)/\Kd.R fD 26 w' w0.heap.size (fun k_=>(oJ k_∨w.heap.size<=k_)) kQ r2/\Below w0.heap.size w0 w'/\Kept w w' (fun k_=>oJ k_):=by
 have GV:=Aside0.mk (show Kd.R fD 26 w w0.heap.size (fun k_=>(oJ k_∨w.heap.size<=k_)) kQ l0 from Kd.dU sk (fun k_ hk=>(.inl hk)))
 have HK:=Aside0.mk (Kept.refl w (fun k_=>oJ k_))
 have HW0:=Aside0.mk hB.size
 have HB:=Aside0.mk hB
 clear hB
 have H:(cB.l0 k l0 a1 0)=some (r1,r2):=h
 clear h
 have H':=Aside0.mk H
 clear H
 go_enter Try.func38,Try.ntmps38
 go_wp2
 go_loopg [1,5] k (fun kq v1 v5 w'=>∃(fS:List (bV)) (eE:Int) (aT:Int),v1= .int .i64 eE/\v5= .int .i64 aT/\Aside0 (cB.l0 kq fS eE aT=some (r1,r2))/\Aside0 (kq<=k)/\Aside0 (Kd.R fD 26 w' w0.heap.size (fun k_=>(oJ k_∨w.heap.size<=k_)) kQ fS)/\Aside0 (Kept w w' (fun k_=>oJ k_))/\Aside0 (Below w0.heap.size w0 w'))
 case atStart=>exact ⟨(l0),(a1),(0),(by first|rfl|(simp;done)|(simp [*];done)),(by first|rfl|(simp;done)|(simp [*];done)),H',⟨Nat.le_refl _⟩,⟨by (with_reducible repeat (first|apply Kd.cF|apply Kd.dm|apply Kd.dO));exact GV.out⟩,⟨by repeat (first|(with_reducible first|exact HK.out|apply Kept.alloc|apply Kept.drewN|apply Kept.drew)|exact HK.out)⟩,⟨ax⟩⟩
 case round=>
  clear H'
  try clear p2
  obtain ⟨fS,eE,aT,rfl,rfl,HA,fI,fT,HK,HB⟩:=hrel
  cases gk with
  |zero=>exact absurd HA.out (by simp [cB.l0])
  |succ k1=>
   have H:=HA.out
   clear HA
   simp only [cB.l0] at H
   by_cases c3:aT<(fS.length:Int)
   ·rw [if_pos c3] at H
    have gw:decide (aT<(fS.length:Int))=true:=decide_eq_true c3
    clear c3
    by_cases c4:0<=aT
    ·rw [if_pos c4] at H
     have kP:decide (0<=aT)=true:=decide_eq_true c4
     clear c4
     obtain ⟨tA,Hq⟩:∃y_:List (bV),y_=(fS.set (aT:Int).toNat (⟨eE,(bh fS aT).f1⟩:bV)):=⟨_,rfl⟩
     replace H:(cB.l0 k1 (tA.set (aT:Int).toNat (⟨(bh tA aT).f0,wrap64 (eE+1)⟩:bV)) (wrap64 ((wrap64 (eE+1))+1)) (wrap64 (aT+1)))=some (r1,r2):=by first|(rw [Hq];with_reducible exact H)|(have dK:=(Option.bind_some _ _).symm.trans H;rw [Hq];with_reducible exact dK)|(have dK:=(Option.bind_some _ _).symm.trans H;with_reducible exact dK)|with_reducible exact H|(rw [Hq];exact H)|exact H
     have b3i:=Aside0.mk Hq
     clear Hq
     obtain ⟨a0G,Hr⟩:∃y_:List (bV),y_=(tA.set (aT:Int).toNat (⟨(bh tA aT).f0,wrap64 (eE+1)⟩:bV)):=⟨_,rfl⟩
     replace H:(cB.l0 k1 a0G (wrap64 ((wrap64 (eE+1))+1)) (wrap64 (aT+1)))=some (r1,r2):=by first|(rw [Hr];with_reducible exact H)|(have dK:=(Option.bind_some _ _).symm.trans H;rw [Hr];with_reducible exact dK)|(have dK:=(Option.bind_some _ _).symm.trans H;with_reducible exact dK)|with_reducible exact H|(rw [Hr];exact H)|exact H
     have b3j:=Aside0.mk Hr
     clear Hr
     have H':=Aside0.mk H
     clear H
     obtain ⟨Ao7,co7,eo7⟩:=Kd.cX fT.out
     subst eo7
     have p5:0<=(aT:Int):=of_decide_eq_true (by first|(with_reducible assumption)|assumption)
     have q5:(aT:Int)<((fS.length:Int):Int):=of_decide_eq_true (by first|(with_reducible assumption)|assumption)
     obtain ⟨oX,GY,Ox,WH,gl5,cl5,Bo⟩:=Kd.GD fT.out (by omega)
     (first|cases Ox|(injection Ox with sj Ot Ou;(first|subst sj|(injection sj with sj;subst sj));subst Ou;clear Ot))
     have GB5:=Aside0.mk WH
     have GG5:=Aside0.mk Bo
     clear WH gl5 Bo
     have b3b:=Aside0.mk (show (oJ oX∨w.heap.size<=oX) from (fT.out.1 _ rfl))
     obtain ⟨ce5,b7s,hM5,a0H,a0I⟩:=Kd.BK fT.out z26 (aT:Int) p5 q5
     obtain rfl:=uu hM5
     have b3c:wr.cell? ⟨oX,(aT:Int).toNat*2,none⟩=some (.int .i64 ((bh fS aT).f0)):=a0H 0 _ rfl
     have hx5_1:wr.cell? ⟨oX,(aT:Int).toNat*2+1,none⟩=some (.int .i64 ((bh fS aT).f1)):=a0H 1 _ rfl
     have b3d:wr.frozen? ⟨oX,(aT:Int).toNat*2,none⟩=false:=a0I 0
     have hf5_1:wr.frozen? ⟨oX,(aT:Int).toNat*2+1,none⟩=false:=a0I 1
     clear b7s a0H a0I;(try clear hM5)
     replace p5:=eq_true p5
     replace q5:=eq_true q5
     have pJ:=Aside0.mk (show Kd.R fD 26 wr w0.heap.size (fun k_=>(oJ k_∨w.heap.size<=k_)) (.slice (some ⟨oX,0,none⟩) fS.length co7) fS from (by (with_reducible repeat (first|apply Kd.cF|apply Kd.dm|apply Kd.dO));exact fT.out))
     obtain ⟨ce8,a8P,hM8,a0J,a8Q⟩:=Kd.BK pJ.out z26 (aT:Int) (of_decide_eq_true (by first|(with_reducible assumption)|assumption)) (by have h_:(aT:Int)<((fS.length:Int):Int):=of_decide_eq_true (by first|(with_reducible assumption)|assumption);first|exact h_|(have e_:=(Kd.kE fT.out).1;omega)|simpa using h_)
     obtain rfl:=uu hM8
     have WL:=Kd.Ui pJ.out (aT:Int) (of_decide_eq_true (by first|(with_reducible assumption)|assumption)) (by have h_:(aT:Int)<((fS.length:Int):Int):=of_decide_eq_true (by first|(with_reducible assumption)|assumption);first|exact h_|(have e_:=(Kd.kE fT.out).1;omega)|simpa using h_) (seg:=[.int .i64 eE]) (j:=0) a8P a0J (show 1<=2 from by decide) (x':=(⟨eE,(bh fS aT).f1⟩:bV)) (Dl _ _ _ (⟨eE,(bh fS aT).f1⟩:bV)) (fun _ hk=>hk)
     have b3k:=a0J 0 _ rfl
     (try simp only [show (fD).sz=2 from rfl,Nat.mul_one,Nat.add_zero] at b3k)
     have b3l:=a8Q 0
     (try simp only [show (fD).sz=2 from rfl,Nat.mul_one,Nat.add_zero] at b3l)
     clear a8P a0J a8Q;(try clear hM8)
     go_wp2_with (first|((with_reducible refine iX (t:=3) (p:=16) rfl ?_);refine qE (t:=3) (p:=16) (v:=?vo_w9) (w1:=(wr.setCell ⟨oX,(aT:Int).toNat*2,none⟩ (.int .i64 eE))) ?hg ?ho ?hn ?hr ?_;(case ho=>rfl);(case hg=>rfl);(case hn=>rfl);(case hr=>first|(go_simp;done)|(go_simp;rfl)|((try (obtain ⟨_,_,e_⟩:=Kd.cX fT.out;rw [e_]));(try (obtain ⟨_,_,e_⟩:=Kd.rL fT.out;rw [e_]));(try (obtain ⟨_,_,e_⟩:=Kd.wk fT.out;rw [e_]));(try (obtain ⟨_,_,e_⟩:=Kd.wm fT.out;rw [e_]));go_simp;first|done|rfl));intro w9 hw;have hg:wr.grownBy w9 (some oX):=(by rw [hw];exact WL.2);have rP:Kd.R fD 26 w9 w0.heap.size (fun k_=>(oJ k_∨w.heap.size<=k_)) (.slice (some ⟨oX,0,none⟩) fS.length co7) tA:=(by rw [hw,b3i.out];exact WL.1);clear WL;have ay:=Aside0.mk (rP);have aA:=Aside0.mk ((by rw [hw];exact br (HB.out) GB5.out:Below w0.heap.size w0 w9));have aD:=Aside0.mk (Kept.Af (S:=(fun k_=>oJ k_)) hg (by repeat (first|(with_reducible first|exact HK.out|apply Kept.alloc|apply Kept.drewN|apply Kept.drew)|exact HK.out)) (fun k_ e_=>(fT.out.1 k_ e_)));clear fT;clear HB;clear HK;have fT:=ay;have HB:=aA;have HK:=aD;clear ay aA aD;clear hg hw rP;have p6:0<=(aT:Int):=of_decide_eq_true (by first|(with_reducible assumption)|assumption);have q6:(aT:Int)<((fS.length:Int):Int):=of_decide_eq_true (by first|(with_reducible assumption)|assumption);obtain ⟨ce6,b7t,hM6,a0K,a0L⟩:=Kd.BK fT.out z26 (aT:Int) p6 q6;obtain rfl:=uu hM6;have hx6_0:w9.cell? ⟨oX,(aT:Int).toNat*2,none⟩=some (.int .i64 ((bh tA aT).f0)):=a0K 0 _ rfl;have hx6_1:w9.cell? ⟨oX,(aT:Int).toNat*2+1,none⟩=some (.int .i64 ((bh tA aT).f1)):=a0K 1 _ rfl;have hf6_0:w9.frozen? ⟨oX,(aT:Int).toNat*2,none⟩=false:=a0L 0;have hf6_1:w9.frozen? ⟨oX,(aT:Int).toNat*2+1,none⟩=false:=a0L 1;clear b7t a0K a0L;(try clear hM6);replace p6:=eq_true p6;replace q6:=eq_true q6;have a8R:=Aside0.mk (show Kd.R fD 26 w9 w0.heap.size (fun k_=>(oJ k_∨w.heap.size<=k_)) (.slice (some ⟨oX,0,none⟩) fS.length co7) tA from (by (with_reducible repeat (first|apply Kd.cF|apply Kd.dm|apply Kd.dO));exact fT.out));obtain ⟨b7p,Nv,Ov,Dp,GU⟩:=Kd.BK a8R.out z26 (aT:Int) (of_decide_eq_true (by first|(with_reducible assumption)|assumption)) (by have h_:(aT:Int)<((fS.length:Int):Int):=of_decide_eq_true (by first|(with_reducible assumption)|assumption);first|exact h_|(have e_:=(Kd.kE fT.out).1;omega)|simpa using h_);obtain rfl:=uu Ov;have Ff:=Kd.Ui a8R.out (aT:Int) (of_decide_eq_true (by first|(with_reducible assumption)|assumption)) (by have h_:(aT:Int)<((fS.length:Int):Int):=of_decide_eq_true (by first|(with_reducible assumption)|assumption);first|exact h_|(have e_:=(Kd.kE fT.out).1;omega)|simpa using h_) (seg:=[.int .i64 (wrap64 (eE+1))]) (j:=1) Nv Dp (show 2<=2 from by decide) (x':=(⟨(bh tA aT).f0,wrap64 (eE+1)⟩:bV)) (Dl _ _ _ (⟨(bh tA aT).f0,wrap64 (eE+1)⟩:bV)) (fun _ hk=>hk);have a8S:=Dp 1 _ rfl;(try simp only [show (fD).sz=2 from rfl,Nat.mul_one,Nat.add_zero] at a8S);have a8T:=GU 1;(try simp only [show (fD).sz=2 from rfl,Nat.mul_one,Nat.add_zero] at a8T);clear Nv Dp GU;(try clear Ov))|((with_reducible refine iX (t:=3) (p:=23) rfl ?_);refine qE (t:=3) (p:=23) (v:=?a8g) (w1:=(w9.setCell ⟨oX,(aT:Int).toNat*2+1,none⟩ (.int .i64 (wrap64 (eE+1))))) ?hg ?ho ?hn ?hr ?_;(case ho=>rfl);(case hg=>rfl);(case hn=>rfl);(case hr=>first|(go_simp;done)|(go_simp;rfl)|((try (obtain ⟨_,_,e_⟩:=Kd.cX fT.out;rw [e_]));(try (obtain ⟨_,_,e_⟩:=Kd.rL fT.out;rw [e_]));(try (obtain ⟨_,_,e_⟩:=Kd.wk fT.out;rw [e_]));(try (obtain ⟨_,_,e_⟩:=Kd.wm fT.out;rw [e_]));go_simp;first|done|rfl));intro fk hw;have hg:w9.grownBy fk (some oX):=(by rw [hw];exact Ff.2);have rP:Kd.R fD 26 fk w0.heap.size (fun k_=>(oJ k_∨w.heap.size<=k_)) (.slice (some ⟨oX,0,none⟩) fS.length co7) a0G:=(by rw [hw,b3j.out];exact Ff.1);clear Ff;have ay:=Aside0.mk (rP);have aA:=Aside0.mk ((by rw [hw];exact br (HB.out) GB5.out:Below w0.heap.size w0 fk));have aD:=Aside0.mk (Kept.Af (S:=(fun k_=>oJ k_)) hg (by repeat (first|(with_reducible first|exact HK.out|apply Kept.alloc|apply Kept.drewN|apply Kept.drew)|exact HK.out)) (fun k_ e_=>(fT.out.1 k_ e_)));clear fT;clear HB;clear HK;have fT:=ay;have HB:=aA;have HK:=aD;clear ay aA aD;clear hg hw rP))
     go_roundg k1
     case measure=>have:=fI.out;omega
     case rel=>exact ⟨(a0G),(wrap64 ((wrap64 (eE+1))+1)),(wrap64 (aT+1)),(by first|rfl|(simp;done)|(simp [*];done)),(by first|rfl|(simp;done)|(simp [*];done)),H',⟨by have:=fI.out;omega⟩,⟨by (with_reducible repeat (first|apply Kd.cF|apply Kd.dm|apply Kd.dO));exact fT.out⟩,⟨by repeat (first|(with_reducible first|exact HK.out|apply Kept.alloc|apply Kept.drewN|apply Kept.drew)|exact HK.out)⟩,⟨ax⟩⟩
    ·rw [if_neg c4] at H
     exact absurd H (by simp)
   ·rw [if_neg c3] at H
    have gw:decide (aT<(fS.length:Int))=false:=decide_eq_false c3
    clear c3
    simp only [Option.some.injEq,Prod.mk.injEq] at H
    obtain ⟨rfl,rfl⟩:=H
    obtain ⟨Ao12,co12,b7u⟩:=Kd.cX fT.out
    subst b7u
    go_wp2
    go_ret
    exact ⟨by first|rfl|(simp [aM,aQ]<;>rfl)|(simp [*,aM,aQ]<;>rfl),by (with_reducible repeat (first|apply Kd.cF|apply Kd.dm|apply Kd.dO));exact fT.out,ax,by repeat (first|(with_reducible first|exact HK.out|apply Kept.alloc|apply Kept.drewN|apply Kept.drew)|exact HK.out)⟩
def lU.f (k:Nat) (aH:Bool) (aG:Int) (dJ:Int) (cM:List (bV)) (cN:List (bV)) (a1:Int):Option (Int×(List (bV))×(List (bV))):=(cB.f k cM a1).bind fun Hs=>((cB.f k cN Hs.1).bind fun xD=>(some (xD.1,Hs.2,xD.2)))
theorem lU.mono:∀a0 a1 a2 a3 a4 a5 k,aW (lU.f k a0 a1 a2 a3 a4 a5) (lU.f (k+1) a0 a1 a2 a3 a4 a5):=by
 intro a0 a1 a2 a3 a4 a5 k
 unfold lU.f
 repeat' first
  |(with_reducible exact cB.mono _ _ _)
  |(with_reducible exact aW.refl _)
  |(with_reducible exact aW.none _)
  |(with_reducible refine aW.ite ?_ ?_)
  |(with_reducible refine aW.bind ?_ (fun _=>?_))
set_option maxHeartbeats 8000000 in
set_option maxRecDepth 100000 in
theorem lU.calls (k:Nat) (aH:Bool) (aG:Int) (dJ:Int) (oo:Nat->Prop) (kQ:Value) (cM:List (bV)) (oq:Nat->Prop) (BS:Value) (cN:List (bV)) (a1:Int) (r1:Int) (r2:List (bV)) (r3:List (bV)) (w0 w:World) (hB:Below w0.heap.size w0 w) (a3t:Kd.R fD 26 w w0.heap.size oo kQ cM) (WM:∀k_,oo k_->¬oq k_) (a3u:Kd.R fD 26 w w0.heap.size oq BS cN) (WN:∀k_,oq k_->¬oo k_) (h:lU.f k aH aG dJ cM cN a1=some (r1,r2,r3)):
 Calls Try.prog 15 #[.agg #[.bool aH,.int .i64 aG,.int .i64 dJ,kQ,BS],.int .i64 a1] w fun e w'=>e= .returned (.int .i64 r1)/\Kd.R fD 26 w' w0.heap.size (fun k_=>((oo k_∨oq k_)∨w.heap.size<=k_)) kQ r2/\Kd.R fD 26 w' w0.heap.size (fun k_=>((oo k_∨oq k_)∨w.heap.size<=k_)) BS r3/\Below w0.heap.size w0 w'/\Kept w w' (fun k_=>oo k_∨oq k_):=by
 have a0E:=Try.underlying29
 have pg:=Aside0.mk (show Kd.R fD 26 w w0.heap.size (fun k_=>((oo k_∨oq k_)∨w.heap.size<=k_)/\some k_≠(BS:Value).ownBlock) kQ cM from Kd.dU a3t (fun k_ hk=>⟨(.inl (.inl hk)),fun e_=>WM k_ hk (a3u.1 k_ e_.symm)⟩))
 have pz:=Aside0.mk (show Kd.R fD 26 w w0.heap.size (fun k_=>((oo k_∨oq k_)∨w.heap.size<=k_)/\some k_≠(kQ:Value).ownBlock) BS cN from Kd.dU a3u (fun k_ hk=>⟨(.inl (.inr hk)),fun e_=>WN k_ hk (a3t.1 k_ e_.symm)⟩))
 have HK:=Aside0.mk (Kept.refl w (fun k_=>oo k_∨oq k_))
 have HW0:=Aside0.mk hB.size
 have HB:=Aside0.mk hB
 clear hB
 have H:((cB.f k cM a1).bind fun Hs=>((cB.f k cN Hs.1).bind fun xD=>(some (xD.1,Hs.2,xD.2))))=some (r1,r2,r3):=h
 clear h
 replace H:=Option.bind_eq_some_iff.mp H
 obtain ⟨⟨Uw,a0M⟩,iO,H⟩:=H
 replace H:((cB.f k cN Uw).bind fun xD=>(some (xD.1,a0M,xD.2)))=some (r1,r2,r3):=H
 have A3:=Aside0.mk iO
 clear iO
 replace H:=Option.bind_eq_some_iff.mp H
 obtain ⟨⟨a8U,a8V⟩,xE,H⟩:=H
 replace H:(some (a8U,a0M,a8V))=some (r1,r2,r3):=H
 have A4:=Aside0.mk xE
 clear xE
 simp only [Option.some.injEq,Prod.mk.injEq] at H
 obtain ⟨rfl,rfl,rfl⟩:=H
 obtain ⟨OT,GY,Ox⟩:=Kd.cX pg.out
 subst Ox
 obtain ⟨LX,GX,eo6⟩:=Kd.cX pz.out
 subst eo6
 go_enter Try.func15,Try.ntmps15
 go_wp2_with (first|((with_reducible refine bk (N:=2) rfl ?_);refine bp ?hg (N:=2) ?hd (cs:= #[.bool aH,.int .i64 aG,.int .i64 dJ,.slice OT cM.length GY,.slice LX cN.length GX]) (t:=29) ?hr ?_;(case hd=>rfl);(case hg=>rfl);(case hr=>first|(go_simp;done)|(go_simp;rfl));intro qQ hg w7 aU hb;have ay:=Aside0.mk (Kd.mC (by (with_reducible repeat (first|apply Kd.cF|apply Kd.dm|apply Kd.dO));exact pg.out) hb);have aA:=Aside0.mk (Kd.mC (by (with_reducible repeat (first|apply Kd.cF|apply Kd.dm|apply Kd.dO));exact pz.out) hb);have aD:=Aside0.mk (Kept.below (S:=(fun k_=>oo k_∨oq k_)) (by repeat (first|(with_reducible first|exact HK.out|apply Kept.alloc|apply Kept.drewN|apply Kept.drew)|exact HK.out)) hb);have aR:=Aside0.mk (ai ax hb);have bK:=Aside0.mk (aU);have bT:=Aside0.mk ((by rw [hg];exact (by first|exact HK.out.1|exact (show Kept w _ (fun k_=>oo k_∨oq k_) from by repeat (first|(with_reducible first|exact HK.out|apply Kept.alloc|apply Kept.drewN|apply Kept.drew)|exact HK.out)).1):w.heap.size<=qQ));have cm:=Aside0.mk ((by rw [hg];exact (av ax):w0.heap.size<=qQ));clear pg;clear pz;clear HK;clear HB;have pg:=ay;have pz:=aA;have HK:=aD;have HB:=aR;have iq:=bK;have Ux:=bT;have a3v:=cm;clear ay aA aD aR bK bT cm;clear hb aU hg;have Oy:w7.cell? ⟨qQ,0,none⟩=some (.bool aH):=(ag iq.out 0).trans rfl;have Oz:w7.cell? ⟨qQ,1,none⟩=some (.int .i64 aG):=(ag iq.out 1).trans rfl;have a8H:w7.cell? ⟨qQ,2,none⟩=some (.int .i64 dJ):=(ag iq.out 2).trans rfl;have a8I:w7.cell? ⟨qQ,3,none⟩=some (.slice OT cM.length GY):=(ag iq.out 3).trans rfl;have a8J:w7.cell? ⟨qQ,4,none⟩=some (.slice LX cN.length GX):=(ag iq.out 4).trans rfl;have OA:=aa iq.out 0;have OB:=aa iq.out 1;have a8K:=aa iq.out 2;have a8L:=aa iq.out 3;have a8M:=aa iq.out 4)|((with_reducible refine aZ (f:=38) rfl ?_);refine bO (some 8) rfl rfl Try.func38 (by kernel_rfl) rfl #[.slice OT cM.length GY,.int .i64 a1] rfl (by (try simp only [List.map_toArray,List.map_cons,List.map_nil]);first|done|rfl|(simp only [List.length_drop,List.length_take];rfl)) ?_;(with_reducible refine (cB.calls k (fun k_=>some k_=(.slice OT cM.length GY:Value).ownBlock) (.slice OT cM.length GY) cM a1 Uw a0M w0 _ ?bX ?bY A3.out).mono ?_);(case bX=>repeat (first|(with_reducible first|exact HB.out|apply aK|apply gj|apply bn|refine br ?_ a3v.out)|exact HB.out));(case bY=>exact Kd.rK rfl pg.out);rintro e w9 ⟨rfl,hy0,hb,hkp⟩;refine ⟨_,rfl,?_⟩;have ay:=Aside0.mk (Kd.Wz rfl hy0 (fun k_ e_=>pg.out.1 k_ e_));have aA:=Aside0.mk (Kd.dU (ok':=fun k_=>((oo k_∨oq k_)∨w.heap.size<=k_)/\some k_≠(.slice OT cM.length GY:Value).ownBlock) (Kd.RG (pz.out) hkp (fun k_ sq hs_=>(sq.2) hs_)) (fun k_ sq=>⟨sq.1.1,sq.1.2⟩));have aD:=Aside0.mk (Oh (aJ iq) hkp (fun hs_=>(fun e_=>(Kd.BG pg.out iq.out (by decide)) e_) hs_));have aR:=Aside0.mk (Kept.tS (S:=(fun k_=>oo k_∨oq k_)) (by repeat (first|(with_reducible first|exact HK.out|apply Kept.alloc|apply Kept.drewN|apply Kept.drew|refine Kept.setCell ?_ (.inr Ux.out) _)|exact HK.out)) hkp (fun k_ hs_=>(fun e_=>(pg.out.1 k_ e_.symm).1) hs_));have bK:=Aside0.mk (hb);clear pg;clear pz;clear iq;clear HK;clear HB;have pg:=ay;have pz:=aA;have iq:=aD;have HK:=aR;have HB:=bK;clear ay aA aD aR bK;(try clear hb);(try clear hkp);(try clear hy0);have Kj:w9.cell? ⟨qQ,0,none⟩=some (.bool aH):=(ag iq.out 0).trans rfl;have Kk:w9.cell? ⟨qQ,1,none⟩=some (.int .i64 aG):=(ag iq.out 1).trans rfl;have a6b:w9.cell? ⟨qQ,2,none⟩=some (.int .i64 dJ):=(ag iq.out 2).trans rfl;have a6c:w9.cell? ⟨qQ,3,none⟩=some (.slice OT cM.length GY):=(ag iq.out 3).trans rfl;have a6d:w9.cell? ⟨qQ,4,none⟩=some (.slice LX cN.length GX):=(ag iq.out 4).trans rfl;have Kl:=aa iq.out 0;have Km:=aa iq.out 1;have a6e:=aa iq.out 2;have a6f:=aa iq.out 3;have a6g:=aa iq.out 4)|((with_reducible refine aZ (f:=38) rfl ?_);refine bO (some 12) rfl rfl Try.func38 (by kernel_rfl) rfl #[.slice LX cN.length GX,.int .i64 Uw] rfl (by (try simp only [List.map_toArray,List.map_cons,List.map_nil]);first|done|rfl|(simp only [List.length_drop,List.length_take];rfl)) ?_;(with_reducible refine (cB.calls k (fun k_=>some k_=(.slice LX cN.length GX:Value).ownBlock) (.slice LX cN.length GX) cN Uw a8U a8V w0 _ ?bX ?bY A4.out).mono ?_);(case bX=>repeat (first|(with_reducible first|exact HB.out|apply aK|apply gj|apply bn|refine br ?_ a3v.out)|exact HB.out));(case bY=>exact Kd.rK rfl pz.out);rintro e fk ⟨rfl,hy0,hb,hkp⟩;refine ⟨_,rfl,?_⟩;have ay:=Aside0.mk (Kd.dU (ok':=fun k_=>((oo k_∨oq k_)∨w.heap.size<=k_)/\some k_≠(.slice LX cN.length GX:Value).ownBlock) (Kd.RG (pg.out) hkp (fun k_ sq hs_=>(sq.2) hs_)) (fun k_ sq=>⟨sq.1.1,sq.1.2⟩));have aA:=Aside0.mk (Kd.Wz rfl hy0 (fun k_ e_=>pz.out.1 k_ e_));have aD:=Aside0.mk (Oh (aJ iq) hkp (fun hs_=>(fun e_=>(Kd.BG pz.out iq.out (by decide)) e_) hs_));have aR:=Aside0.mk (Kept.tS (S:=(fun k_=>oo k_∨oq k_)) (by repeat (first|(with_reducible first|exact HK.out|apply Kept.alloc|apply Kept.drewN|apply Kept.drew|refine Kept.setCell ?_ (.inr Ux.out) _)|exact HK.out)) hkp (fun k_ hs_=>(fun e_=>(pz.out.1 k_ e_.symm).1) hs_));have bK:=Aside0.mk (hb);clear pg;clear pz;clear iq;clear HK;clear HB;have pg:=ay;have pz:=aA;have iq:=aD;have HK:=aR;have HB:=bK;clear ay aA aD aR bK;(try clear hb);(try clear hkp);(try clear hy0)))
 go_ret
 exact ⟨by first|rfl|(simp [aM,aQ]<;>rfl)|(simp [*,aM,aQ]<;>rfl),by (with_reducible repeat (first|apply Kd.cF|apply Kd.dm|apply Kd.dO));exact Kd.dU pg.out (fun _ hk=>hk.1),by (with_reducible repeat (first|apply Kd.cF|apply Kd.dm|apply Kd.dO));exact Kd.dU pz.out (fun _ hk=>hk.1),ax,by repeat (first|(with_reducible first|exact HK.out|apply Kept.alloc|apply Kept.drewN|apply Kept.drew|refine Kept.setCell ?_ (.inr Ux.out) _)|exact HK.out)⟩
end Go.Proofs.Ytnhknojfpjheoaa.P
namespace Go.Proofs.Ytnhknojfpjheoaa.PT
open Go.RowKit Go.Proofs.Ytnhknojfpjheoaa.P Go.Proofs.YtnhknojfpjheoaaW.PrintWords Go.Proofs.YtnhknojfpjheoaaW.PrintLast Go.Proofs.Ytnhknojfpjheoaa.EvKit
set_option linter.all false
namespace Ow
theorem Au {α β:Type} {A:Ow α} {B:Ow β} {W:World} {x:α} {y:β} {u:Value} {cs:List Value} {bs:List Nat} (hA:A.kd.sz=1) (h:(pair A B).own W (x,y) (u::cs) bs):
 ∃b1 b2,bs=b1++b2/\bs.Nodup/\A.own W x [u] b1/\B.own W y cs b2:=by
 obtain ⟨c1,c2,b1,b2,e,hb,hn,ha,hb'⟩:=h
 have hl:=A.kd.iW (A.rd ha)
 rw [hA] at hl
 obtain ⟨v,rfl⟩:∃v,c1=[v]:=by
  match c1,hl with
  | [v],_=>exact ⟨v,rfl⟩
 simp only [List.cons_append,List.nil_append,List.cons.injEq] at e
 obtain ⟨rfl,rfl⟩:=e
 exact ⟨b1,b2,hb,hn,ha,hb'⟩
end Ow
abbrev LR:=List bV
abbrev V5:=Bool×Int×Int×LR×LR
def owQ:Ow bV where
 kd:=fD
 own:=fun _ x cs bs=>cs=[.int .i64 x.f0,.int .i64 x.f1]/\bs=[]
 rd:=by rintro W x cs bs ⟨rfl,_⟩;exact a8a W x
 lt:=fun h b hb=>by rw [h.2] at hb;cases hb
 nodup:=fun h=>by rw [h.2];exact List.nodup_nil
 move:=fun h _=>h
abbrev owR:Ow LR:=Ow.slice 26 owQ
def Bq (W:World) (x:LR) (A:Option Addr) (c:Nat):Prop:=x.length<=c/\Kd.C fD W A x.length x
abbrev oR (W:World) (x:LR) (A:Option Addr) (n c:Nat) (bs:List Nat):Prop:=owR.own W x [.slice A n c] bs
theorem oR.rd {W:World} {x:LR} {A:Option Addr} {n c:Nat} {bs:List Nat} (h:oR W x A n c bs):Bq W x A c:=by
 obtain ⟨A',c',e,hl,hC⟩:=owR.rd h
 injection e with e;injection e with e1 e2 e3
 subst e1;subst e3
 exact ⟨hl,hC⟩
structure OU (W:World) (x:V5) (A3:Option Addr) (c3:Nat) (A4:Option Addr) (c4:Nat):Prop where
 wts:Bq W x.2.2.2.1 A3 c3
 a0N:Bq W x.2.2.2.2 A4 c4
theorem Bq.tr {W W':World} {x:LR} {A:Option Addr} {c:Nat} (h:Bq W x A c) (t:GZ W W'):Bq W' x A c:=⟨h.1,Kd.bQ h.2 t.dN⟩
theorem Bq.past {W W':World} {x:LR} {A:Option Addr} {c:Nat} (h:Bq W x A c) (t:Below W.heap.size W W'):Bq W' x A c:=⟨h.1,Kd.bQ h.2 t⟩
theorem OU.tr {W W':World} {x:V5} {A3:Option Addr} {c3:Nat} {A4:Option Addr} {c4:Nat} (h:OU W x A3 c3 A4 c4) (t:GZ W W'):OU W' x A3 c3 A4 c4:=⟨h.wts.tr t,h.a0N.tr t⟩
theorem OU.past {W W':World} {x:V5} {A3:Option Addr} {c3:Nat} {A4:Option Addr} {c4:Nat} (h:OU W x A3 c3 A4 c4) (t:Below W.heap.size W W'):OU W' x A3 c3 A4 c4:=⟨h.wts.past t,h.a0N.past t⟩
abbrev owV:Ow V5:=Ow.pair Ow.bool (Ow.pair Ow.int (Ow.pair Ow.int (Ow.pair owR owR)))
abbrev oV (W:World) (x:V5) (A3:Option Addr) (n3 c3:Nat) (A4:Option Addr) (n4 c4:Nat) (bs:List Nat):Prop:=owV.own W x [.bool x.1,.int .i64 x.2.1,.int .i64 x.2.2.1,.slice A3 n3 c3,.slice A4 n4 c4] bs
theorem oV.parts {W:World} {x:V5} {A3:Option Addr} {n3 c3:Nat} {A4:Option Addr} {n4 c4:Nat} {bs:List Nat} (h:oV W x A3 n3 c3 A4 n4 c4 bs):∃b3 b4,bs=b3++b4/\bs.Nodup/\oR W x.2.2.2.1 A3 n3 c3 b3/\oR W x.2.2.2.2 A4 n4 c4 b4:=by
 obtain ⟨b0,q0,rfl,hn,⟨_,rfl⟩,g0⟩:=Ow.Au rfl h
 obtain ⟨b1,q1,rfl,_,⟨_,rfl⟩,g1⟩:=Ow.Au rfl g0
 obtain ⟨b2,q2,rfl,_,⟨_,rfl⟩,g2⟩:=Ow.Au rfl g1
 obtain ⟨b3,b4,rfl,_,h3,h4⟩:=Ow.Au rfl g2
 exact ⟨b3,b4,rfl,hn,h3,h4⟩
theorem oV.mk {W:World} {x:V5} {A3:Option Addr} {n3 c3:Nat} {A4:Option Addr} {n4 c4:Nat} {b3 b4:List Nat} (h3:oR W x.2.2.2.1 A3 n3 c3 b3) (h4:oR W x.2.2.2.2 A4 n4 c4 b4) (d:∀b,b∈b3->b∈b4->False):oV W x A3 n3 c3 A4 n4 c4 (b3++b4):=
 Ow.Dn (A:=Ow.bool) (c1:=[_]) (b1:=[]) ⟨rfl,rfl⟩ (Ow.Dn (A:=Ow.int) (c1:=[_]) (b1:=[]) ⟨rfl,rfl⟩ (Ow.Dn (A:=Ow.int) (c1:=[_]) (b1:=[]) ⟨rfl,rfl⟩ (Ow.Dn (c1:=[_]) (c2:=[_]) h3 h4 d) (fun b h=>by cases h)) (fun b h=>by cases h)) (fun b h=>by cases h)
theorem oV.rd {W:World} {x:V5} {A3:Option Addr} {n3 c3:Nat} {A4:Option Addr} {n4 c4:Nat} {bs:List Nat} (h:oV W x A3 n3 c3 A4 n4 c4 bs):OU W x A3 c3 A4 c4:=by
 obtain ⟨_,_,_,_,h0,h1⟩:=h.parts
 exact ⟨h0.rd,h1.rd⟩
end Go.Proofs.Ytnhknojfpjheoaa.PT
namespace Go.Proofs.Ytnhknojfpjheoaa.P
open Go.RowKit Go.Proofs.YtnhknojfpjheoaaW.PrintWords Go.Proofs.YtnhknojfpjheoaaW.PrintLast Go.Proofs.YtnhknojfpjheoaaW.PrintMore
attribute [local go_sem] max2_int min2_int max_two min_two max_three min_three max_four min_four
set_option linter.all false
def iD.f (a0:Int) (a1:Int) (a2:Int):Option (Bool):=if a1<=a0 then (some (decide (a0<=a2))) else (some false)
set_option maxHeartbeats 8000000 in
set_option maxRecDepth 100000 in
theorem iD.calls (a0:Int) (a1:Int) (a2:Int) (r:Bool) (w:World) (h:iD.f a0 a1 a2=some r):
 Calls Try.prog 47 #[.int .i64 a0,.int .i64 a1,.int .i64 a2] w fun e w'=>e= .returned (.bool r)/\bl w w':=by
 have H:(if a1<=a0 then (some (decide (a0<=a2))) else (some false))=some r:=h
 clear h
 by_cases c4:a1<=a0
 ·rw [if_pos c4] at H
  have kP:decide (a1<=a0)=true:=decide_eq_true c4
  clear c4
  obtain rfl:=Option.some.inj H
  go_enter Try.func47,Try.ntmps47
  go_wp2
  go_ret
  exact ⟨by first|rfl|(simp;done)|(simp [*];done),by repeat (first|exact bl.refl _|apply bl.step)⟩
 ·rw [if_neg c4] at H
  have kP:decide (a1<=a0)=false:=decide_eq_false c4
  clear c4
  obtain rfl:=Option.some.inj H
  go_enter Try.func47,Try.ntmps47
  go_wp2
  go_ret
  exact ⟨by first|rfl|(simp;done)|(simp [*];done),by repeat (first|exact bl.refl _|apply bl.step)⟩
end Go.Proofs.Ytnhknojfpjheoaa.P
namespace Go.Proofs.Ytnhknojfpjheoaa.PT
open Go.RowKit Go.Proofs.Ytnhknojfpjheoaa.P Go.Proofs.YtnhknojfpjheoaaW.PrintWords Go.Proofs.YtnhknojfpjheoaaW.PrintLast Go.Proofs.Ytnhknojfpjheoaa.EvKit
set_option linter.all false
theorem WO (a b c:Int):iD.f a b c=some (decide (b<=a/\a<=c)):=by
 unfold iD.f
 by_cases h:b<=a
 ·rw [if_pos h];simp [h]
 ·rw [if_neg h];simp [h]
end Go.Proofs.Ytnhknojfpjheoaa.PT
namespace Go.Proofs.Ytnhknojfpjheoaa.P
open Go.RowKit Go.Proofs.YtnhknojfpjheoaaW.PrintWords Go.Proofs.YtnhknojfpjheoaaW.PrintLast Go.Proofs.YtnhknojfpjheoaaW.PrintMore
attribute [local go_sem] max2_int min2_int max_two min_two max_three min_three max_four min_four
set_option linter.all false
def cW.l0:Nat->Int->List Int->Int->Int->Option (Bool)
 |0,_,_,_,_=>none
 |k+1,x3,x6,x7,x8=>if x8<x7 then (if 0<=x8 then (if x8<(x6.length:Int) then (if (rd x6 x8)<=x3 then (some false) else (if (rd x6 x8)>=6 then (some false) else (cW.l0 k (rd x6 x8) x6 x7 (wrap64 (x8+1))))) else (none)) else (none)) else (some true)
def cW.f (k:Nat) (l0:List Int):Option (Bool):=cW.l0 k (-1) l0 (l0.length:Int) 0
theorem cW.cH:∀k,(∀y0 y1 y2 y3,aW (cW.l0 k y0 y1 y2 y3) (cW.l0 (k+1) y0 y1 y2 y3))
 |0=>fun _ _ _ _ r h=>by simp [cW.l0] at h
 |k+1=>by
  have dP:=cW.cH k
  ·intro y0 y1 y2 y3
   unfold cW.l0
   repeat' first
   |(with_reducible exact dP _ _ _ _)
   |(with_reducible exact aW.refl _)
   |(with_reducible exact aW.none _)
   |(with_reducible refine aW.ite ?_ ?_)
   |(with_reducible refine aW.bind ?_ (fun _=>?_))
theorem cW.mono:∀a0 k,aW (cW.f k a0) (cW.f (k+1) a0):=by
 intro a0 k
 have dP:=cW.cH k
 unfold cW.f
 repeat' first
  |(with_reducible exact dP _ _ _ _)
  |(with_reducible exact aW.refl _)
  |(with_reducible exact aW.none _)
  |(with_reducible refine aW.ite ?_ ?_)
  |(with_reducible refine aW.bind ?_ (fun _=>?_))
set_option maxHeartbeats 8000000 in
set_option maxRecDepth 100000 in
theorem cW.calls (k:Nat) (A0:Option Addr) (c0:Nat) (l0:List Int) (r:Bool) (w:World) (fE:Kd.C (Kd.int .i64) w A0 l0.length l0) (hc0:l0.length<=c0) (h:cW.f k l0=some r):
 Calls Try.prog 27 #[.slice A0 l0.length c0] w fun e w'=>e= .returned (.bool r)/\bl w w':=by
 have eL:=Aside0.mk fE
 have kB:=Aside0.mk hc0
 clear fE hc0
 have H:(cW.l0 k (-1) l0 (l0.length:Int) 0)=some r:=h
 clear h
 have H':=Aside0.mk H
 clear H
 go_enter Try.func27,Try.ntmps27
 go_wp2
 go_loopg [3,8] k (fun kq v3 v8 w'=>∃(gS:Int) (fo:Int),v3= .int .i64 gS/\v8= .int .i64 fo/\Aside0 (cW.l0 kq gS l0 (l0.length:Int) fo=some r)/\Aside0 (kq<=k)/\bl w w')
 case atStart=>exact ⟨((-1)),(0),(by first|rfl|(simp;done)|(simp [*];done)),(by first|rfl|(simp;done)|(simp [*];done)),H',⟨Nat.le_refl _⟩,by repeat (first|exact bl.refl _|apply bl.step)⟩
 case round=>
  clear H'
  obtain ⟨gS,fo,rfl,rfl,HA,fI,⟨m1,rfl⟩⟩:=hrel
  cases gk with
  |zero=>exact absurd HA.out (by simp [cW.l0])
  |succ k1=>
   have H:=HA.out
   clear HA
   simp only [cW.l0] at H
   by_cases c2:fo<(l0.length:Int)
   ·rw [if_pos c2] at H
    have Fe:decide (fo<(l0.length:Int))=true:=decide_eq_true c2
    clear c2
    by_cases c3:0<=fo
    ·rw [if_pos c3] at H
     have gw:decide (0<=fo)=true:=decide_eq_true c3
     clear c3
     by_cases c4:fo<(l0.length:Int)
     ·rw [if_pos c4] at H
      have kP:decide (fo<(l0.length:Int))=true:=decide_eq_true c4
      clear c4
      by_cases c5:(rd l0 fo)<=gS
      ·rw [if_pos c5] at H
       have sZ:decide ((rd l0 fo)<=gS)=true:=decide_eq_true c5
       clear c5
       obtain rfl:=Option.some.inj H
       have wO:0<=(fo:Int):=of_decide_eq_true (by first|(with_reducible assumption)|assumption)
       have wP:fo<(l0.length:Int):=of_decide_eq_true (by first|(with_reducible assumption)|assumption)
       obtain ⟨a3x,OV,RT⟩:=Kd.fC eL.out fo wO wP
       cases OV
       replace wO:=eq_true wO
       replace wP:=eq_true wP
       go_wp2
       go_ret
       exact ⟨by first|rfl|(simp;done)|(simp [*];done),by repeat (first|exact bl.refl _|apply bl.step)⟩
      ·rw [if_neg c5] at H
       have sZ:decide ((rd l0 fo)<=gS)=false:=decide_eq_false c5
       clear c5
       by_cases c6:(rd l0 fo)>=6
       ·rw [if_pos c6] at H
        have oQ:decide (6<=(rd l0 fo))=true:=decide_eq_true c6
        clear c6
        obtain rfl:=Option.some.inj H
        have wO:0<=(fo:Int):=of_decide_eq_true (by first|(with_reducible assumption)|assumption)
        have wP:fo<(l0.length:Int):=of_decide_eq_true (by first|(with_reducible assumption)|assumption)
        obtain ⟨a3x,OV,RT⟩:=Kd.fC eL.out fo wO wP
        cases OV
        replace wO:=eq_true wO
        replace wP:=eq_true wP
        go_wp2
        go_ret
        exact ⟨by first|rfl|(simp;done)|(simp [*];done),by repeat (first|exact bl.refl _|apply bl.step)⟩
       ·rw [if_neg c6] at H
        have oQ:decide (6<=(rd l0 fo))=false:=decide_eq_false c6
        clear c6
        have H':=Aside0.mk H
        clear H
        have wO:0<=(fo:Int):=of_decide_eq_true (by first|(with_reducible assumption)|assumption)
        have wP:fo<(l0.length:Int):=of_decide_eq_true (by first|(with_reducible assumption)|assumption)
        obtain ⟨a3x,OV,RT⟩:=Kd.fC eL.out fo wO wP
        cases OV
        replace wO:=eq_true wO
        replace wP:=eq_true wP
        go_wp2
        go_roundg k1
        case measure=>have:=fI.out;omega
        case rel=>exact ⟨(rd l0 fo),(wrap64 (fo+1)),(by first|rfl|(simp;done)|(simp [*];done)),(by first|rfl|(simp;done)|(simp [*];done)),H',⟨by have:=fI.out;omega⟩,by repeat (first|exact bl.refl _|apply bl.step)⟩
     ·rw [if_neg c4] at H
      exact absurd H (by simp)
    ·rw [if_neg c3] at H
     exact absurd H (by simp)
   ·rw [if_neg c2] at H
    have Fe:decide (fo<(l0.length:Int))=false:=decide_eq_false c2
    clear c2
    obtain rfl:=Option.some.inj H
    go_wp2
    go_ret
    exact ⟨by first|rfl|(simp;done)|(simp [*];done),by repeat (first|exact bl.refl _|apply bl.step)⟩
def bG.l0:Nat->List Int->Int->List Int->Int->Int->Option (Bool)
 |0,_,_,_,_,_=>none
 |k+1,x0,x1,x7,x8,x9=>if x9<x8 then (if 0<=x9 then (if x9<(x7.length:Int) then ((iD.f (rd x7 x9) 0 (wrap64 (x1 - 1))).bind fun t104=>(if t104=true then (if x9>0 then (if 0<=(wrap64 (x9 - 1)) then (if (wrap64 (x9 - 1))<(x0.length:Int) then (if (rd x7 x9)<=(rd x0 (wrap64 (x9 - 1))) then (some false) else (bG.l0 k x0 x1 x7 x8 (wrap64 (x9+1)))) else (none)) else (none)) else (bG.l0 k x0 x1 x7 x8 (wrap64 (x9+1)))) else (some false))) else (none)) else (none)) else (some true)
def bG.f (k:Nat) (l0:List Int) (a1:Int):Option (Bool):=bG.l0 k l0 a1 l0 (l0.length:Int) 0
theorem bG.cH:∀k,(∀y0 y1 y2 y3 y4,aW (bG.l0 k y0 y1 y2 y3 y4) (bG.l0 (k+1) y0 y1 y2 y3 y4))
 |0=>fun _ _ _ _ _ r h=>by simp [bG.l0] at h
 |k+1=>by
  have dP:=bG.cH k
  ·intro y0 y1 y2 y3 y4
   unfold bG.l0
   repeat' first
   |(with_reducible exact dP _ _ _ _ _)
   |(with_reducible exact aW.refl _)
   |(with_reducible exact aW.none _)
   |(with_reducible refine aW.ite ?_ ?_)
   |(with_reducible refine aW.bind ?_ (fun _=>?_))
theorem bG.mono:∀a0 a1 k,aW (bG.f k a0 a1) (bG.f (k+1) a0 a1):=by
 intro a0 a1 k
 have dP:=bG.cH k
 unfold bG.f
 repeat' first
  |(with_reducible exact dP _ _ _ _ _)
  |(with_reducible exact aW.refl _)
  |(with_reducible exact aW.none _)
  |(with_reducible refine aW.ite ?_ ?_)
  |(with_reducible refine aW.bind ?_ (fun _=>?_))
set_option maxHeartbeats 8000000 in
set_option maxRecDepth 100000 in
theorem bG.calls (k:Nat) (A0:Option Addr) (c0:Nat) (l0:List Int) (a1:Int) (r:Bool) (w:World) (fE:Kd.C (Kd.int .i64) w A0 l0.length l0) (hc0:l0.length<=c0) (h:bG.f k l0 a1=some r):
 Calls Try.prog 22 #[.slice A0 l0.length c0,.int .i64 a1] w fun e w'=>e= .returned (.bool r)/\bl w w':=by
 have eL:=Aside0.mk fE
 have kB:=Aside0.mk hc0
 clear fE hc0
 have H:(bG.l0 k l0 a1 l0 (l0.length:Int) 0)=some r:=h
 clear h
 have H':=Aside0.mk H
 clear H
 go_enter Try.func22,Try.ntmps22
 go_wp2
 go_loopg [9] k (fun kq v9 w'=>∃(cu:Int),v9= .int .i64 cu/\Aside0 (bG.l0 kq l0 a1 l0 (l0.length:Int) cu=some r)/\Aside0 (kq<=k)/\bl w w')
 case atStart=>exact ⟨(0),(by first|rfl|(simp;done)|(simp [*];done)),H',⟨Nat.le_refl _⟩,by repeat (first|exact bl.refl _|apply bl.step)⟩
 case round=>
  clear H'
  try clear c2
  try clear p2
  obtain ⟨cu,rfl,HA,fI,⟨m1,rfl⟩⟩:=hrel
  cases gk with
  |zero=>exact absurd HA.out (by simp [bG.l0])
  |succ k1=>
   have H:=HA.out
   clear HA
   simp only [bG.l0] at H
   by_cases c3:cu<(l0.length:Int)
   ·rw [if_pos c3] at H
    have gw:decide (cu<(l0.length:Int))=true:=decide_eq_true c3
    clear c3
    by_cases c4:0<=cu
    ·rw [if_pos c4] at H
     have kP:decide (0<=cu)=true:=decide_eq_true c4
     clear c4
     by_cases c5:cu<(l0.length:Int)
     ·rw [if_pos c5] at H
      have sZ:decide (cu<(l0.length:Int))=true:=decide_eq_true c5
      clear c5
      replace H:=Option.bind_eq_some_iff.mp H
      obtain ⟨t104,rO,H⟩:=H
      replace H:(if t104=true then (if cu>0 then (if 0<=(wrap64 (cu - 1)) then (if (wrap64 (cu - 1))<(l0.length:Int) then (if (rd l0 cu)<=(rd l0 (wrap64 (cu - 1))) then (some false) else (bG.l0 k1 l0 a1 l0 (l0.length:Int) (wrap64 (cu+1)))) else (none)) else (none)) else (bG.l0 k1 l0 a1 l0 (l0.length:Int) (wrap64 (cu+1)))) else (some false))=some r:=H
      have A6:=Aside0.mk rO
      clear rO
      by_cases c7:t104=true
      ·subst c7
       have H1:(if cu>0 then (if 0<=(wrap64 (cu - 1)) then (if (wrap64 (cu - 1))<(l0.length:Int) then (if (rd l0 cu)<=(rd l0 (wrap64 (cu - 1))) then (some false) else (bG.l0 k1 l0 a1 l0 (l0.length:Int) (wrap64 (cu+1)))) else (none)) else (none)) else (bG.l0 k1 l0 a1 l0 (l0.length:Int) (wrap64 (cu+1))))=some r:=by rw [if_pos rfl] at H;exact H
       clear H
       have H:=H1
       clear H1
       by_cases c8:cu>0
       ·rw [if_pos c8] at H
        have td:decide (0<cu)=true:=decide_eq_true c8
        clear c8
        obtain ⟨uz,OW⟩:∃j_:Int,(wrap64 (cu - 1))=j_:=⟨_,rfl⟩
        replace H:(if 0<=(uz) then (if (uz)<(l0.length:Int) then (if (rd l0 cu)<=(rd l0 (uz)) then (some false) else (bG.l0 k1 l0 a1 l0 (l0.length:Int) (wrap64 (cu+1)))) else (none)) else (none))=some r:=by first|(rw [OW] at H;exact H)|(simp only [OW] at H⊢;exact H)
        (try rw [OW] at A6)
        have hji9w:(IntKind.i64.wrap (cu - 1))=uz:=(cZ _).trans OW
        by_cases c10:0<=(uz)
        ·rw [if_pos c10] at H
         have b3m:decide (0<=(uz))=true:=decide_eq_true c10
         clear c10
         by_cases c11:(uz)<(l0.length:Int)
         ·rw [if_pos c11] at H
          have b3n:decide ((uz)<(l0.length:Int))=true:=decide_eq_true c11
          clear c11
          by_cases c12:(rd l0 cu)<=(rd l0 (uz))
          ·rw [if_pos c12] at H
           have Uy:decide ((rd l0 cu)<=(rd l0 (uz)))=true:=decide_eq_true c12
           clear c12
           obtain rfl:=Option.some.inj H
           have rB:0<=(cu:Int):=of_decide_eq_true (by first|(with_reducible assumption)|assumption)
           have rC:cu<(l0.length:Int):=of_decide_eq_true (by first|(with_reducible assumption)|assumption)
           obtain ⟨Ht,FA,Kn⟩:=Kd.fC eL.out cu rB rC
           cases FA
           replace rB:=eq_true rB
           replace rC:=eq_true rC
           go_wp2_with (first|((with_reducible refine aZ (f:=47) rfl ?_);refine bO (some 17) rfl rfl Try.func47 (by kernel_rfl) rfl #[.int .i64 (rd l0 cu),.int .i64 0,.int .i64 (wrap64 (a1 - 1))] rfl (by (try simp only [List.map_toArray,List.map_cons,List.map_nil]);first|done|rfl|(simp only [List.length_drop,List.length_take];rfl)) ?_;(with_reducible refine (iD.calls (rd l0 cu) 0 (wrap64 (a1 - 1)) true _ A6.out).mono ?_);rintro e w' ⟨rfl,⟨nd,rfl⟩⟩;refine ⟨_,rfl,?_⟩;have FB:0<=((uz):Int):=of_decide_eq_true (by first|(with_reducible assumption)|assumption);have FC:(uz)<(l0.length:Int):=of_decide_eq_true (by first|(with_reducible assumption)|assumption);obtain ⟨Uz,a0O,a6l⟩:=Kd.fC eL.out (uz) FB FC;obtain rfl:Ht=Uz:=(by injection a0O);replace FB:=eq_true FB;replace FC:=eq_true FC))
           go_ret
           exact ⟨by first|rfl|(simp;done)|(simp only [<-OW]<;>(first|rfl|simp))|(simp [*];done),by repeat (first|exact bl.refl _|apply bl.step)⟩
          ·rw [if_neg c12] at H
           have Uy:decide ((rd l0 cu)<=(rd l0 (uz)))=false:=decide_eq_false c12
           clear c12
           have H':=Aside0.mk H
           clear H
           have rB:0<=(cu:Int):=of_decide_eq_true (by first|(with_reducible assumption)|assumption)
           have rC:cu<(l0.length:Int):=of_decide_eq_true (by first|(with_reducible assumption)|assumption)
           obtain ⟨Ht,FA,Kn⟩:=Kd.fC eL.out cu rB rC
           cases FA
           replace rB:=eq_true rB
           replace rC:=eq_true rC
           go_wp2_with (first|((with_reducible refine aZ (f:=47) rfl ?_);refine bO (some 17) rfl rfl Try.func47 (by kernel_rfl) rfl #[.int .i64 (rd l0 cu),.int .i64 0,.int .i64 (wrap64 (a1 - 1))] rfl (by (try simp only [List.map_toArray,List.map_cons,List.map_nil]);first|done|rfl|(simp only [List.length_drop,List.length_take];rfl)) ?_;(with_reducible refine (iD.calls (rd l0 cu) 0 (wrap64 (a1 - 1)) true _ A6.out).mono ?_);rintro e w' ⟨rfl,⟨nd,rfl⟩⟩;refine ⟨_,rfl,?_⟩;have FB:0<=((uz):Int):=of_decide_eq_true (by first|(with_reducible assumption)|assumption);have FC:(uz)<(l0.length:Int):=of_decide_eq_true (by first|(with_reducible assumption)|assumption);obtain ⟨Uz,a0O,a6l⟩:=Kd.fC eL.out (uz) FB FC;obtain rfl:Ht=Uz:=(by injection a0O);replace FB:=eq_true FB;replace FC:=eq_true FC))
           go_roundg k1
           case measure=>have:=fI.out;omega
           case rel=>exact ⟨(wrap64 (cu+1)),(by first|rfl|(simp;done)|(simp [*];done)),H',⟨by have:=fI.out;omega⟩,by repeat (first|exact bl.refl _|apply bl.step)⟩
         ·rw [if_neg c11] at H
          exact absurd H (by simp)
        ·rw [if_neg c10] at H
         exact absurd H (by simp)
       ·rw [if_neg c8] at H
        have td:decide (0<cu)=false:=decide_eq_false c8
        clear c8
        have H':=Aside0.mk H
        clear H
        have rB:0<=(cu:Int):=of_decide_eq_true (by first|(with_reducible assumption)|assumption)
        have rC:cu<(l0.length:Int):=of_decide_eq_true (by first|(with_reducible assumption)|assumption)
        obtain ⟨Ht,FA,Kn⟩:=Kd.fC eL.out cu rB rC
        cases FA
        replace rB:=eq_true rB
        replace rC:=eq_true rC
        go_wp2_with (first|((with_reducible refine aZ (f:=47) rfl ?_);refine bO (some 17) rfl rfl Try.func47 (by kernel_rfl) rfl #[.int .i64 (rd l0 cu),.int .i64 0,.int .i64 (wrap64 (a1 - 1))] rfl (by (try simp only [List.map_toArray,List.map_cons,List.map_nil]);first|done|rfl|(simp only [List.length_drop,List.length_take];rfl)) ?_;(with_reducible refine (iD.calls (rd l0 cu) 0 (wrap64 (a1 - 1)) true _ A6.out).mono ?_);rintro e w' ⟨rfl,⟨nd,rfl⟩⟩;refine ⟨_,rfl,?_⟩))
        go_roundg k1
        case measure=>have:=fI.out;omega
        case rel=>exact ⟨(wrap64 (cu+1)),(by first|rfl|(simp;done)|(simp [*];done)),H',⟨by have:=fI.out;omega⟩,by repeat (first|exact bl.refl _|apply bl.step)⟩
      ·replace c7:=Bool.eq_false_iff.mpr c7
       subst c7
       have H1:(some false)=some r:=by rw [if_neg (show ¬(false=true) by decide)] at H;exact H
       clear H
       have H:=H1
       clear H1
       obtain rfl:=Option.some.inj H
       have rB:0<=(cu:Int):=of_decide_eq_true (by first|(with_reducible assumption)|assumption)
       have rC:cu<(l0.length:Int):=of_decide_eq_true (by first|(with_reducible assumption)|assumption)
       obtain ⟨Ht,FA,Kn⟩:=Kd.fC eL.out cu rB rC
       cases FA
       replace rB:=eq_true rB
       replace rC:=eq_true rC
       go_wp2_with (first|((with_reducible refine aZ (f:=47) rfl ?_);refine bO (some 17) rfl rfl Try.func47 (by kernel_rfl) rfl #[.int .i64 (rd l0 cu),.int .i64 0,.int .i64 (wrap64 (a1 - 1))] rfl (by (try simp only [List.map_toArray,List.map_cons,List.map_nil]);first|done|rfl|(simp only [List.length_drop,List.length_take];rfl)) ?_;(with_reducible refine (iD.calls (rd l0 cu) 0 (wrap64 (a1 - 1)) false _ A6.out).mono ?_);rintro e w' ⟨rfl,⟨nd,rfl⟩⟩;refine ⟨_,rfl,?_⟩))
       go_ret
       exact ⟨by first|rfl|(simp;done)|(simp [*];done),by repeat (first|exact bl.refl _|apply bl.step)⟩
     ·rw [if_neg c5] at H
      exact absurd H (by simp)
    ·rw [if_neg c4] at H
     exact absurd H (by simp)
   ·rw [if_neg c3] at H
    have gw:decide (cu<(l0.length:Int))=false:=decide_eq_false c3
    clear c3
    obtain rfl:=Option.some.inj H
    go_wp2
    go_ret
    exact ⟨by first|rfl|(simp;done)|(simp [*];done),by repeat (first|exact bl.refl _|apply bl.step)⟩
end Go.Proofs.Ytnhknojfpjheoaa.P
namespace Go.Proofs.Ytnhknojfpjheoaa.PT
open Go.RowKit Go.Proofs.Ytnhknojfpjheoaa.P Go.Proofs.YtnhknojfpjheoaaW.PrintWords Go.Proofs.YtnhknojfpjheoaaW.PrintLast Go.Proofs.Ytnhknojfpjheoaa.EvKit
set_option linter.all false
def jY (last:Int):List Int->Bool
 | []=>true
 |v::r=>decide (last<v)&&decide (v<6)&&jY v r
theorem a0P (l:List Int) (hl:l.length<=9223372036854775806):∀d i,i+d=l.length->∀last,Ev (fun k=>cW.l0 k last l (l.length:Int) (i:Int)) (jY last (l.drop i)):=by
 intro d
 induction d with
 |zero=>
  intro i hi last
  refine Ev.succ ?_
  simp only [cW.l0,if_neg (show ¬((i:Int)<(l.length:Int)) by omega)]
  rw [List.drop_of_length_le (by omega)];exact Ev.now _
 |succ d ih=>
  intro i hi last
  have hlt:i<l.length:=by omega
  refine Ev.succ ?_
  simp only [cW.l0,if_pos (show ((i:Int)<(l.length:Int)) by omega),if_pos (show (0:Int)<=(i:Int) by omega),qa hlt,eD (show i<=9223372036854775806 by omega)]
  rw [yK hlt]
  simp only [jY]
  by_cases h1:l[i]<=last
  ·simp only [if_pos h1,show ¬(last<l[i]) by omega,decide_false,Bool.false_and];exact Ev.now _
  ·by_cases h2:l[i]>=6
   ·simp only [if_neg h1,if_pos h2,show ¬(l[i]<6) by omega,decide_false,Bool.false_and,Bool.and_false];exact Ev.now _
   ·simp only [if_neg h1,if_neg h2,show (last<l[i]) by omega,show (l[i]<6) by omega,decide_true,Bool.true_and]
    exact ih (i+1) (by omega) _
theorem Av (l:List Int) (hl:l.length<=9223372036854775806):Ev (fun k=>cW.f k l) (jY (-1) l):=by
 unfold cW.f
 have:=a0P l hl l.length 0 (by omega) (-1)
 simpa using this
def before (l:List Int) (i:Nat):Int:=if i=0 then -1 else l.getD (i - 1) 0
theorem UA (l:List Int) (hl:l.length<=9223372036854775806):∀i,i<=l.length-> -1<=before l i->Ev (fun k=>bG.l0 k l 6 l (l.length:Int) (i:Int)) (jY (before l i) (l.drop i)):=by
 have key:∀d i,i+d=l.length-> -1<=before l i->Ev (fun k=>bG.l0 k l 6 l (l.length:Int) (i:Int)) (jY (before l i) (l.drop i)):=by
  intro d
  induction d with
  |zero=>
   intro i hi _
   refine Ev.succ ?_
   simp only [bG.l0,if_neg (show ¬((i:Int)<(l.length:Int)) by omega)]
   rw [List.drop_of_length_le (by omega)];exact Ev.now _
  |succ d ih=>
   intro i hi hb
   have hlt:i<l.length:=by omega
   refine Ev.succ ?_
   simp only [bG.l0,if_pos (show ((i:Int)<(l.length:Int)) by omega),if_pos (show (0:Int)<=(i:Int) by omega),qa hlt,eD (show i<=9223372036854775806 by omega),WO,Option.bind_some,
    show wrap64 (6 - 1)=5 from by unfold wrap64;omega,decide_eq_true_eq]
   rw [yK hlt]
   simp only [jY]
   have hnext:before l (i+1)=l[i]:=by unfold before;simp [List.getD_eq_getElem?_getD,hlt]
   have ih':=ih (i+1) (by omega)
   rw [hnext] at ih'
   by_cases h0:i=0
   ·subst h0
    simp only [show ¬(((0:Nat):Int)>0) by omega,if_false]
    have hb0:before l 0= -1:=rfl
    rw [hb0]
    by_cases h1:0<=l[0]/\l[0]<=5
    ·simp only [show (-1:Int)<l[0] by omega,show l[0]<6 by omega,decide_true,Bool.true_and]
     exact Ev.congr (fun _=>if_pos h1) (ih' (by omega))
    ·have:(decide ((-1:Int)<l[0])&&decide (l[0]<6)&&jY l[0] (l.drop (0+1)))=false:=by
      simp only [Bool.and_eq_false_iff,decide_eq_false_iff_not];left;omega
     rw [this];exact Ev.congr (fun _=>if_neg h1) (Ev.now _)
   ·have hw:wrap64 ((i:Int)- 1)=((i - 1:Nat):Int):=by unfold wrap64;omega
    have hb0:before l i=l[i - 1]:=by unfold before;rw [if_neg h0];simp [List.getD_eq_getElem?_getD,show i - 1<l.length by omega]
    rw [hb0] at hb⊢
    simp only [show ((i:Int)>0) by omega,if_true,hw,show (0:Int)<=((i - 1:Nat):Int) by omega,show (((i - 1:Nat):Int)<(l.length:Int)) by omega,qa (show i - 1<l.length by omega)]
    by_cases h1:0<=l[i]/\l[i]<=5
    ·by_cases h2:l[i]<=l[i - 1]
     ·simp only [if_pos h1,if_pos h2,show ¬(l[i - 1]<l[i]) by omega,decide_false,Bool.false_and];exact Ev.now _
     ·simp only [if_pos h1,if_neg h2,show (l[i - 1]<l[i]) by omega,show l[i]<6 by omega,decide_true,Bool.true_and]
      exact ih' (by omega)
    ·simp only [if_neg h1]
     have:(decide (l[i - 1]<l[i])&&decide (l[i]<6)&&jY l[i] (l.drop (i+1)))=false:=by
      simp only [Bool.and_eq_false_iff,decide_eq_false_iff_not];left;omega
     rw [this];exact Ev.now _
 intro i hi hb
 exact key (l.length - i) i (by omega) hb
theorem Hu (l:List Int) (hl:l.length<=9223372036854775806):Ev (fun k=>bG.f k l 6) (jY (-1) l):=by
 unfold bG.f
 have:=UA l hl 0 (by omega) (by simp [before])
 simpa [before] using this
end Go.Proofs.Ytnhknojfpjheoaa.PT
namespace Go.Proofs.Ytnhknojfpjheoaa.PT
open Go.RowKit Go.Proofs.Ytnhknojfpjheoaa.P Go.Proofs.YtnhknojfpjheoaaW.PrintWords Go.Proofs.Ytnhknojfpjheoaa.EvKit
set_option linter.all false
theorem RU:∀(l:List Int) (a:Int),jY a l=true->l=[]∨(l.length:Int)<=5 - a
 | [],_,_=> .inl rfl
 |v::r,a,h=>by
  simp only [jY,Bool.and_eq_true,decide_eq_true_eq] at h
  right
  rcases RU r v h.2 with rfl|h2
  ·simp;omega
  ·simp only [List.length_cons];omega
theorem OX {l:List Int} (h:jY (-1) l=true):l.length<=6:=by
 rcases RU l _ h with rfl|h
 ·simp
 ·omega
end Go.Proofs.Ytnhknojfpjheoaa.PT
namespace Go.Proofs.Ytnhknojfpjheoaa.PT
open Go.RowKit Go.Proofs.Ytnhknojfpjheoaa.P Go.Proofs.YtnhknojfpjheoaaW.PrintWords Go.Proofs.YtnhknojfpjheoaaW.PrintLast Go.Proofs.Ytnhknojfpjheoaa.EvKit
set_option linter.all false
def nM (W:World) (r0:V5) (e:Ending) (w':World):Prop:=∃a3y a3z a3A a3B b0,e= .returned ((.agg #[.bool r0.1,.int .i64 r0.2.1,.int .i64 r0.2.2.1,.slice a3y r0.2.2.2.1.length a3z,.slice a3A r0.2.2.2.2.length a3B]))/\oV w' r0 a3y r0.2.2.2.1.length a3z a3A r0.2.2.2.2.length a3B b0/\(∀b,b∈b0->W.heap.size<=b)/\GZ W w'
end Go.Proofs.Ytnhknojfpjheoaa.PT
