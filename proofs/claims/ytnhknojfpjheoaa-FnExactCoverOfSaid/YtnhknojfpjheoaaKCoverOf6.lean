/-
  Part 6 of the proof of this: The law FnExactCoverOf answers true at every argument.
-/
import Derived.Test.YtnhknojfpjheoaaKCoverOf2
import Derived.Test.YtnhknojfpjheoaaKCoverOf5
namespace Go.Proofs.Ytnhknojfpjheoaa.P
open Go.RowKit Go.Proofs.YtnhknojfpjheoaaW.PrintWords Go.Proofs.YtnhknojfpjheoaaW.PrintLast Go.Proofs.YtnhknojfpjheoaaW.PrintMore
attribute [local go_sem] max2_int min2_int max_two min_two max_three min_three max_four min_four
set_option linter.all false
def lz.f (k:Nat) (aH:Int) (aG:Int) (bh:Int) (aV:Int):Option (Int×Int):=(cM.f k aH aG).bind fun IZ=>(if IZ=true then ((cM.f k bh aV).bind fun xu=>(if xu=true then ((bG.f k (wrap64 ((wrap64 (aH*aV))+(wrap64 (bh*aG)))) (wrap64 (aG*aV))).bind fun mB=>(some (mB.1,mB.2))) else (some (0,0)))) else (some (0,0)))
theorem lz.mono:∀a0 a1 a2 a3 k,aT (lz.f k a0 a1 a2 a3) (lz.f (k+1) a0 a1 a2 a3):=by
 intro a0 a1 a2 a3 k
 unfold lz.f
 repeat' first
  |(with_reducible exact cM.mono _ _ _)
  |(with_reducible exact bG.mono _ _ _)
  |(with_reducible exact aT.refl _)
  |(with_reducible exact aT.none _)
  |(with_reducible refine aT.ite ?_ ?_)
  |(with_reducible refine aT.bind ?_ (fun _=>?_))
set_option maxHeartbeats 8000000 in
set_option maxRecDepth 100000 in
theorem lz.calls (k:Nat) (aH:Int) (aG:Int) (bh:Int) (aV:Int) (r1:Int) (r2:Int) (w:World) (h:lz.f k aH aG bh aV=some (r1,r2)):
 Calls Try.prog 20 #[.agg #[.int .i64 aH,.int .i64 aG],.agg #[.int .i64 bh,.int .i64 aV]] w fun e w'=>e= .returned (.agg #[.int .i64 r1,.int .i64 r2])/\Below w.heap.size w w':=by
 have mM:=Try.underlying26
 have HB:=Aside0.mk (Below.refl w.heap.size w)
 have H:((cM.f k aH aG).bind fun IZ=>(if IZ=true then ((cM.f k bh aV).bind fun xu=>(if xu=true then ((bG.f k (wrap64 ((wrap64 (aH*aV))+(wrap64 (bh*aG)))) (wrap64 (aG*aV))).bind fun mB=>(some (mB.1,mB.2))) else (some (0,0)))) else (some (0,0))))=some (r1,r2):=h
 clear h
 replace H:=Option.bind_eq_some_iff.mp H
 obtain ⟨IZ,jc,H⟩:=H
 replace H:(if IZ=true then ((cM.f k bh aV).bind fun xu=>(if xu=true then ((bG.f k (wrap64 ((wrap64 (aH*aV))+(wrap64 (bh*aG)))) (wrap64 (aG*aV))).bind fun mB=>(some (mB.1,mB.2))) else (some (0,0)))) else (some (0,0)))=some (r1,r2):=H
 have A3:=Aside0.mk jc
 clear jc
 by_cases c4:IZ=true
 ·subst c4
  have H1:((cM.f k bh aV).bind fun xu=>(if xu=true then ((bG.f k (wrap64 ((wrap64 (aH*aV))+(wrap64 (bh*aG)))) (wrap64 (aG*aV))).bind fun mB=>(some (mB.1,mB.2))) else (some (0,0))))=some (r1,r2):=by rw [if_pos rfl] at H;exact H
  clear H
  have H:=H1
  clear H1
  replace H:=Option.bind_eq_some_iff.mp H
  obtain ⟨xu,AO,H⟩:=H
  replace H:(if xu=true then ((bG.f k (wrap64 ((wrap64 (aH*aV))+(wrap64 (bh*aG)))) (wrap64 (aG*aV))).bind fun mB=>(some (mB.1,mB.2))) else (some (0,0)))=some (r1,r2):=H
  have A5:=Aside0.mk AO
  clear AO
  by_cases c6:xu=true
  ·subst c6
   have H1:((bG.f k (wrap64 ((wrap64 (aH*aV))+(wrap64 (bh*aG)))) (wrap64 (aG*aV))).bind fun mB=>(some (mB.1,mB.2)))=some (r1,r2):=by rw [if_pos rfl] at H;exact H
   clear H
   have H:=H1
   clear H1
   replace H:=Option.bind_eq_some_iff.mp H
   obtain ⟨⟨SV,ZG⟩,Am,H⟩:=H
   replace H:(some (SV,ZG))=some (r1,r2):=H
   have A7:=Aside0.mk Am
   clear Am
   simp only [Option.some.injEq,Prod.mk.injEq] at H
   obtain ⟨rfl,rfl⟩:=H
   go_enter Try.func20,Try.ntmps20
   go_wp2_with (first|((with_reducible refine bp (N:=2) rfl ?_);refine bw ?hg (N:=2) ?hd (cs:= #[.int .i64 aH,.int .i64 aG]) (t:=26) ?hr ?_;(case hd=>rfl);(case hg=>rfl);(case hr=>first|(go_simp;done)|(go_simp;rfl));intro dI hg w8 aU hb;have aA:=Aside0.mk (ah ax hb);have aC:=Aside0.mk (aU);have aD:=Aside0.mk ((by rw [hg];exact (av ax):w.heap.size<=dI));have aJ:=Aside0.mk ((by rw [hg];exact (av ax):w.heap.size<=dI));clear HB;have HB:=aA;have cQ:=aC;have a2c:=aD;have a2d:=aJ;clear aA aC aD aJ;clear hb aU hg)|((with_reducible refine bp (N:=3) rfl ?_);refine bw ?hg (N:=3) ?hd (cs:= #[.int .i64 bh,.int .i64 aV]) (t:=26) ?hr ?_;(case hd=>rfl);(case hg=>rfl);(case hr=>first|(go_simp;done)|(go_simp;rfl));intro eN hg w9 aU hb;have aA:=Aside0.mk (ai (g:=dI) (o:= .cells #[.int .i64 aH,.int .i64 aG] 26 (0,0)) (aI cQ) hb);have aC:=Aside0.mk (ah ax hb);have aD:=Aside0.mk (aU);have aJ:=Aside0.mk ((by rw [hg];exact (av ax):w.heap.size<=eN));have bJ:=Aside0.mk ((by rw [hg];exact (av ax):w.heap.size<=eN));have bS:=Aside0.mk ((by rw [hg];exact Nat.ne_of_lt (aZ (g:=dI) (o:= .cells #[.int .i64 aH,.int .i64 aG] 26 (0,0)) (aI cQ)):dI≠eN));have cw:=Aside0.mk ((by rw [hg];exact Nat.ne_of_gt (aZ (g:=dI) (o:= .cells #[.int .i64 aH,.int .i64 aG] 26 (0,0)) (aI cQ)):eN≠dI));clear cQ;clear HB;have cQ:=aA;have HB:=aC;have ek:=aD;have a2e:=aJ;have a2f:=bJ;have tM:=bS;have tN:=cw;clear aA aC aD aJ bJ bS cw;clear hb aU hg)|((with_reducible refine bp (N:=4) rfl ?_);refine bw ?hg (N:=4) ?hd (cs:= #[.int .i64 0,.int .i64 0]) (t:=26) ?hr ?_;(case hd=>rfl);(case hg=>rfl);(case hr=>first|(go_simp;done)|(go_simp;rfl));intro fE hg jY aU hb;have aA:=Aside0.mk (ai (g:=dI) (o:= .cells #[.int .i64 aH,.int .i64 aG] 26 (0,0)) (aI cQ) hb);have aC:=Aside0.mk (ai (g:=eN) (o:= .cells #[.int .i64 bh,.int .i64 aV] 26 (0,0)) (aI ek) hb);have aD:=Aside0.mk (ah ax hb);have aJ:=Aside0.mk (aU);have bJ:=Aside0.mk ((by rw [hg];exact (av ax):w.heap.size<=fE));have bS:=Aside0.mk ((by rw [hg];exact (av ax):w.heap.size<=fE));have cw:=Aside0.mk ((by rw [hg];exact Nat.ne_of_lt (aZ (g:=dI) (o:= .cells #[.int .i64 aH,.int .i64 aG] 26 (0,0)) (aI cQ)):dI≠fE));have iL:=Aside0.mk ((by rw [hg];exact Nat.ne_of_gt (aZ (g:=dI) (o:= .cells #[.int .i64 aH,.int .i64 aG] 26 (0,0)) (aI cQ)):fE≠dI));have je:=Aside0.mk ((by rw [hg];exact Nat.ne_of_lt (aZ (g:=eN) (o:= .cells #[.int .i64 bh,.int .i64 aV] 26 (0,0)) (aI ek)):eN≠fE));have jP:=Aside0.mk ((by rw [hg];exact Nat.ne_of_gt (aZ (g:=eN) (o:= .cells #[.int .i64 bh,.int .i64 aV] 26 (0,0)) (aI ek)):fE≠eN));clear cQ;clear ek;clear HB;have cQ:=aA;have ek:=aC;have HB:=aD;have fF:=aJ;have a2g:=bJ;have a2h:=bS;have tO:=cw;have tP:=iL;have tQ:=je;have tR:=jP;clear aA aC aD aJ bJ bS cw iL je jP;clear hb aU hg;have b1e:=tM.out;have b1f:=tN.out;have a1v:=tO.out;have a1w:=tP.out;have oh:jY.cell? ⟨dI,0,none⟩=some (.int .i64 aH):=(af cQ.out 0).trans rfl;have om:jY.cell? ⟨dI,1,none⟩=some (.int .i64 aG):=(af cQ.out 1).trans rfl;have oo:=aa cQ.out 0;have oq:=aa cQ.out 1)|((with_reducible refine aY (f:=46) rfl ?_);refine bP (some 6) rfl rfl Try.func46 (by kernel_rfl) rfl #[.agg #[.int .i64 aH,.int .i64 aG]] rfl (by (try simp only [List.map_toArray,List.map_cons,List.map_nil]);first|done|rfl|(simp only [List.length_drop,List.length_take];rfl)) ?_;(with_reducible refine (cM.calls k aH aG true _ A3.out).mono ?_);rintro e nh ⟨rfl,hb⟩;refine ⟨_,rfl,?_⟩;have aA:=Aside0.mk (ai (g:=dI) (o:= .cells #[.int .i64 aH,.int .i64 aG] 26 (0,0)) (aI cQ) hb);have aC:=Aside0.mk (ai (g:=eN) (o:= .cells #[.int .i64 bh,.int .i64 aV] 26 (0,0)) (aI ek) hb);have aD:=Aside0.mk (ai (g:=fE) (o:= .cells #[.int .i64 0,.int .i64 0] 26 (0,0)) (aI fF) hb);have aJ:=Aside0.mk (ah ax hb);clear cQ;clear ek;clear fF;clear HB;have cQ:=aA;have ek:=aC;have fF:=aD;have HB:=aJ;clear aA aC aD aJ;(try clear hb);(try clear hb2);(try clear hk);(try clear hi);have hnb15:=tQ.out;have hnc15:=tR.out;have hcz16_0:nh.cell? ⟨eN,0,none⟩=some (.int .i64 bh):=(af ek.out 0).trans rfl;have hcz16_1:nh.cell? ⟨eN,1,none⟩=some (.int .i64 aV):=(af ek.out 1).trans rfl;have hfz16_0:=aa ek.out 0;have hfz16_1:=aa ek.out 1)|(go_at_call 46;(with_reducible refine (cM.calls k bh aV true _ A5.out).mono ?_);rintro e uq ⟨rfl,hb⟩;have aA:=Aside0.mk (ai (g:=dI) (o:= .cells #[.int .i64 aH,.int .i64 aG] 26 (0,0)) (aI cQ) hb);have aC:=Aside0.mk (ai (g:=eN) (o:= .cells #[.int .i64 bh,.int .i64 aV] 26 (0,0)) (aI ek) hb);have aD:=Aside0.mk (ai (g:=fE) (o:= .cells #[.int .i64 0,.int .i64 0] 26 (0,0)) (aI fF) hb);have aJ:=Aside0.mk (ah ax hb);clear cQ;clear ek;clear fF;clear HB;have cQ:=aA;have ek:=aC;have fF:=aD;have HB:=aJ;clear aA aC aD aJ;(try clear hb);(try clear hb2);(try clear hk);(try clear hi);have Hp:uq.cell? ⟨dI,0,none⟩=some (.int .i64 aH):=(af cQ.out 0).trans rfl;have Hq:uq.cell? ⟨dI,1,none⟩=some (.int .i64 aG):=(af cQ.out 1).trans rfl;have Hr:=aa cQ.out 0;have Hs:=aa cQ.out 1;have Hu:uq.cell? ⟨eN,0,none⟩=some (.int .i64 bh):=(af ek.out 0).trans rfl;have Hv:uq.cell? ⟨eN,1,none⟩=some (.int .i64 aV):=(af ek.out 1).trans rfl;have Hw:=aa ek.out 0;have Hx:=aa ek.out 1)|((with_reducible refine aY (f:=45) rfl ?_);refine bP (some 30) rfl rfl Try.func45 (by kernel_rfl) rfl #[.int .i64 (wrap64 ((wrap64 (aH*aV))+(wrap64 (bh*aG)))),.int .i64 (wrap64 (aG*aV))] rfl (by (try simp only [List.map_toArray,List.map_cons,List.map_nil]);first|done|rfl|(simp only [List.length_drop,List.length_take];rfl)) ?_;(with_reducible refine (bG.calls k (wrap64 ((wrap64 (aH*aV))+(wrap64 (bh*aG)))) (wrap64 (aG*aV)) SV ZG _ A7.out).mono ?_);rintro e kF ⟨rfl,hb⟩;refine ⟨_,rfl,?_⟩;have aA:=Aside0.mk (ai (g:=dI) (o:= .cells #[.int .i64 aH,.int .i64 aG] 26 (0,0)) (aI cQ) hb);have aC:=Aside0.mk (ai (g:=eN) (o:= .cells #[.int .i64 bh,.int .i64 aV] 26 (0,0)) (aI ek) hb);have aD:=Aside0.mk (ai (g:=fE) (o:= .cells #[.int .i64 0,.int .i64 0] 26 (0,0)) (aI fF) hb);have aJ:=Aside0.mk (ah ax hb);clear cQ;clear ek;clear fF;clear HB;have cQ:=aA;have ek:=aC;have fF:=aD;have HB:=aJ;clear aA aC aD aJ;(try clear hb);(try clear hb2);(try clear hk);(try clear hi);have BO:kF.cell? ⟨fE,0,none⟩=some (.int .i64 0):=(af fF.out 0).trans rfl;have BP:kF.cell? ⟨fE,1,none⟩=some (.int .i64 0):=(af fF.out 1).trans rfl;have BQ:=aa fF.out 0;have BS:=aa fF.out 1))
   refine bodyPost_ret (results_cell_row rfl _ _ fE 26 #[.int .i64 SV,.int .i64 ZG] (0,0) _ rfl (by (with_reducible repeat (first|refine aq ?_ _|refine aj ?_|refine ak ?_ _));refine aK (cs:= #[.int .i64 SV,.int .i64 0]) ?_ 1 _ rfl;(with_reducible repeat (first|refine aq ?_ _|refine aj ?_|refine ak ?_ _));refine aK (cs:= #[.int .i64 0,.int .i64 0]) ?_ 0 _ rfl;(with_reducible repeat (first|refine aq ?_ _|refine aj ?_|refine ak ?_ _));exact fF.out) Try.underlying26 rfl (by kernel_rfl)) rfl ?_
   exact ⟨by first|rfl|(simp [aQ,aR]<;>rfl)|(simp [*,aQ,aR]<;>rfl),ax⟩
  ·replace c6:=Bool.eq_false_iff.mpr c6
   subst c6
   have H1:(some (0,0))=some (r1,r2):=by rw [if_neg (show ¬(false=true) by decide)] at H;exact H
   clear H
   have H:=H1
   clear H1
   simp only [Option.some.injEq,Prod.mk.injEq] at H
   obtain ⟨rfl,rfl⟩:=H
   go_enter Try.func20,Try.ntmps20
   go_wp2_with (first|((with_reducible refine bp (N:=2) rfl ?_);refine bw ?hg (N:=2) ?hd (cs:= #[.int .i64 aH,.int .i64 aG]) (t:=26) ?hr ?_;(case hd=>rfl);(case hg=>rfl);(case hr=>first|(go_simp;done)|(go_simp;rfl));intro dI hg wI aU hb;have aA:=Aside0.mk (ah ax hb);have aC:=Aside0.mk (aU);have aD:=Aside0.mk ((by rw [hg];exact (av ax):w.heap.size<=dI));have aJ:=Aside0.mk ((by rw [hg];exact (av ax):w.heap.size<=dI));clear HB;have HB:=aA;have cQ:=aC;have a2c:=aD;have a2d:=aJ;clear aA aC aD aJ;clear hb aU hg)|((with_reducible refine bp (N:=3) rfl ?_);refine bw ?hg (N:=3) ?hd (cs:= #[.int .i64 bh,.int .i64 aV]) (t:=26) ?hr ?_;(case hd=>rfl);(case hg=>rfl);(case hr=>first|(go_simp;done)|(go_simp;rfl));intro eN hg um aU hb;have aA:=Aside0.mk (ai (g:=dI) (o:= .cells #[.int .i64 aH,.int .i64 aG] 26 (0,0)) (aI cQ) hb);have aC:=Aside0.mk (ah ax hb);have aD:=Aside0.mk (aU);have aJ:=Aside0.mk ((by rw [hg];exact (av ax):w.heap.size<=eN));have bJ:=Aside0.mk ((by rw [hg];exact (av ax):w.heap.size<=eN));have bS:=Aside0.mk ((by rw [hg];exact Nat.ne_of_lt (aZ (g:=dI) (o:= .cells #[.int .i64 aH,.int .i64 aG] 26 (0,0)) (aI cQ)):dI≠eN));have cw:=Aside0.mk ((by rw [hg];exact Nat.ne_of_gt (aZ (g:=dI) (o:= .cells #[.int .i64 aH,.int .i64 aG] 26 (0,0)) (aI cQ)):eN≠dI));clear cQ;clear HB;have cQ:=aA;have HB:=aC;have ek:=aD;have a2e:=aJ;have a2f:=bJ;have tM:=bS;have tN:=cw;clear aA aC aD aJ bJ bS cw;clear hb aU hg)|((with_reducible refine bp (N:=4) rfl ?_);refine bw ?hg (N:=4) ?hd (cs:= #[.int .i64 0,.int .i64 0]) (t:=26) ?hr ?_;(case hd=>rfl);(case hg=>rfl);(case hr=>first|(go_simp;done)|(go_simp;rfl));intro fE hg w24 aU hb;have aA:=Aside0.mk (ai (g:=dI) (o:= .cells #[.int .i64 aH,.int .i64 aG] 26 (0,0)) (aI cQ) hb);have aC:=Aside0.mk (ai (g:=eN) (o:= .cells #[.int .i64 bh,.int .i64 aV] 26 (0,0)) (aI ek) hb);have aD:=Aside0.mk (ah ax hb);have aJ:=Aside0.mk (aU);have bJ:=Aside0.mk ((by rw [hg];exact (av ax):w.heap.size<=fE));have bS:=Aside0.mk ((by rw [hg];exact (av ax):w.heap.size<=fE));have cw:=Aside0.mk ((by rw [hg];exact Nat.ne_of_lt (aZ (g:=dI) (o:= .cells #[.int .i64 aH,.int .i64 aG] 26 (0,0)) (aI cQ)):dI≠fE));have iL:=Aside0.mk ((by rw [hg];exact Nat.ne_of_gt (aZ (g:=dI) (o:= .cells #[.int .i64 aH,.int .i64 aG] 26 (0,0)) (aI cQ)):fE≠dI));have je:=Aside0.mk ((by rw [hg];exact Nat.ne_of_lt (aZ (g:=eN) (o:= .cells #[.int .i64 bh,.int .i64 aV] 26 (0,0)) (aI ek)):eN≠fE));have jP:=Aside0.mk ((by rw [hg];exact Nat.ne_of_gt (aZ (g:=eN) (o:= .cells #[.int .i64 bh,.int .i64 aV] 26 (0,0)) (aI ek)):fE≠eN));clear cQ;clear ek;clear HB;have cQ:=aA;have ek:=aC;have HB:=aD;have fF:=aJ;have a2g:=bJ;have a2h:=bS;have tO:=cw;have tP:=iL;have tQ:=je;have tR:=jP;clear aA aC aD aJ bJ bS cw iL je jP;clear hb aU hg;have b0Y:=tM.out;have b0Z:=tN.out;have hnb26:=tO.out;have hnc26:=tP.out;have a4t:w24.cell? ⟨dI,0,none⟩=some (.int .i64 aH):=(af cQ.out 0).trans rfl;have a4u:w24.cell? ⟨dI,1,none⟩=some (.int .i64 aG):=(af cQ.out 1).trans rfl;have a4v:=aa cQ.out 0;have a4w:=aa cQ.out 1)|((with_reducible refine aY (f:=46) rfl ?_);refine bP (some 6) rfl rfl Try.func46 (by kernel_rfl) rfl #[.agg #[.int .i64 aH,.int .i64 aG]] rfl (by (try simp only [List.map_toArray,List.map_cons,List.map_nil]);first|done|rfl|(simp only [List.length_drop,List.length_take];rfl)) ?_;(with_reducible refine (cM.calls k aH aG true _ A3.out).mono ?_);rintro e wq ⟨rfl,hb⟩;refine ⟨_,rfl,?_⟩;have aA:=Aside0.mk (ai (g:=dI) (o:= .cells #[.int .i64 aH,.int .i64 aG] 26 (0,0)) (aI cQ) hb);have aC:=Aside0.mk (ai (g:=eN) (o:= .cells #[.int .i64 bh,.int .i64 aV] 26 (0,0)) (aI ek) hb);have aD:=Aside0.mk (ai (g:=fE) (o:= .cells #[.int .i64 0,.int .i64 0] 26 (0,0)) (aI fF) hb);have aJ:=Aside0.mk (ah ax hb);clear cQ;clear ek;clear fF;clear HB;have cQ:=aA;have ek:=aC;have fF:=aD;have HB:=aJ;clear aA aC aD aJ;(try clear hb);(try clear hb2);(try clear hk);(try clear hi);have b0G:=tQ.out;have b0H:=tR.out;have a3K:wq.cell? ⟨eN,0,none⟩=some (.int .i64 bh):=(af ek.out 0).trans rfl;have a3L:wq.cell? ⟨eN,1,none⟩=some (.int .i64 aV):=(af ek.out 1).trans rfl;have a3M:=aa ek.out 0;have a3N:=aa ek.out 1)|(go_at_call 46;(with_reducible refine (cM.calls k bh aV false _ A5.out).mono ?_);rintro e w31 ⟨rfl,hb⟩;have aA:=Aside0.mk (ai (g:=dI) (o:= .cells #[.int .i64 aH,.int .i64 aG] 26 (0,0)) (aI cQ) hb);have aC:=Aside0.mk (ai (g:=eN) (o:= .cells #[.int .i64 bh,.int .i64 aV] 26 (0,0)) (aI ek) hb);have aD:=Aside0.mk (ai (g:=fE) (o:= .cells #[.int .i64 0,.int .i64 0] 26 (0,0)) (aI fF) hb);have aJ:=Aside0.mk (ah ax hb);clear cQ;clear ek;clear fF;clear HB;have cQ:=aA;have ek:=aC;have fF:=aD;have HB:=aJ;clear aA aC aD aJ;(try clear hb);(try clear hb2);(try clear hk);(try clear hi);have hcz32_0:w31.cell? ⟨fE,0,none⟩=some (.int .i64 0):=(af fF.out 0).trans rfl;have hcz32_1:w31.cell? ⟨fE,1,none⟩=some (.int .i64 0):=(af fF.out 1).trans rfl;have hfz32_0:=aa fF.out 0;have hfz32_1:=aa fF.out 1))
   refine bodyPost_ret (results_cell_row rfl _ _ fE 26 #[.int .i64 0,.int .i64 0] (0,0) _ rfl (by (with_reducible repeat (first|refine aq ?_ _|refine aj ?_|refine ak ?_ _));refine aK (cs:= #[.int .i64 0,.int .i64 0]) ?_ 1 _ rfl;(with_reducible repeat (first|refine aq ?_ _|refine aj ?_|refine ak ?_ _));refine aK (cs:= #[.int .i64 0,.int .i64 0]) ?_ 0 _ rfl;(with_reducible repeat (first|refine aq ?_ _|refine aj ?_|refine ak ?_ _));exact fF.out) Try.underlying26 rfl (by kernel_rfl)) rfl ?_
   exact ⟨by first|rfl|(simp [aQ,aR]<;>rfl)|(simp [*,aQ,aR]<;>rfl),ax⟩
 ·replace c4:=Bool.eq_false_iff.mpr c4
  subst c4
  have H1:(some (0,0))=some (r1,r2):=by rw [if_neg (show ¬(false=true) by decide)] at H;exact H
  clear H
  have H:=H1
  clear H1
  simp only [Option.some.injEq,Prod.mk.injEq] at H
  obtain ⟨rfl,rfl⟩:=H
  go_enter Try.func20,Try.ntmps20
  go_wp2_with (first|((with_reducible refine bp (N:=2) rfl ?_);refine bw ?hg (N:=2) ?hd (cs:= #[.int .i64 aH,.int .i64 aG]) (t:=26) ?hr ?_;(case hd=>rfl);(case hg=>rfl);(case hr=>first|(go_simp;done)|(go_simp;rfl));intro dI hg w33 aU hb;have aA:=Aside0.mk (ah ax hb);have aC:=Aside0.mk (aU);have aD:=Aside0.mk ((by rw [hg];exact (av ax):w.heap.size<=dI));have aJ:=Aside0.mk ((by rw [hg];exact (av ax):w.heap.size<=dI));clear HB;have HB:=aA;have cQ:=aC;have a2c:=aD;have a2d:=aJ;clear aA aC aD aJ;clear hb aU hg)|((with_reducible refine bp (N:=3) rfl ?_);refine bw ?hg (N:=3) ?hd (cs:= #[.int .i64 bh,.int .i64 aV]) (t:=26) ?hr ?_;(case hd=>rfl);(case hg=>rfl);(case hr=>first|(go_simp;done)|(go_simp;rfl));intro eN hg w34 aU hb;have aA:=Aside0.mk (ai (g:=dI) (o:= .cells #[.int .i64 aH,.int .i64 aG] 26 (0,0)) (aI cQ) hb);have aC:=Aside0.mk (ah ax hb);have aD:=Aside0.mk (aU);have aJ:=Aside0.mk ((by rw [hg];exact (av ax):w.heap.size<=eN));have bJ:=Aside0.mk ((by rw [hg];exact (av ax):w.heap.size<=eN));have bS:=Aside0.mk ((by rw [hg];exact Nat.ne_of_lt (aZ (g:=dI) (o:= .cells #[.int .i64 aH,.int .i64 aG] 26 (0,0)) (aI cQ)):dI≠eN));have cw:=Aside0.mk ((by rw [hg];exact Nat.ne_of_gt (aZ (g:=dI) (o:= .cells #[.int .i64 aH,.int .i64 aG] 26 (0,0)) (aI cQ)):eN≠dI));clear cQ;clear HB;have cQ:=aA;have HB:=aC;have ek:=aD;have a2e:=aJ;have a2f:=bJ;have tM:=bS;have tN:=cw;clear aA aC aD aJ bJ bS cw;clear hb aU hg)|((with_reducible refine bp (N:=4) rfl ?_);refine bw ?hg (N:=4) ?hd (cs:= #[.int .i64 0,.int .i64 0]) (t:=26) ?hr ?_;(case hd=>rfl);(case hg=>rfl);(case hr=>first|(go_simp;done)|(go_simp;rfl));intro fE hg pg aU hb;have aA:=Aside0.mk (ai (g:=dI) (o:= .cells #[.int .i64 aH,.int .i64 aG] 26 (0,0)) (aI cQ) hb);have aC:=Aside0.mk (ai (g:=eN) (o:= .cells #[.int .i64 bh,.int .i64 aV] 26 (0,0)) (aI ek) hb);have aD:=Aside0.mk (ah ax hb);have aJ:=Aside0.mk (aU);have bJ:=Aside0.mk ((by rw [hg];exact (av ax):w.heap.size<=fE));have bS:=Aside0.mk ((by rw [hg];exact (av ax):w.heap.size<=fE));have cw:=Aside0.mk ((by rw [hg];exact Nat.ne_of_lt (aZ (g:=dI) (o:= .cells #[.int .i64 aH,.int .i64 aG] 26 (0,0)) (aI cQ)):dI≠fE));have iL:=Aside0.mk ((by rw [hg];exact Nat.ne_of_gt (aZ (g:=dI) (o:= .cells #[.int .i64 aH,.int .i64 aG] 26 (0,0)) (aI cQ)):fE≠dI));have je:=Aside0.mk ((by rw [hg];exact Nat.ne_of_lt (aZ (g:=eN) (o:= .cells #[.int .i64 bh,.int .i64 aV] 26 (0,0)) (aI ek)):eN≠fE));have jP:=Aside0.mk ((by rw [hg];exact Nat.ne_of_gt (aZ (g:=eN) (o:= .cells #[.int .i64 bh,.int .i64 aV] 26 (0,0)) (aI ek)):fE≠eN));clear cQ;clear ek;clear HB;have cQ:=aA;have ek:=aC;have HB:=aD;have fF:=aJ;have a2g:=bJ;have a2h:=bS;have tO:=cw;have tP:=iL;have tQ:=je;have tR:=jP;clear aA aC aD aJ bJ bS cw iL je jP;clear hb aU hg;have b1g:=tM.out;have b1h:=tN.out;have hnb37:=tO.out;have hnc37:=tP.out;have Qe:pg.cell? ⟨dI,0,none⟩=some (.int .i64 aH):=(af cQ.out 0).trans rfl;have Qf:pg.cell? ⟨dI,1,none⟩=some (.int .i64 aG):=(af cQ.out 1).trans rfl;have Qg:=aa cQ.out 0;have Qh:=aa cQ.out 1)|((with_reducible refine aY (f:=46) rfl ?_);refine bP (some 6) rfl rfl Try.func46 (by kernel_rfl) rfl #[.agg #[.int .i64 aH,.int .i64 aG]] rfl (by (try simp only [List.map_toArray,List.map_cons,List.map_nil]);first|done|rfl|(simp only [List.length_drop,List.length_take];rfl)) ?_;(with_reducible refine (cM.calls k aH aG false _ A3.out).mono ?_);rintro e Ka ⟨rfl,hb⟩;refine ⟨_,rfl,?_⟩;have aA:=Aside0.mk (ai (g:=dI) (o:= .cells #[.int .i64 aH,.int .i64 aG] 26 (0,0)) (aI cQ) hb);have aC:=Aside0.mk (ai (g:=eN) (o:= .cells #[.int .i64 bh,.int .i64 aV] 26 (0,0)) (aI ek) hb);have aD:=Aside0.mk (ai (g:=fE) (o:= .cells #[.int .i64 0,.int .i64 0] 26 (0,0)) (aI fF) hb);have aJ:=Aside0.mk (ah ax hb);clear cQ;clear ek;clear fF;clear HB;have cQ:=aA;have ek:=aC;have fF:=aD;have HB:=aJ;clear aA aC aD aJ;(try clear hb);(try clear hb2);(try clear hk);(try clear hi);have hnb40:=tR.out;have hnc40:=tQ.out;have IQ:Ka.cell? ⟨fE,0,none⟩=some (.int .i64 0):=(af fF.out 0).trans rfl;have IU:Ka.cell? ⟨fE,1,none⟩=some (.int .i64 0):=(af fF.out 1).trans rfl;have IV:=aa fF.out 0;have IW:=aa fF.out 1))
  refine bodyPost_ret (results_cell_row rfl _ _ fE 26 #[.int .i64 0,.int .i64 0] (0,0) _ rfl (by (with_reducible repeat (first|refine aq ?_ _|refine aj ?_|refine ak ?_ _));refine aK (cs:= #[.int .i64 0,.int .i64 0]) ?_ 1 _ rfl;(with_reducible repeat (first|refine aq ?_ _|refine aj ?_|refine ak ?_ _));refine aK (cs:= #[.int .i64 0,.int .i64 0]) ?_ 0 _ rfl;(with_reducible repeat (first|refine aq ?_ _|refine aj ?_|refine ak ?_ _));exact fF.out) Try.underlying26 rfl (by kernel_rfl)) rfl ?_
  exact ⟨by first|rfl|(simp [aQ,aR]<;>rfl)|(simp [*,aQ,aR]<;>rfl),ax⟩
def uE.f (a0:Int):Option (Int×Int):=some (a0,1)
set_option maxHeartbeats 8000000 in
set_option maxRecDepth 100000 in
theorem uE.calls (a0:Int) (r1:Int) (r2:Int) (w:World) (h:uE.f a0=some (r1,r2)):
 Calls Try.prog 55 #[.int .i64 a0] w fun e w'=>e= .returned (.agg #[.int .i64 r1,.int .i64 r2])/\Below w.heap.size w w':=by
 have mM:=Try.underlying26
 have HB:=Aside0.mk (Below.refl w.heap.size w)
 have H:(some (a0,1))=some (r1,r2):=h
 clear h
 simp only [Option.some.injEq,Prod.mk.injEq] at H
 obtain ⟨rfl,rfl⟩:=H
 go_enter Try.func55,Try.ntmps55
 go_wp2_with (first|((with_reducible refine bp (N:=2) rfl ?_);refine bw ?hg (N:=2) ?hd (cs:= #[.int .i64 0,.int .i64 0]) (t:=26) ?hr ?_;(case hd=>rfl);(case hg=>rfl);(case hr=>first|(go_simp;done)|(go_simp;rfl));intro FE hg w2 aU hb;have aA:=Aside0.mk (ah ax hb);have aC:=Aside0.mk (aU);have aD:=Aside0.mk ((by rw [hg];exact (av ax):w.heap.size<=FE));have aJ:=Aside0.mk ((by rw [hg];exact (av ax):w.heap.size<=FE));clear HB;have HB:=aA;have FH:=aC;have GW296:=aD;have GE296:=aJ;clear aA aC aD aJ;clear hb aU hg;have hcz3_0:w2.cell? ⟨FE,0,none⟩=some (.int .i64 0):=(af FH.out 0).trans rfl;have hcz3_1:w2.cell? ⟨FE,1,none⟩=some (.int .i64 0):=(af FH.out 1).trans rfl;have hfz3_0:=aa FH.out 0;have hfz3_1:=aa FH.out 1))
 refine bodyPost_ret (results_cell_row rfl _ _ FE 26 #[.int .i64 a0,.int .i64 1] (0,0) _ rfl (by (with_reducible repeat (first|refine aq ?_ _|refine aj ?_|refine ak ?_ _));refine aK (cs:= #[.int .i64 a0,.int .i64 0]) ?_ 1 _ rfl;(with_reducible repeat (first|refine aq ?_ _|refine aj ?_|refine ak ?_ _));refine aK (cs:= #[.int .i64 0,.int .i64 0]) ?_ 0 _ rfl;(with_reducible repeat (first|refine aq ?_ _|refine aj ?_|refine ak ?_ _));exact FH.out) Try.underlying26 rfl (by kernel_rfl)) rfl ?_
 exact ⟨by first|rfl|(simp [aQ,aR]<;>rfl)|(simp [*,aQ,aR]<;>rfl),ax⟩
def dK.f:Nat->Int->Int->Option (Int)
 |0,_,_=>none
 |k+1,a0,a1=>if a1=0 then (some a0) else ((dK.f k a1 (Int.tmod a0 a1)).bind fun Ja=>(some Ja))
theorem dK.cI:∀k,(∀y0 y1,aT (dK.f k y0 y1) (dK.f (k+1) y0 y1))
 |0=>fun _ _ r h=>by simp [dK.f] at h
 |k+1=>by
  have dL:=dK.cI k
  ·intro y0 y1
   unfold dK.f
   repeat' first
   |(with_reducible exact dL _ _)
   |(with_reducible exact aT.refl _)
   |(with_reducible exact aT.none _)
   |(with_reducible refine aT.ite ?_ ?_)
   |(with_reducible refine aT.bind ?_ (fun _=>?_))
theorem dK.mono:∀a0 a1 k,aT (dK.f k a0 a1) (dK.f (k+1) a0 a1):=by
 intro a0 a1 k
 have dL:=dK.cI k
 exact dL a0 a1
set_option maxHeartbeats 8000000 in
set_option maxRecDepth 100000 in
theorem dK.calls (k:Nat):∀(a0:Int) (a1:Int) (r:Int) (w:World) (h:dK.f k a0 a1=some r),
 Calls Try.prog 67 #[.int .i64 a0,.int .i64 a1] w fun e w'=>e= .returned (.int .i64 r)/\bg w w':=by
 induction k using Nat.strongRecOn with
 |_ k ih=>
 intro a0 a1 r w h
 cases k with
 |zero=>exact absurd h (by simp [dK.f])
 |succ k=>
 simp only [dK.f] at h
 have H:(if a1=0 then (some a0) else ((dK.f k a1 (Int.tmod a0 a1)).bind fun Ja=>(some Ja)))=some r:=h
 clear h
 by_cases c3:a1=0
 ·rw [if_pos c3] at H
  have gv:(a1==0)=true:=beq_iff_eq.mpr c3
  have mX:(a1 !=0)=false:=bne_eq_false_iff_eq.mpr c3
  clear c3
  obtain rfl:=Option.some.inj H
  go_enter Try.func67,Try.ntmps67
  go_wp2
  go_ret
  exact ⟨by first|rfl|(simp;done)|(simp [*];done),by repeat (first|exact bg.refl _|apply bg.step)⟩
 ·rw [if_neg c3] at H
  have gv:(a1==0)=false:=beq_eq_false_iff_ne.mpr c3
  have mX:(a1 !=0)=true:=bne_iff_ne.mpr c3
  replace H:=Option.bind_eq_some_iff.mp H
  obtain ⟨Ja,wB,H⟩:=H
  replace H:(some Ja)=some r:=H
  have A4:=Aside0.mk wB
  clear wB
  obtain rfl:=Option.some.inj H
  go_enter Try.func67,Try.ntmps67
  go_wp2_with (first|((with_reducible refine aY (f:=67) rfl ?_);refine bP (some 12) rfl rfl Try.func67 (by kernel_rfl) rfl #[.int .i64 a1,.int .i64 (Int.tmod a0 a1)] rfl (by (try simp only [List.map_toArray,List.map_cons,List.map_nil]);first|done|rfl|(simp only [List.length_drop,List.length_take];rfl)) ?_;(with_reducible refine (ih k (by omega) a1 (Int.tmod a0 a1) Ja _ A4.out).mono ?_);rintro e w' ⟨rfl,⟨nd,rfl⟩⟩;refine ⟨_,rfl,?_⟩))
  go_ret
  exact ⟨by first|rfl|(simp;done)|(simp [*];done),by repeat (first|exact bg.refl _|apply bg.step)⟩
def iB.f (a0:Int):Option (Int):=if a0<0 then (some (wrap64 (-a0))) else (some a0)
set_option maxHeartbeats 8000000 in
set_option maxRecDepth 100000 in
theorem iB.calls (a0:Int) (r:Int) (w:World) (h:iB.f a0=some r):
 Calls Try.prog 68 #[.int .i64 a0] w fun e w'=>e= .returned (.int .i64 r)/\bg w w':=by
 have H:(if a0<0 then (some (wrap64 (-a0))) else (some a0))=some r:=h
 clear h
 by_cases c2:a0<0
 ·rw [if_pos c2] at H
  have Dp:decide (a0<0)=true:=decide_eq_true c2
  clear c2
  obtain rfl:=Option.some.inj H
  go_enter Try.func68,Try.ntmps68
  go_wp2
  go_ret
  exact ⟨by first|rfl|(simp;done)|(simp [*];done),by repeat (first|exact bg.refl _|apply bg.step)⟩
 ·rw [if_neg c2] at H
  have Dp:decide (a0<0)=false:=decide_eq_false c2
  clear c2
  obtain rfl:=Option.some.inj H
  go_enter Try.func68,Try.ntmps68
  go_wp2
  go_ret
  exact ⟨by first|rfl|(simp;done)|(simp [*];done),by repeat (first|exact bg.refl _|apply bg.step)⟩
def cg.f (k:Nat) (a0:Int) (a1:Int):Option (Int×Int):=(iB.f a0).bind fun uf=>((iB.f a1).bind fun t116=>((dK.f k uf t116).bind fun t117=>(if a1<0 then (if (wrap64 (-t117))=0 then (none) else (some (wrap64 (Int.tdiv a0 (wrap64 (-t117))),wrap64 (Int.tdiv a1 (wrap64 (-t117)))))) else (if t117=0 then (none) else (some (wrap64 (Int.tdiv a0 t117),wrap64 (Int.tdiv a1 t117)))))))
theorem cg.mono:∀a0 a1 k,aT (cg.f k a0 a1) (cg.f (k+1) a0 a1):=by
 intro a0 a1 k
 unfold cg.f
 repeat' first
  |(with_reducible exact dK.mono _ _ _)
  |(with_reducible exact aT.refl _)
  |(with_reducible exact aT.none _)
  |(with_reducible refine aT.ite ?_ ?_)
  |(with_reducible refine aT.bind ?_ (fun _=>?_))
def cg.T4:Bool×List (List Nat×List Nat):=(true,[([],[]),([],[]),([0,1],[0,1]),([],[]),([],[]),([3,4],[3,4]),([2,5],[2,5]),([6,0,1,2,3,4,5,6],[6])])
def cg.B4:List Nat:=[0,0,3,0,0,24,63,127]
theorem cg.Ec:ke .any (opsOf Try.f66 4)=cg.T4:=by kernel_rfl
theorem cg.zz:pQ cg.T4.2 cg.B4=true:=by kernel_rfl
set_option maxHeartbeats 8000000 in
set_option maxRecDepth 100000 in
theorem cg.calls (k:Nat) (a0:Int) (a1:Int) (r1:Int) (r2:Int) (w:World) (h:cg.f k a0 a1=some (r1,r2)):
 Calls Try.prog 66 #[.int .i64 a0,.int .i64 a1] w fun e w'=>e= .returned (.agg #[.int .i64 r1,.int .i64 r2])/\Below w.heap.size w w':=by
 have mM:=Try.underlying26
 have HB:=Aside0.mk (Below.refl w.heap.size w)
 have H:((iB.f a0).bind fun uf=>((iB.f a1).bind fun t116=>((dK.f k uf t116).bind fun t117=>(if a1<0 then (if (wrap64 (-t117))=0 then (none) else (some (wrap64 (Int.tdiv a0 (wrap64 (-t117))),wrap64 (Int.tdiv a1 (wrap64 (-t117)))))) else (if t117=0 then (none) else (some (wrap64 (Int.tdiv a0 t117),wrap64 (Int.tdiv a1 t117))))))))=some (r1,r2):=h
 clear h
 replace H:=Option.bind_eq_some_iff.mp H
 obtain ⟨uf,jc,H⟩:=H
 replace H:((iB.f a1).bind fun t116=>((dK.f k uf t116).bind fun t117=>(if a1<0 then (if (wrap64 (-t117))=0 then (none) else (some (wrap64 (Int.tdiv a0 (wrap64 (-t117))),wrap64 (Int.tdiv a1 (wrap64 (-t117)))))) else (if t117=0 then (none) else (some (wrap64 (Int.tdiv a0 t117),wrap64 (Int.tdiv a1 t117)))))))=some (r1,r2):=H
 have A3:=Aside0.mk jc
 clear jc
 replace H:=Option.bind_eq_some_iff.mp H
 obtain ⟨t116,wB,H⟩:=H
 replace H:((dK.f k uf t116).bind fun t117=>(if a1<0 then (if (wrap64 (-t117))=0 then (none) else (some (wrap64 (Int.tdiv a0 (wrap64 (-t117))),wrap64 (Int.tdiv a1 (wrap64 (-t117)))))) else (if t117=0 then (none) else (some (wrap64 (Int.tdiv a0 t117),wrap64 (Int.tdiv a1 t117))))))=some (r1,r2):=H
 have A4:=Aside0.mk wB
 clear wB
 replace H:=Option.bind_eq_some_iff.mp H
 obtain ⟨t117,AO,H⟩:=H
 replace H:(if a1<0 then (if (wrap64 (-t117))=0 then (none) else (some (wrap64 (Int.tdiv a0 (wrap64 (-t117))),wrap64 (Int.tdiv a1 (wrap64 (-t117)))))) else (if t117=0 then (none) else (some (wrap64 (Int.tdiv a0 t117),wrap64 (Int.tdiv a1 t117)))))=some (r1,r2):=H
 have A5:=Aside0.mk AO
 clear AO
 by_cases c6:a1<0
 ·rw [if_pos c6] at H
  have ov:decide (a1<0)=true:=decide_eq_true c6
  clear c6
  by_cases c7:(wrap64 (-t117))=0
  ·rw [if_pos c7] at H
   exact absurd H (by simp)
  ·rw [if_neg c7] at H
   have rF:((wrap64 (-t117))==0)=false:=beq_eq_false_iff_ne.mpr c7
   have a6q:((wrap64 (-t117)) !=0)=true:=bne_iff_ne.mpr c7
   simp only [Option.some.injEq,Prod.mk.injEq] at H
   obtain ⟨rfl,rfl⟩:=H
   go_enter Try.func66,Try.ntmps66
   try go_wp2_with (first|((with_reducible refine bp (N:=4) rfl ?_);refine bw ?hg (N:=4) ?hd (cs:= #[.int .i64 0,.int .i64 0]) (t:=26) ?hr ?_;(case hd=>rfl);(case hg=>rfl);(case hr=>first|(go_simp;done)|(go_simp;rfl));intro mC hg w8 aU hb;have aA:=Aside0.mk (ah ax hb);have aC:=Aside0.mk (aU);have aD:=Aside0.mk ((by rw [hg];exact (av ax):w.heap.size<=mC));have aJ:=Aside0.mk ((by rw [hg];exact (av ax):w.heap.size<=mC));clear HB;have HB:=aA;have fj:=aC;have b1i:=aD;have b1j:=aJ;clear aA aC aD aJ;clear hb aU hg)|((with_reducible refine aY (f:=68) rfl ?_);refine bP (some 7) rfl rfl Try.func68 (by kernel_rfl) rfl #[.int .i64 a0] rfl (by (try simp only [List.map_toArray,List.map_cons,List.map_nil]);first|done|rfl|(simp only [List.length_drop,List.length_take];rfl)) ?_;(with_reducible refine (iB.calls a0 uf _ A3.out).mono ?_);rintro e w' ⟨rfl,⟨nd,rfl⟩⟩;refine ⟨_,rfl,?_⟩;(try (rw [mg w8];generalize jR:World.drewN w8 _=w8;have aA:Aside0 (w8.heap[mC]? =some (.cells #[.int .i64 0,.int .i64 0] 26 (0,0))):=⟨by rw [<-jR];exact (aI fj)⟩;have aC:Aside0 (Below w.heap.size w w8):=⟨by rw [<-jR];exact ax⟩;clear fj HB jR;have fj:=aA;have HB:=aC;clear aA aC)))|((with_reducible refine aY (f:=68) rfl ?_);refine bP (some 9) rfl rfl Try.func68 (by kernel_rfl) rfl #[.int .i64 a1] rfl (by (try simp only [List.map_toArray,List.map_cons,List.map_nil]);first|done|rfl|(simp only [List.length_drop,List.length_take];rfl)) ?_;(with_reducible refine (iB.calls a1 t116 _ A4.out).mono ?_);rintro e w' ⟨rfl,⟨nd,rfl⟩⟩;refine ⟨_,rfl,?_⟩;(try (rw [mg w8];generalize jR:World.drewN w8 _=w8;have aA:Aside0 (w8.heap[mC]? =some (.cells #[.int .i64 0,.int .i64 0] 26 (0,0))):=⟨by rw [<-jR];exact (aI fj)⟩;have aC:Aside0 (Below w.heap.size w w8):=⟨by rw [<-jR];exact ax⟩;clear fj HB jR;have fj:=aA;have HB:=aC;clear aA aC)))|((with_reducible refine aY (f:=67) rfl ?_);refine bP (some 10) rfl rfl Try.func67 (by kernel_rfl) rfl #[.int .i64 uf,.int .i64 t116] rfl (by (try simp only [List.map_toArray,List.map_cons,List.map_nil]);first|done|rfl|(simp only [List.length_drop,List.length_take];rfl)) ?_;(with_reducible refine (dK.calls k uf t116 t117 _ A5.out).mono ?_);rintro e w' ⟨rfl,⟨nd,rfl⟩⟩;refine ⟨_,rfl,?_⟩;(try (rw [mg w8];generalize jR:World.drewN w8 _=w8;have aA:Aside0 (w8.heap[mC]? =some (.cells #[.int .i64 0,.int .i64 0] 26 (0,0))):=⟨by rw [<-jR];exact (aI fj)⟩;have aC:Aside0 (Below w.heap.size w w8):=⟨by rw [<-jR];exact ax⟩;clear fj HB jR;have fj:=aA;have HB:=aC;clear aA aC))))
   have aA:=Aside0.mk (aj fj.out)
   have aC:=Aside0.mk (bB HB.out)
   clear fj
   clear HB
   have fj:=aA
   have HB:=aC
   clear aA aC
   refine eX (n:=8) (S:=fun w'=>True) (ds:=[]) #[false,false,false,false,false,false,false,false] (by kernel_rfl) rfl rfl trivial (fun hHeld=>?_);refine iY cg.Ec cg.zz (fun bW ny=>?_)
   generalize w8.drew=w9 at fj HB hHeld⊢
   refine bT bW (i:=0) (N:=some 15) ?_
   refine bT bW (i:=1) (N:=some 16) ?_
   refine bT bW (i:=2) (N:=some 17) ?_
   refine bT bW (i:=3) (N:=some 18) ?_
   refine bT bW (i:=4) (N:=some 19) ?_
   refine bT bW (i:=5) (N:=some 20) ?_
   refine bT bW (i:=6) (N:=some 21) ?_
   refine fA (i:=7) (N:=none) #[true,true,true,true,true,true,true,true] rfl rfl (kB bW.out (by kernel_rfl)) (by decide) (fun K hK=>?_)
   have hs10:w9.cell? ⟨mC,0,none⟩=some (.int .i64 0):=(af fj.out 0).trans rfl
   have hfs10:=aa fj.out 0
   have hs11:w9.cell? ⟨mC,1,none⟩=some (.int .i64 0):=(af fj.out 1).trans rfl
   have hfs11:=aa fj.out 1
   refine kY (w1:=?_) (by rfl) rfl ?_ ?_
   rotate_left
   ·go_simp
    rfl
   refine hK.out _ _ trivial (fun hHeld=>?_)
   clear hK K
   refine fV (lA bW.out (by kernel_rfl)) ?_
   try go_wp2
   refine bodyPost_ret (results_cell_row rfl _ _ mC 26 #[.int .i64 (wrap64 (Int.tdiv a0 (wrap64 (-t117)))),.int .i64 (wrap64 (Int.tdiv a1 (wrap64 (-t117))))] (0,0) _ rfl (by (with_reducible repeat (first|refine aq ?_ _|refine aj ?_|refine ak ?_ _));refine aK (cs:= #[.int .i64 (wrap64 (Int.tdiv a0 (wrap64 (-t117)))),.int .i64 0]) ?_ 1 _ rfl;(with_reducible repeat (first|refine aq ?_ _|refine aj ?_|refine ak ?_ _));refine aK (cs:= #[.int .i64 0,.int .i64 0]) ?_ 0 _ rfl;(with_reducible repeat (first|refine aq ?_ _|refine aj ?_|refine ak ?_ _));exact fj.out) Try.underlying26 rfl (by kernel_rfl)) rfl ?_
   exact ⟨by first|rfl|(simp [aQ,aR]<;>rfl)|(simp [*,aQ,aR]<;>rfl),ax⟩
 ·rw [if_neg c6] at H
  have ov:decide (a1<0)=false:=decide_eq_false c6
  clear c6
  by_cases c12:t117=0
  ·rw [if_pos c12] at H
   exact absurd H (by simp)
  ·rw [if_neg c12] at H
   have Sm:(t117==0)=false:=beq_eq_false_iff_ne.mpr c12
   have c12b1:(t117 !=0)=true:=bne_iff_ne.mpr c12
   simp only [Option.some.injEq,Prod.mk.injEq] at H
   obtain ⟨rfl,rfl⟩:=H
   go_enter Try.func66,Try.ntmps66
   try go_wp2_with (first|((with_reducible refine bp (N:=4) rfl ?_);refine bw ?hg (N:=4) ?hd (cs:= #[.int .i64 0,.int .i64 0]) (t:=26) ?hr ?_;(case hd=>rfl);(case hg=>rfl);(case hr=>first|(go_simp;done)|(go_simp;rfl));intro mC hg lS aU hb;have aA:=Aside0.mk (ah ax hb);have aC:=Aside0.mk (aU);have aD:=Aside0.mk ((by rw [hg];exact (av ax):w.heap.size<=mC));have aJ:=Aside0.mk ((by rw [hg];exact (av ax):w.heap.size<=mC));clear HB;have HB:=aA;have fj:=aC;have b1i:=aD;have b1j:=aJ;clear aA aC aD aJ;clear hb aU hg)|((with_reducible refine aY (f:=68) rfl ?_);refine bP (some 7) rfl rfl Try.func68 (by kernel_rfl) rfl #[.int .i64 a0] rfl (by (try simp only [List.map_toArray,List.map_cons,List.map_nil]);first|done|rfl|(simp only [List.length_drop,List.length_take];rfl)) ?_;(with_reducible refine (iB.calls a0 uf _ A3.out).mono ?_);rintro e w' ⟨rfl,⟨nd,rfl⟩⟩;refine ⟨_,rfl,?_⟩;(try (rw [mg lS];generalize jR:World.drewN lS _=lS;have aA:Aside0 (lS.heap[mC]? =some (.cells #[.int .i64 0,.int .i64 0] 26 (0,0))):=⟨by rw [<-jR];exact (aI fj)⟩;have aC:Aside0 (Below w.heap.size w lS):=⟨by rw [<-jR];exact ax⟩;clear fj HB jR;have fj:=aA;have HB:=aC;clear aA aC)))|((with_reducible refine aY (f:=68) rfl ?_);refine bP (some 9) rfl rfl Try.func68 (by kernel_rfl) rfl #[.int .i64 a1] rfl (by (try simp only [List.map_toArray,List.map_cons,List.map_nil]);first|done|rfl|(simp only [List.length_drop,List.length_take];rfl)) ?_;(with_reducible refine (iB.calls a1 t116 _ A4.out).mono ?_);rintro e w' ⟨rfl,⟨nd,rfl⟩⟩;refine ⟨_,rfl,?_⟩;(try (rw [mg lS];generalize jR:World.drewN lS _=lS;have aA:Aside0 (lS.heap[mC]? =some (.cells #[.int .i64 0,.int .i64 0] 26 (0,0))):=⟨by rw [<-jR];exact (aI fj)⟩;have aC:Aside0 (Below w.heap.size w lS):=⟨by rw [<-jR];exact ax⟩;clear fj HB jR;have fj:=aA;have HB:=aC;clear aA aC)))|((with_reducible refine aY (f:=67) rfl ?_);refine bP (some 10) rfl rfl Try.func67 (by kernel_rfl) rfl #[.int .i64 uf,.int .i64 t116] rfl (by (try simp only [List.map_toArray,List.map_cons,List.map_nil]);first|done|rfl|(simp only [List.length_drop,List.length_take];rfl)) ?_;(with_reducible refine (dK.calls k uf t116 t117 _ A5.out).mono ?_);rintro e w' ⟨rfl,⟨nd,rfl⟩⟩;refine ⟨_,rfl,?_⟩;(try (rw [mg lS];generalize jR:World.drewN lS _=lS;have aA:Aside0 (lS.heap[mC]? =some (.cells #[.int .i64 0,.int .i64 0] 26 (0,0))):=⟨by rw [<-jR];exact (aI fj)⟩;have aC:Aside0 (Below w.heap.size w lS):=⟨by rw [<-jR];exact ax⟩;clear fj HB jR;have fj:=aA;have HB:=aC;clear aA aC))))
   have aA:=Aside0.mk (aj fj.out)
   have aC:=Aside0.mk (bB HB.out)
   clear fj
   clear HB
   have fj:=aA
   have HB:=aC
   clear aA aC
   refine eX (n:=8) (S:=fun w'=>True) (ds:=[]) #[false,false,false,false,false,false,false,false] (by kernel_rfl) rfl rfl trivial (fun hHeld=>?_);refine iY cg.Ec cg.zz (fun bW ny=>?_)
   generalize lS.drew=nh at fj HB hHeld⊢
   refine bT bW (i:=0) (N:=some 15) ?_
   refine bT bW (i:=1) (N:=some 16) ?_
   refine bT bW (i:=2) (N:=some 17) ?_
   refine bT bW (i:=3) (N:=some 18) ?_
   refine bT bW (i:=4) (N:=some 19) ?_
   refine bT bW (i:=5) (N:=some 20) ?_
   refine bT bW (i:=6) (N:=some 21) ?_
   refine fA (i:=7) (N:=none) #[true,true,true,true,true,true,true,true] rfl rfl (kB bW.out (by kernel_rfl)) (by decide) (fun K hK=>?_)
   have hs15:nh.cell? ⟨mC,0,none⟩=some (.int .i64 0):=(af fj.out 0).trans rfl
   have hfs15:=aa fj.out 0
   have b4T:nh.cell? ⟨mC,1,none⟩=some (.int .i64 0):=(af fj.out 1).trans rfl
   have b1k:=aa fj.out 1
   refine kY (w1:=?_) (by rfl) rfl ?_ ?_
   rotate_left
   ·go_simp
    rfl
   refine hK.out _ _ trivial (fun hHeld=>?_)
   clear hK K
   refine fV (lA bW.out (by kernel_rfl)) ?_
   try go_wp2
   refine bodyPost_ret (results_cell_row rfl _ _ mC 26 #[.int .i64 (wrap64 (Int.tdiv a0 t117)),.int .i64 (wrap64 (Int.tdiv a1 t117))] (0,0) _ rfl (by (with_reducible repeat (first|refine aq ?_ _|refine aj ?_|refine ak ?_ _));refine aK (cs:= #[.int .i64 (wrap64 (Int.tdiv a0 t117)),.int .i64 0]) ?_ 1 _ rfl;(with_reducible repeat (first|refine aq ?_ _|refine aj ?_|refine ak ?_ _));refine aK (cs:= #[.int .i64 0,.int .i64 0]) ?_ 0 _ rfl;(with_reducible repeat (first|refine aq ?_ _|refine aj ?_|refine ak ?_ _));exact fj.out) Try.underlying26 rfl (by kernel_rfl)) rfl ?_
   exact ⟨by first|rfl|(simp [aQ,aR]<;>rfl)|(simp [*,aQ,aR]<;>rfl),ax⟩
def fl.f (k:Nat) (aH:Int) (aG:Int) (bh:Int) (aV:Int):Option (Int×Int):=(cg.f k (wrap64 ((wrap64 (aH*aV))+(wrap64 (bh*aG)))) (wrap64 (aG*aV))).bind fun FI=>(some (FI.1,FI.2))
theorem fl.mono:∀a0 a1 a2 a3 k,aT (fl.f k a0 a1 a2 a3) (fl.f (k+1) a0 a1 a2 a3):=by
 intro a0 a1 a2 a3 k
 unfold fl.f
 repeat' first
  |(with_reducible exact cg.mono _ _ _)
  |(with_reducible exact aT.refl _)
  |(with_reducible exact aT.none _)
  |(with_reducible refine aT.ite ?_ ?_)
  |(with_reducible refine aT.bind ?_ (fun _=>?_))
set_option maxHeartbeats 8000000 in
set_option maxRecDepth 100000 in
theorem fl.calls (k:Nat) (aH:Int) (aG:Int) (bh:Int) (aV:Int) (r1:Int) (r2:Int) (w:World) (h:fl.f k aH aG bh aV=some (r1,r2)):
 Calls Try.prog 51 #[.agg #[.int .i64 aH,.int .i64 aG],.agg #[.int .i64 bh,.int .i64 aV]] w fun e w'=>e= .returned (.agg #[.int .i64 r1,.int .i64 r2])/\Below w.heap.size w w':=by
 have mM:=Try.underlying26
 have HB:=Aside0.mk (Below.refl w.heap.size w)
 have H:((cg.f k (wrap64 ((wrap64 (aH*aV))+(wrap64 (bh*aG)))) (wrap64 (aG*aV))).bind fun FI=>(some (FI.1,FI.2)))=some (r1,r2):=h
 clear h
 replace H:=Option.bind_eq_some_iff.mp H
 obtain ⟨⟨SX,t175⟩,jc,H⟩:=H
 replace H:(some (SX,t175))=some (r1,r2):=H
 have A3:=Aside0.mk jc
 clear jc
 simp only [Option.some.injEq,Prod.mk.injEq] at H
 obtain ⟨rfl,rfl⟩:=H
 go_enter Try.func51,Try.ntmps51
 go_wp2_with (first|((with_reducible refine bp (N:=2) rfl ?_);refine bw ?hg (N:=2) ?hd (cs:= #[.int .i64 aH,.int .i64 aG]) (t:=26) ?hr ?_;(case hd=>rfl);(case hg=>rfl);(case hr=>first|(go_simp;done)|(go_simp;rfl));intro nO hg w4 aU hb;have aA:=Aside0.mk (ah ax hb);have aC:=Aside0.mk (aU);have aD:=Aside0.mk ((by rw [hg];exact (av ax):w.heap.size<=nO));have aJ:=Aside0.mk ((by rw [hg];exact (av ax):w.heap.size<=nO));clear HB;have HB:=aA;have mD:=aC;have GW171:=aD;have GE171:=aJ;clear aA aC aD aJ;clear hb aU hg)|((with_reducible refine bp (N:=3) rfl ?_);refine bw ?hg (N:=3) ?hd (cs:= #[.int .i64 bh,.int .i64 aV]) (t:=26) ?hr ?_;(case hd=>rfl);(case hg=>rfl);(case hr=>first|(go_simp;done)|(go_simp;rfl));intro qI hg w5 aU hb;have aA:=Aside0.mk (ai (g:=nO) (o:= .cells #[.int .i64 aH,.int .i64 aG] 26 (0,0)) (aI mD) hb);have aC:=Aside0.mk (ah ax hb);have aD:=Aside0.mk (aU);have aJ:=Aside0.mk ((by rw [hg];exact (av ax):w.heap.size<=qI));have bJ:=Aside0.mk ((by rw [hg];exact (av ax):w.heap.size<=qI));have bS:=Aside0.mk ((by rw [hg];exact Nat.ne_of_lt (aZ (g:=nO) (o:= .cells #[.int .i64 aH,.int .i64 aG] 26 (0,0)) (aI mD)):nO≠qI));have cw:=Aside0.mk ((by rw [hg];exact Nat.ne_of_gt (aZ (g:=nO) (o:= .cells #[.int .i64 aH,.int .i64 aG] 26 (0,0)) (aI mD)):qI≠nO));clear mD;clear HB;have mD:=aA;have HB:=aC;have qJ:=aD;have GW172:=aJ;have GE172:=bJ;have Wb:=bS;have Wc:=cw;clear aA aC aD aJ bJ bS cw;clear hb aU hg)|((with_reducible refine bp (N:=4) rfl ?_);refine bw ?hg (N:=4) ?hd (cs:= #[.int .i64 0,.int .i64 0]) (t:=26) ?hr ?_;(case hd=>rfl);(case hg=>rfl);(case hr=>first|(go_simp;done)|(go_simp;rfl));intro sZ hg w6 aU hb;have aA:=Aside0.mk (ai (g:=nO) (o:= .cells #[.int .i64 aH,.int .i64 aG] 26 (0,0)) (aI mD) hb);have aC:=Aside0.mk (ai (g:=qI) (o:= .cells #[.int .i64 bh,.int .i64 aV] 26 (0,0)) (aI qJ) hb);have aD:=Aside0.mk (ah ax hb);have aJ:=Aside0.mk (aU);have bJ:=Aside0.mk ((by rw [hg];exact (av ax):w.heap.size<=sZ));have bS:=Aside0.mk ((by rw [hg];exact (av ax):w.heap.size<=sZ));have cw:=Aside0.mk ((by rw [hg];exact Nat.ne_of_lt (aZ (g:=nO) (o:= .cells #[.int .i64 aH,.int .i64 aG] 26 (0,0)) (aI mD)):nO≠sZ));have iL:=Aside0.mk ((by rw [hg];exact Nat.ne_of_gt (aZ (g:=nO) (o:= .cells #[.int .i64 aH,.int .i64 aG] 26 (0,0)) (aI mD)):sZ≠nO));have je:=Aside0.mk ((by rw [hg];exact Nat.ne_of_lt (aZ (g:=qI) (o:= .cells #[.int .i64 bh,.int .i64 aV] 26 (0,0)) (aI qJ)):qI≠sZ));have jP:=Aside0.mk ((by rw [hg];exact Nat.ne_of_gt (aZ (g:=qI) (o:= .cells #[.int .i64 bh,.int .i64 aV] 26 (0,0)) (aI qJ)):sZ≠qI));clear mD;clear qJ;clear HB;have mD:=aA;have qJ:=aC;have HB:=aD;have wM:=aJ;have GW173:=bJ;have GE173:=bS;have Wd:=cw;have We:=iL;have Wf:=je;have Wh:=jP;clear aA aC aD aJ bJ bS cw iL je jP;clear hb aU hg;have DB:=Wb.out;have DC:=Wc.out;have IX:=Wd.out;have IY:=We.out;have vo:w6.cell? ⟨nO,0,none⟩=some (.int .i64 aH):=(af mD.out 0).trans rfl;have vr:w6.cell? ⟨nO,1,none⟩=some (.int .i64 aG):=(af mD.out 1).trans rfl;have vv:=aa mD.out 0;have vw:=aa mD.out 1;have Cn:=Wf.out;have Co:=Wh.out;have sI:w6.cell? ⟨qI,0,none⟩=some (.int .i64 bh):=(af qJ.out 0).trans rfl;have sJ:w6.cell? ⟨qI,1,none⟩=some (.int .i64 aV):=(af qJ.out 1).trans rfl;have sK:=aa qJ.out 0;have sL:=aa qJ.out 1)|((with_reducible refine aY (f:=66) rfl ?_);refine bP (some 21) rfl rfl Try.func66 (by kernel_rfl) rfl #[.int .i64 (wrap64 ((wrap64 (aH*aV))+(wrap64 (bh*aG)))),.int .i64 (wrap64 (aG*aV))] rfl (by (try simp only [List.map_toArray,List.map_cons,List.map_nil]);first|done|rfl|(simp only [List.length_drop,List.length_take];rfl)) ?_;(with_reducible refine (cg.calls k (wrap64 ((wrap64 (aH*aV))+(wrap64 (bh*aG)))) (wrap64 (aG*aV)) SX t175 _ A3.out).mono ?_);rintro e jN ⟨rfl,hb⟩;refine ⟨_,rfl,?_⟩;have aA:=Aside0.mk (ai (g:=nO) (o:= .cells #[.int .i64 aH,.int .i64 aG] 26 (0,0)) (aI mD) hb);have aC:=Aside0.mk (ai (g:=qI) (o:= .cells #[.int .i64 bh,.int .i64 aV] 26 (0,0)) (aI qJ) hb);have aD:=Aside0.mk (ai (g:=sZ) (o:= .cells #[.int .i64 0,.int .i64 0] 26 (0,0)) (aI wM) hb);have aJ:=Aside0.mk (ah ax hb);clear mD;clear qJ;clear wM;clear HB;have mD:=aA;have qJ:=aC;have wM:=aD;have HB:=aJ;clear aA aC aD aJ;(try clear hb);(try clear hb2);(try clear hk);(try clear hi);have oh:jN.cell? ⟨sZ,0,none⟩=some (.int .i64 0):=(af wM.out 0).trans rfl;have om:jN.cell? ⟨sZ,1,none⟩=some (.int .i64 0):=(af wM.out 1).trans rfl;have oo:=aa wM.out 0;have oq:=aa wM.out 1))
 refine bodyPost_ret (results_cell_row rfl _ _ sZ 26 #[.int .i64 SX,.int .i64 t175] (0,0) _ rfl (by (with_reducible repeat (first|refine aq ?_ _|refine aj ?_|refine ak ?_ _));refine aK (cs:= #[.int .i64 SX,.int .i64 0]) ?_ 1 _ rfl;(with_reducible repeat (first|refine aq ?_ _|refine aj ?_|refine ak ?_ _));refine aK (cs:= #[.int .i64 0,.int .i64 0]) ?_ 0 _ rfl;(with_reducible repeat (first|refine aq ?_ _|refine aj ?_|refine ak ?_ _));exact wM.out) Try.underlying26 rfl (by kernel_rfl)) rfl ?_
 exact ⟨by first|rfl|(simp [aQ,aR]<;>rfl)|(simp [*,aQ,aR]<;>rfl),ax⟩
def jC.f (k:Nat) (aH:Int) (aG:Int) (bh:Int) (aV:Int):Option (Int×Int):=(cg.f k (wrap64 ((wrap64 (aH*aV))-(wrap64 (bh*aG)))) (wrap64 (aG*aV))).bind fun FJ=>(some (FJ.1,FJ.2))
theorem jC.mono:∀a0 a1 a2 a3 k,aT (jC.f k a0 a1 a2 a3) (jC.f (k+1) a0 a1 a2 a3):=by
 intro a0 a1 a2 a3 k
 unfold jC.f
 repeat' first
  |(with_reducible exact cg.mono _ _ _)
  |(with_reducible exact aT.refl _)
  |(with_reducible exact aT.none _)
  |(with_reducible refine aT.ite ?_ ?_)
  |(with_reducible refine aT.bind ?_ (fun _=>?_))
set_option maxHeartbeats 8000000 in
set_option maxRecDepth 100000 in
theorem jC.calls (k:Nat) (aH:Int) (aG:Int) (bh:Int) (aV:Int) (r1:Int) (r2:Int) (w:World) (h:jC.f k aH aG bh aV=some (r1,r2)):
 Calls Try.prog 63 #[.agg #[.int .i64 aH,.int .i64 aG],.agg #[.int .i64 bh,.int .i64 aV]] w fun e w'=>e= .returned (.agg #[.int .i64 r1,.int .i64 r2])/\Below w.heap.size w w':=by
 have mM:=Try.underlying26
 have HB:=Aside0.mk (Below.refl w.heap.size w)
 have H:((cg.f k (wrap64 ((wrap64 (aH*aV))-(wrap64 (bh*aG)))) (wrap64 (aG*aV))).bind fun FJ=>(some (FJ.1,FJ.2)))=some (r1,r2):=h
 clear h
 replace H:=Option.bind_eq_some_iff.mp H
 obtain ⟨⟨SY,t127⟩,jc,H⟩:=H
 replace H:(some (SY,t127))=some (r1,r2):=H
 have A3:=Aside0.mk jc
 clear jc
 simp only [Option.some.injEq,Prod.mk.injEq] at H
 obtain ⟨rfl,rfl⟩:=H
 go_enter Try.func63,Try.ntmps63
 go_wp2_with (first|((with_reducible refine bp (N:=2) rfl ?_);refine bw ?hg (N:=2) ?hd (cs:= #[.int .i64 aH,.int .i64 aG]) (t:=26) ?hr ?_;(case hd=>rfl);(case hg=>rfl);(case hr=>first|(go_simp;done)|(go_simp;rfl));intro nP hg w4 aU hb;have aA:=Aside0.mk (ah ax hb);have aC:=Aside0.mk (aU);have aD:=Aside0.mk ((by rw [hg];exact (av ax):w.heap.size<=nP));have aJ:=Aside0.mk ((by rw [hg];exact (av ax):w.heap.size<=nP));clear HB;have HB:=aA;have mE:=aC;have GW123:=aD;have GE123:=aJ;clear aA aC aD aJ;clear hb aU hg)|((with_reducible refine bp (N:=3) rfl ?_);refine bw ?hg (N:=3) ?hd (cs:= #[.int .i64 bh,.int .i64 aV]) (t:=26) ?hr ?_;(case hd=>rfl);(case hg=>rfl);(case hr=>first|(go_simp;done)|(go_simp;rfl));intro qK hg w5 aU hb;have aA:=Aside0.mk (ai (g:=nP) (o:= .cells #[.int .i64 aH,.int .i64 aG] 26 (0,0)) (aI mE) hb);have aC:=Aside0.mk (ah ax hb);have aD:=Aside0.mk (aU);have aJ:=Aside0.mk ((by rw [hg];exact (av ax):w.heap.size<=qK));have bJ:=Aside0.mk ((by rw [hg];exact (av ax):w.heap.size<=qK));have bS:=Aside0.mk ((by rw [hg];exact Nat.ne_of_lt (aZ (g:=nP) (o:= .cells #[.int .i64 aH,.int .i64 aG] 26 (0,0)) (aI mE)):nP≠qK));have cw:=Aside0.mk ((by rw [hg];exact Nat.ne_of_gt (aZ (g:=nP) (o:= .cells #[.int .i64 aH,.int .i64 aG] 26 (0,0)) (aI mE)):qK≠nP));clear mE;clear HB;have mE:=aA;have HB:=aC;have qL:=aD;have GW124:=aJ;have GE124:=bJ;have Wi:=bS;have Wj:=cw;clear aA aC aD aJ bJ bS cw;clear hb aU hg)|((with_reducible refine bp (N:=4) rfl ?_);refine bw ?hg (N:=4) ?hd (cs:= #[.int .i64 0,.int .i64 0]) (t:=26) ?hr ?_;(case hd=>rfl);(case hg=>rfl);(case hr=>first|(go_simp;done)|(go_simp;rfl));intro td hg w6 aU hb;have aA:=Aside0.mk (ai (g:=nP) (o:= .cells #[.int .i64 aH,.int .i64 aG] 26 (0,0)) (aI mE) hb);have aC:=Aside0.mk (ai (g:=qK) (o:= .cells #[.int .i64 bh,.int .i64 aV] 26 (0,0)) (aI qL) hb);have aD:=Aside0.mk (ah ax hb);have aJ:=Aside0.mk (aU);have bJ:=Aside0.mk ((by rw [hg];exact (av ax):w.heap.size<=td));have bS:=Aside0.mk ((by rw [hg];exact (av ax):w.heap.size<=td));have cw:=Aside0.mk ((by rw [hg];exact Nat.ne_of_lt (aZ (g:=nP) (o:= .cells #[.int .i64 aH,.int .i64 aG] 26 (0,0)) (aI mE)):nP≠td));have iL:=Aside0.mk ((by rw [hg];exact Nat.ne_of_gt (aZ (g:=nP) (o:= .cells #[.int .i64 aH,.int .i64 aG] 26 (0,0)) (aI mE)):td≠nP));have je:=Aside0.mk ((by rw [hg];exact Nat.ne_of_lt (aZ (g:=qK) (o:= .cells #[.int .i64 bh,.int .i64 aV] 26 (0,0)) (aI qL)):qK≠td));have jP:=Aside0.mk ((by rw [hg];exact Nat.ne_of_gt (aZ (g:=qK) (o:= .cells #[.int .i64 bh,.int .i64 aV] 26 (0,0)) (aI qL)):td≠qK));clear mE;clear qL;clear HB;have mE:=aA;have qL:=aC;have HB:=aD;have wN:=aJ;have GW125:=bJ;have GE125:=bS;have Wk:=cw;have Wl:=iL;have Wm:=je;have Wn:=jP;clear aA aC aD aJ bJ bS cw iL je jP;clear hb aU hg;have DB:=Wi.out;have DC:=Wj.out;have IX:=Wk.out;have IY:=Wl.out;have vo:w6.cell? ⟨nP,0,none⟩=some (.int .i64 aH):=(af mE.out 0).trans rfl;have vr:w6.cell? ⟨nP,1,none⟩=some (.int .i64 aG):=(af mE.out 1).trans rfl;have vv:=aa mE.out 0;have vw:=aa mE.out 1;have Cn:=Wm.out;have Co:=Wn.out;have sI:w6.cell? ⟨qK,0,none⟩=some (.int .i64 bh):=(af qL.out 0).trans rfl;have sJ:w6.cell? ⟨qK,1,none⟩=some (.int .i64 aV):=(af qL.out 1).trans rfl;have sK:=aa qL.out 0;have sL:=aa qL.out 1)|((with_reducible refine aY (f:=66) rfl ?_);refine bP (some 21) rfl rfl Try.func66 (by kernel_rfl) rfl #[.int .i64 (wrap64 ((wrap64 (aH*aV))-(wrap64 (bh*aG)))),.int .i64 (wrap64 (aG*aV))] rfl (by (try simp only [List.map_toArray,List.map_cons,List.map_nil]);first|done|rfl|(simp only [List.length_drop,List.length_take];rfl)) ?_;(with_reducible refine (cg.calls k (wrap64 ((wrap64 (aH*aV))-(wrap64 (bh*aG)))) (wrap64 (aG*aV)) SY t127 _ A3.out).mono ?_);rintro e jN ⟨rfl,hb⟩;refine ⟨_,rfl,?_⟩;have aA:=Aside0.mk (ai (g:=nP) (o:= .cells #[.int .i64 aH,.int .i64 aG] 26 (0,0)) (aI mE) hb);have aC:=Aside0.mk (ai (g:=qK) (o:= .cells #[.int .i64 bh,.int .i64 aV] 26 (0,0)) (aI qL) hb);have aD:=Aside0.mk (ai (g:=td) (o:= .cells #[.int .i64 0,.int .i64 0] 26 (0,0)) (aI wN) hb);have aJ:=Aside0.mk (ah ax hb);clear mE;clear qL;clear wN;clear HB;have mE:=aA;have qL:=aC;have wN:=aD;have HB:=aJ;clear aA aC aD aJ;(try clear hb);(try clear hb2);(try clear hk);(try clear hi);have oh:jN.cell? ⟨td,0,none⟩=some (.int .i64 0):=(af wN.out 0).trans rfl;have om:jN.cell? ⟨td,1,none⟩=some (.int .i64 0):=(af wN.out 1).trans rfl;have oo:=aa wN.out 0;have oq:=aa wN.out 1))
 refine bodyPost_ret (results_cell_row rfl _ _ td 26 #[.int .i64 SY,.int .i64 t127] (0,0) _ rfl (by (with_reducible repeat (first|refine aq ?_ _|refine aj ?_|refine ak ?_ _));refine aK (cs:= #[.int .i64 SY,.int .i64 0]) ?_ 1 _ rfl;(with_reducible repeat (first|refine aq ?_ _|refine aj ?_|refine ak ?_ _));refine aK (cs:= #[.int .i64 0,.int .i64 0]) ?_ 0 _ rfl;(with_reducible repeat (first|refine aq ?_ _|refine aj ?_|refine ak ?_ _));exact wN.out) Try.underlying26 rfl (by kernel_rfl)) rfl ?_
 exact ⟨by first|rfl|(simp [aQ,aR]<;>rfl)|(simp [*,aQ,aR]<;>rfl),ax⟩
def jD.f (k:Nat) (aH:Int) (aG:Int) (bh:Int) (aV:Int):Option (Int×Int):=(cg.f k (wrap64 (aH*bh)) (wrap64 (aG*aV))).bind fun FL=>(some (FL.1,FL.2))
theorem jD.mono:∀a0 a1 a2 a3 k,aT (jD.f k a0 a1 a2 a3) (jD.f (k+1) a0 a1 a2 a3):=by
 intro a0 a1 a2 a3 k
 unfold jD.f
 repeat' first
  |(with_reducible exact cg.mono _ _ _)
  |(with_reducible exact aT.refl _)
  |(with_reducible exact aT.none _)
  |(with_reducible refine aT.ite ?_ ?_)
  |(with_reducible refine aT.bind ?_ (fun _=>?_))
set_option maxHeartbeats 8000000 in
set_option maxRecDepth 100000 in
theorem jD.calls (k:Nat) (aH:Int) (aG:Int) (bh:Int) (aV:Int) (r1:Int) (r2:Int) (w:World) (h:jD.f k aH aG bh aV=some (r1,r2)):
 Calls Try.prog 64 #[.agg #[.int .i64 aH,.int .i64 aG],.agg #[.int .i64 bh,.int .i64 aV]] w fun e w'=>e= .returned (.agg #[.int .i64 r1,.int .i64 r2])/\Below w.heap.size w w':=by
 have mM:=Try.underlying26
 have HB:=Aside0.mk (Below.refl w.heap.size w)
 have H:((cg.f k (wrap64 (aH*bh)) (wrap64 (aG*aV))).bind fun FL=>(some (FL.1,FL.2)))=some (r1,r2):=h
 clear h
 replace H:=Option.bind_eq_some_iff.mp H
 obtain ⟨⟨t131,ZH⟩,jc,H⟩:=H
 replace H:(some (t131,ZH))=some (r1,r2):=H
 have A3:=Aside0.mk jc
 clear jc
 simp only [Option.some.injEq,Prod.mk.injEq] at H
 obtain ⟨rfl,rfl⟩:=H
 go_enter Try.func64,Try.ntmps64
 go_wp2_with (first|((with_reducible refine bp (N:=2) rfl ?_);refine bw ?hg (N:=2) ?hd (cs:= #[.int .i64 aH,.int .i64 aG]) (t:=26) ?hr ?_;(case hd=>rfl);(case hg=>rfl);(case hr=>first|(go_simp;done)|(go_simp;rfl));intro nQ hg w4 aU hb;have aA:=Aside0.mk (ah ax hb);have aC:=Aside0.mk (aU);have aD:=Aside0.mk ((by rw [hg];exact (av ax):w.heap.size<=nQ));have aJ:=Aside0.mk ((by rw [hg];exact (av ax):w.heap.size<=nQ));clear HB;have HB:=aA;have mF:=aC;have GW128:=aD;have GE128:=aJ;clear aA aC aD aJ;clear hb aU hg)|((with_reducible refine bp (N:=3) rfl ?_);refine bw ?hg (N:=3) ?hd (cs:= #[.int .i64 bh,.int .i64 aV]) (t:=26) ?hr ?_;(case hd=>rfl);(case hg=>rfl);(case hr=>first|(go_simp;done)|(go_simp;rfl));intro qM hg w5 aU hb;have aA:=Aside0.mk (ai (g:=nQ) (o:= .cells #[.int .i64 aH,.int .i64 aG] 26 (0,0)) (aI mF) hb);have aC:=Aside0.mk (ah ax hb);have aD:=Aside0.mk (aU);have aJ:=Aside0.mk ((by rw [hg];exact (av ax):w.heap.size<=qM));have bJ:=Aside0.mk ((by rw [hg];exact (av ax):w.heap.size<=qM));have bS:=Aside0.mk ((by rw [hg];exact Nat.ne_of_lt (aZ (g:=nQ) (o:= .cells #[.int .i64 aH,.int .i64 aG] 26 (0,0)) (aI mF)):nQ≠qM));have cw:=Aside0.mk ((by rw [hg];exact Nat.ne_of_gt (aZ (g:=nQ) (o:= .cells #[.int .i64 aH,.int .i64 aG] 26 (0,0)) (aI mF)):qM≠nQ));clear mF;clear HB;have mF:=aA;have HB:=aC;have qN:=aD;have GW129:=aJ;have GE129:=bJ;have Wo:=bS;have Wp:=cw;clear aA aC aD aJ bJ bS cw;clear hb aU hg)|((with_reducible refine bp (N:=4) rfl ?_);refine bw ?hg (N:=4) ?hd (cs:= #[.int .i64 0,.int .i64 0]) (t:=26) ?hr ?_;(case hd=>rfl);(case hg=>rfl);(case hr=>first|(go_simp;done)|(go_simp;rfl));intro th hg w6 aU hb;have aA:=Aside0.mk (ai (g:=nQ) (o:= .cells #[.int .i64 aH,.int .i64 aG] 26 (0,0)) (aI mF) hb);have aC:=Aside0.mk (ai (g:=qM) (o:= .cells #[.int .i64 bh,.int .i64 aV] 26 (0,0)) (aI qN) hb);have aD:=Aside0.mk (ah ax hb);have aJ:=Aside0.mk (aU);have bJ:=Aside0.mk ((by rw [hg];exact (av ax):w.heap.size<=th));have bS:=Aside0.mk ((by rw [hg];exact (av ax):w.heap.size<=th));have cw:=Aside0.mk ((by rw [hg];exact Nat.ne_of_lt (aZ (g:=nQ) (o:= .cells #[.int .i64 aH,.int .i64 aG] 26 (0,0)) (aI mF)):nQ≠th));have iL:=Aside0.mk ((by rw [hg];exact Nat.ne_of_gt (aZ (g:=nQ) (o:= .cells #[.int .i64 aH,.int .i64 aG] 26 (0,0)) (aI mF)):th≠nQ));have je:=Aside0.mk ((by rw [hg];exact Nat.ne_of_lt (aZ (g:=qM) (o:= .cells #[.int .i64 bh,.int .i64 aV] 26 (0,0)) (aI qN)):qM≠th));have jP:=Aside0.mk ((by rw [hg];exact Nat.ne_of_gt (aZ (g:=qM) (o:= .cells #[.int .i64 bh,.int .i64 aV] 26 (0,0)) (aI qN)):th≠qM));clear mF;clear qN;clear HB;have mF:=aA;have qN:=aC;have HB:=aD;have wO:=aJ;have GW130:=bJ;have GE130:=bS;have Wq:=cw;have Ws:=iL;have Wt:=je;have Wu:=jP;clear aA aC aD aJ bJ bS cw iL je jP;clear hb aU hg;have DB:=Wo.out;have DC:=Wp.out;have IX:=Wq.out;have IY:=Ws.out;have vo:w6.cell? ⟨nQ,0,none⟩=some (.int .i64 aH):=(af mF.out 0).trans rfl;have vr:w6.cell? ⟨nQ,1,none⟩=some (.int .i64 aG):=(af mF.out 1).trans rfl;have vv:=aa mF.out 0;have vw:=aa mF.out 1;have Cn:=Wt.out;have Co:=Wu.out;have sI:w6.cell? ⟨qM,0,none⟩=some (.int .i64 bh):=(af qN.out 0).trans rfl;have sJ:w6.cell? ⟨qM,1,none⟩=some (.int .i64 aV):=(af qN.out 1).trans rfl;have sK:=aa qN.out 0;have sL:=aa qN.out 1)|((with_reducible refine aY (f:=66) rfl ?_);refine bP (some 15) rfl rfl Try.func66 (by kernel_rfl) rfl #[.int .i64 (wrap64 (aH*bh)),.int .i64 (wrap64 (aG*aV))] rfl (by (try simp only [List.map_toArray,List.map_cons,List.map_nil]);first|done|rfl|(simp only [List.length_drop,List.length_take];rfl)) ?_;(with_reducible refine (cg.calls k (wrap64 (aH*bh)) (wrap64 (aG*aV)) t131 ZH _ A3.out).mono ?_);rintro e jN ⟨rfl,hb⟩;refine ⟨_,rfl,?_⟩;have aA:=Aside0.mk (ai (g:=nQ) (o:= .cells #[.int .i64 aH,.int .i64 aG] 26 (0,0)) (aI mF) hb);have aC:=Aside0.mk (ai (g:=qM) (o:= .cells #[.int .i64 bh,.int .i64 aV] 26 (0,0)) (aI qN) hb);have aD:=Aside0.mk (ai (g:=th) (o:= .cells #[.int .i64 0,.int .i64 0] 26 (0,0)) (aI wO) hb);have aJ:=Aside0.mk (ah ax hb);clear mF;clear qN;clear wO;clear HB;have mF:=aA;have qN:=aC;have wO:=aD;have HB:=aJ;clear aA aC aD aJ;(try clear hb);(try clear hb2);(try clear hk);(try clear hi);have oh:jN.cell? ⟨th,0,none⟩=some (.int .i64 0):=(af wO.out 0).trans rfl;have om:jN.cell? ⟨th,1,none⟩=some (.int .i64 0):=(af wO.out 1).trans rfl;have oo:=aa wO.out 0;have oq:=aa wO.out 1))
 refine bodyPost_ret (results_cell_row rfl _ _ th 26 #[.int .i64 t131,.int .i64 ZH] (0,0) _ rfl (by (with_reducible repeat (first|refine aq ?_ _|refine aj ?_|refine ak ?_ _));refine aK (cs:= #[.int .i64 t131,.int .i64 0]) ?_ 1 _ rfl;(with_reducible repeat (first|refine aq ?_ _|refine aj ?_|refine ak ?_ _));refine aK (cs:= #[.int .i64 0,.int .i64 0]) ?_ 0 _ rfl;(with_reducible repeat (first|refine aq ?_ _|refine aj ?_|refine ak ?_ _));exact wO.out) Try.underlying26 rfl (by kernel_rfl)) rfl ?_
 exact ⟨by first|rfl|(simp [aQ,aR]<;>rfl)|(simp [*,aQ,aR]<;>rfl),ax⟩
def ku.f (k:Nat) (aH:Int) (aG:Int) (bh:Int) (aV:Int):Option (Int×Int):=(cg.f k (wrap64 (aH*aV)) (wrap64 (aG*bh))).bind fun FM=>(some (FM.1,FM.2))
theorem ku.mono:∀a0 a1 a2 a3 k,aT (ku.f k a0 a1 a2 a3) (ku.f (k+1) a0 a1 a2 a3):=by
 intro a0 a1 a2 a3 k
 unfold ku.f
 repeat' first
  |(with_reducible exact cg.mono _ _ _)
  |(with_reducible exact aT.refl _)
  |(with_reducible exact aT.none _)
  |(with_reducible refine aT.ite ?_ ?_)
  |(with_reducible refine aT.bind ?_ (fun _=>?_))
set_option maxHeartbeats 8000000 in
set_option maxRecDepth 100000 in
theorem ku.calls (k:Nat) (aH:Int) (aG:Int) (bh:Int) (aV:Int) (r1:Int) (r2:Int) (w:World) (h:ku.f k aH aG bh aV=some (r1,r2)):
 Calls Try.prog 62 #[.agg #[.int .i64 aH,.int .i64 aG],.agg #[.int .i64 bh,.int .i64 aV]] w fun e w'=>e= .returned (.agg #[.int .i64 r1,.int .i64 r2])/\Below w.heap.size w w':=by
 have mM:=Try.underlying26
 have HB:=Aside0.mk (Below.refl w.heap.size w)
 have H:((cg.f k (wrap64 (aH*aV)) (wrap64 (aG*bh))).bind fun FM=>(some (FM.1,FM.2)))=some (r1,r2):=h
 clear h
 replace H:=Option.bind_eq_some_iff.mp H
 obtain ⟨⟨SZ,ZI⟩,jc,H⟩:=H
 replace H:(some (SZ,ZI))=some (r1,r2):=H
 have A3:=Aside0.mk jc
 clear jc
 simp only [Option.some.injEq,Prod.mk.injEq] at H
 obtain ⟨rfl,rfl⟩:=H
 go_enter Try.func62,Try.ntmps62
 go_wp2_with (first|((with_reducible refine bp (N:=2) rfl ?_);refine bw ?hg (N:=2) ?hd (cs:= #[.int .i64 aH,.int .i64 aG]) (t:=26) ?hr ?_;(case hd=>rfl);(case hg=>rfl);(case hr=>first|(go_simp;done)|(go_simp;rfl));intro nR hg w4 aU hb;have aA:=Aside0.mk (ah ax hb);have aC:=Aside0.mk (aU);have aD:=Aside0.mk ((by rw [hg];exact (av ax):w.heap.size<=nR));have aJ:=Aside0.mk ((by rw [hg];exact (av ax):w.heap.size<=nR));clear HB;have HB:=aA;have mG:=aC;have GW118:=aD;have GE118:=aJ;clear aA aC aD aJ;clear hb aU hg)|((with_reducible refine bp (N:=3) rfl ?_);refine bw ?hg (N:=3) ?hd (cs:= #[.int .i64 bh,.int .i64 aV]) (t:=26) ?hr ?_;(case hd=>rfl);(case hg=>rfl);(case hr=>first|(go_simp;done)|(go_simp;rfl));intro qO hg w5 aU hb;have aA:=Aside0.mk (ai (g:=nR) (o:= .cells #[.int .i64 aH,.int .i64 aG] 26 (0,0)) (aI mG) hb);have aC:=Aside0.mk (ah ax hb);have aD:=Aside0.mk (aU);have aJ:=Aside0.mk ((by rw [hg];exact (av ax):w.heap.size<=qO));have bJ:=Aside0.mk ((by rw [hg];exact (av ax):w.heap.size<=qO));have bS:=Aside0.mk ((by rw [hg];exact Nat.ne_of_lt (aZ (g:=nR) (o:= .cells #[.int .i64 aH,.int .i64 aG] 26 (0,0)) (aI mG)):nR≠qO));have cw:=Aside0.mk ((by rw [hg];exact Nat.ne_of_gt (aZ (g:=nR) (o:= .cells #[.int .i64 aH,.int .i64 aG] 26 (0,0)) (aI mG)):qO≠nR));clear mG;clear HB;have mG:=aA;have HB:=aC;have qP:=aD;have GW119:=aJ;have GE119:=bJ;have Wv:=bS;have Ww:=cw;clear aA aC aD aJ bJ bS cw;clear hb aU hg)|((with_reducible refine bp (N:=4) rfl ?_);refine bw ?hg (N:=4) ?hd (cs:= #[.int .i64 0,.int .i64 0]) (t:=26) ?hr ?_;(case hd=>rfl);(case hg=>rfl);(case hr=>first|(go_simp;done)|(go_simp;rfl));intro tj hg w6 aU hb;have aA:=Aside0.mk (ai (g:=nR) (o:= .cells #[.int .i64 aH,.int .i64 aG] 26 (0,0)) (aI mG) hb);have aC:=Aside0.mk (ai (g:=qO) (o:= .cells #[.int .i64 bh,.int .i64 aV] 26 (0,0)) (aI qP) hb);have aD:=Aside0.mk (ah ax hb);have aJ:=Aside0.mk (aU);have bJ:=Aside0.mk ((by rw [hg];exact (av ax):w.heap.size<=tj));have bS:=Aside0.mk ((by rw [hg];exact (av ax):w.heap.size<=tj));have cw:=Aside0.mk ((by rw [hg];exact Nat.ne_of_lt (aZ (g:=nR) (o:= .cells #[.int .i64 aH,.int .i64 aG] 26 (0,0)) (aI mG)):nR≠tj));have iL:=Aside0.mk ((by rw [hg];exact Nat.ne_of_gt (aZ (g:=nR) (o:= .cells #[.int .i64 aH,.int .i64 aG] 26 (0,0)) (aI mG)):tj≠nR));have je:=Aside0.mk ((by rw [hg];exact Nat.ne_of_lt (aZ (g:=qO) (o:= .cells #[.int .i64 bh,.int .i64 aV] 26 (0,0)) (aI qP)):qO≠tj));have jP:=Aside0.mk ((by rw [hg];exact Nat.ne_of_gt (aZ (g:=qO) (o:= .cells #[.int .i64 bh,.int .i64 aV] 26 (0,0)) (aI qP)):tj≠qO));clear mG;clear qP;clear HB;have mG:=aA;have qP:=aC;have HB:=aD;have wP:=aJ;have GW120:=bJ;have GE120:=bS;have Wx:=cw;have Wy:=iL;have Wz:=je;have WA:=jP;clear aA aC aD aJ bJ bS cw iL je jP;clear hb aU hg;have DB:=Wv.out;have DC:=Ww.out;have IX:=Wx.out;have IY:=Wy.out;have vo:w6.cell? ⟨nR,0,none⟩=some (.int .i64 aH):=(af mG.out 0).trans rfl;have vr:w6.cell? ⟨nR,1,none⟩=some (.int .i64 aG):=(af mG.out 1).trans rfl;have vv:=aa mG.out 0;have vw:=aa mG.out 1;have Cn:=Wz.out;have Co:=WA.out;have sI:w6.cell? ⟨qO,0,none⟩=some (.int .i64 bh):=(af qP.out 0).trans rfl;have sJ:w6.cell? ⟨qO,1,none⟩=some (.int .i64 aV):=(af qP.out 1).trans rfl;have sK:=aa qP.out 0;have sL:=aa qP.out 1)|((with_reducible refine aY (f:=66) rfl ?_);refine bP (some 15) rfl rfl Try.func66 (by kernel_rfl) rfl #[.int .i64 (wrap64 (aH*aV)),.int .i64 (wrap64 (aG*bh))] rfl (by (try simp only [List.map_toArray,List.map_cons,List.map_nil]);first|done|rfl|(simp only [List.length_drop,List.length_take];rfl)) ?_;(with_reducible refine (cg.calls k (wrap64 (aH*aV)) (wrap64 (aG*bh)) SZ ZI _ A3.out).mono ?_);rintro e jN ⟨rfl,hb⟩;refine ⟨_,rfl,?_⟩;have aA:=Aside0.mk (ai (g:=nR) (o:= .cells #[.int .i64 aH,.int .i64 aG] 26 (0,0)) (aI mG) hb);have aC:=Aside0.mk (ai (g:=qO) (o:= .cells #[.int .i64 bh,.int .i64 aV] 26 (0,0)) (aI qP) hb);have aD:=Aside0.mk (ai (g:=tj) (o:= .cells #[.int .i64 0,.int .i64 0] 26 (0,0)) (aI wP) hb);have aJ:=Aside0.mk (ah ax hb);clear mG;clear qP;clear wP;clear HB;have mG:=aA;have qP:=aC;have wP:=aD;have HB:=aJ;clear aA aC aD aJ;(try clear hb);(try clear hb2);(try clear hk);(try clear hi);have oh:jN.cell? ⟨tj,0,none⟩=some (.int .i64 0):=(af wP.out 0).trans rfl;have om:jN.cell? ⟨tj,1,none⟩=some (.int .i64 0):=(af wP.out 1).trans rfl;have oo:=aa wP.out 0;have oq:=aa wP.out 1))
 refine bodyPost_ret (results_cell_row rfl _ _ tj 26 #[.int .i64 SZ,.int .i64 ZI] (0,0) _ rfl (by (with_reducible repeat (first|refine aq ?_ _|refine aj ?_|refine ak ?_ _));refine aK (cs:= #[.int .i64 SZ,.int .i64 0]) ?_ 1 _ rfl;(with_reducible repeat (first|refine aq ?_ _|refine aj ?_|refine ak ?_ _));refine aK (cs:= #[.int .i64 0,.int .i64 0]) ?_ 0 _ rfl;(with_reducible repeat (first|refine aq ?_ _|refine aj ?_|refine ak ?_ _));exact wP.out) Try.underlying26 rfl (by kernel_rfl)) rfl ?_
 exact ⟨by first|rfl|(simp [aQ,aR]<;>rfl)|(simp [*,aQ,aR]<;>rfl),ax⟩
def cm.f (aH:Int) (aG:Int) (bh:Int) (aV:Int):Option (Bool):=some (decide ((wrap64 (aH*aV))<(wrap64 (bh*aG))))
set_option maxHeartbeats 8000000 in
set_option maxRecDepth 100000 in
theorem cm.calls (aH:Int) (aG:Int) (bh:Int) (aV:Int) (r:Bool) (w:World) (h:cm.f aH aG bh aV=some r):
 Calls Try.prog 65 #[.agg #[.int .i64 aH,.int .i64 aG],.agg #[.int .i64 bh,.int .i64 aV]] w fun e w'=>e= .returned (.bool r)/\Below w.heap.size w w':=by
 have mM:=Try.underlying26
 have HB:=Aside0.mk (Below.refl w.heap.size w)
 have H:(some (decide ((wrap64 (aH*aV))<(wrap64 (bh*aG)))))=some r:=h
 clear h
 obtain rfl:=Option.some.inj H
 go_enter Try.func65,Try.ntmps65
 go_wp2_with (first|((with_reducible refine bp (N:=2) rfl ?_);refine bw ?hg (N:=2) ?hd (cs:= #[.int .i64 aH,.int .i64 aG]) (t:=26) ?hr ?_;(case hd=>rfl);(case hg=>rfl);(case hr=>first|(go_simp;done)|(go_simp;rfl));intro uF hg w3 aU hb;have aA:=Aside0.mk (ah ax hb);have aC:=Aside0.mk (aU);have aD:=Aside0.mk ((by rw [hg];exact (av ax):w.heap.size<=uF));have aJ:=Aside0.mk ((by rw [hg];exact (av ax):w.heap.size<=uF));clear HB;have HB:=aA;have uG:=aC;have GW176:=aD;have GE176:=aJ;clear aA aC aD aJ;clear hb aU hg)|((with_reducible refine bp (N:=3) rfl ?_);refine bw ?hg (N:=3) ?hd (cs:= #[.int .i64 bh,.int .i64 aV]) (t:=26) ?hr ?_;(case hd=>rfl);(case hg=>rfl);(case hr=>first|(go_simp;done)|(go_simp;rfl));intro Cp hg w4 aU hb;have aA:=Aside0.mk (ai (g:=uF) (o:= .cells #[.int .i64 aH,.int .i64 aG] 26 (0,0)) (aI uG) hb);have aC:=Aside0.mk (ah ax hb);have aD:=Aside0.mk (aU);have aJ:=Aside0.mk ((by rw [hg];exact (av ax):w.heap.size<=Cp));have bJ:=Aside0.mk ((by rw [hg];exact (av ax):w.heap.size<=Cp));have bS:=Aside0.mk ((by rw [hg];exact Nat.ne_of_lt (aZ (g:=uF) (o:= .cells #[.int .i64 aH,.int .i64 aG] 26 (0,0)) (aI uG)):uF≠Cp));have cw:=Aside0.mk ((by rw [hg];exact Nat.ne_of_gt (aZ (g:=uF) (o:= .cells #[.int .i64 aH,.int .i64 aG] 26 (0,0)) (aI uG)):Cp≠uF));clear uG;clear HB;have uG:=aA;have HB:=aC;have LG:=aD;have GW177:=aJ;have GE177:=bJ;have WB:=bS;have WC:=cw;clear aA aC aD aJ bJ bS cw;clear hb aU hg;have b4U:=WB.out;have b4V:=WC.out;have MF:w4.cell? ⟨uF,0,none⟩=some (.int .i64 aH):=(af uG.out 0).trans rfl;have MG:w4.cell? ⟨uF,1,none⟩=some (.int .i64 aG):=(af uG.out 1).trans rfl;have MH:=aa uG.out 0;have MI:=aa uG.out 1;have Mw:w4.cell? ⟨Cp,0,none⟩=some (.int .i64 bh):=(af LG.out 0).trans rfl;have Mx:w4.cell? ⟨Cp,1,none⟩=some (.int .i64 aV):=(af LG.out 1).trans rfl;have My:=aa LG.out 0;have Mz:=aa LG.out 1))
 go_ret
 exact ⟨by first|rfl|(simp [aQ,aR]<;>rfl)|(simp [*,aQ,aR]<;>rfl),ax⟩
end Go.Proofs.Ytnhknojfpjheoaa.P
namespace Go.Proofs.Ytnhknojfpjheoaa.PT
open Go.RowKit Go.Proofs.Ytnhknojfpjheoaa.P Go.Proofs.YtnhknojfpjheoaaW.PrintWords Go.Proofs.YtnhknojfpjheoaaW.PrintLast Go.Proofs.Ytnhknojfpjheoaa.EvKit Go.Proofs.Ytnhknojfpjheoaa.Num Go.Proofs.Ytnhknojfpjheoaa.Lp
set_option linter.all false
theorem cO {n:Int} (h1: -9223372036854775808<=n) (h2:n<=9223372036854775807):wrap64 n=n:=by
 unfold wrap64;omega
theorem Nl:∀(n k:Nat) (a b:Int),0<=a->0<=b->b.natAbs<=n->n<k->dK.f k a b=some (Int.gcd a b:Int)
 |n,0,_,_,_,_,_,hk=>absurd hk (by omega)
 |n,k+1,a,b,ha,hb,hn,hk=>by
  simp only [dK.f]
  by_cases h:b=0
  ·subst h;rw [if_pos rfl,Int.gcd_zero];congr 1;omega
  ·rw [if_neg h]
   have hlt:=Int.tmod_lt_of_pos a (show 0<b by omega)
   have hge:=Int.tmod_nonneg b ha
   rw [Nl (n - 1) k b (a.tmod b) hb hge (by omega) (by omega),Ng];rfl
theorem a7A {a:Int} (h1: -9223372036854775807<=a) (h2:a<=9223372036854775807):mx a (wrap64 (-a))=(a.natAbs:Int):=by
 rw [cO (by omega) (by omega)];unfold mx;split<;>omega
theorem Kl:∀(n k:Nat) (a b:Int),a.natAbs<=9223372036854775807->b.natAbs<=9223372036854775807->b.natAbs<=n->n<k->dg.l0 k a b=some (Int.gcd a b:Int)
 |n,0,_,_,_,_,_,hk=>absurd hk (by omega)
 |n,k+1,a,b,ha,hb,hn,hk=>by
  simp only [dg.l0]
  by_cases h:b=0
  ·subst h;rw [if_pos rfl,Int.gcd_zero,a7A (by omega) (by omega)]
  ·rw [if_neg h]
   have hlt:(a.tmod b).natAbs<b.natAbs:=by rw [Int.natAbs_tmod];exact Nat.mod_lt _ (by omega)
   rw [Kl (n - 1) k b (a.tmod b) hb (by omega) (by omega) (by omega),Ng]
theorem WD (k:Nat) (a b:Int) (ha:a.natAbs<=9223372036854775807) (hb:b.natAbs<=9223372036854775807) (hk:b.natAbs<k):dg.f k a b=some (Int.gcd a b:Int):=
 Kl b.natAbs k a b ha hb (Nat.le_refl _) hk
theorem FN (a b c:Int):fI.f a b c=some (decide (b<=a/\a<=c)):=by
 unfold fI.f
 by_cases h:a>=b
 ·rw [if_pos h];simp [h]
 ·rw [if_neg h];simp [h]
theorem abs_eq (a:Int) (h1:a.natAbs<=9223372036854775807):iB.f a=some (a.natAbs:Int):=by
 unfold iB.f
 split
 ·rw [cO (by omega) (by omega)];congr 1;omega
 ·congr 1;omega
def wQ (n d:Int):Prop:=1<=d/\d<=1000000/\ -1000000<=n/\n<=1000000/\Int.gcd n d=1
instance (n d:Int):Decidable (wQ n d):=by unfold wQ;infer_instance
theorem uH (k:Nat) (n d:Int) (hk:1000000<k):cM.f k n d=some (decide (wQ n d)):=by
 unfold cM.f
 rw [FN];simp only [Option.bind_some]
 by_cases h:1<=d/\d<=1000000
 ·rw [if_pos (by simpa using h),FN];simp only [Option.bind_some]
  by_cases h2: -1000000<=n/\n<=1000000
  ·rw [if_pos (by simpa using h2),WD k _ _ (by omega) (by omega) (by omega)];simp only [Option.bind_some]
   congr 1
   rw [Bool.eq_iff_iff];unfold wQ;simp [h,h2];omega
  ·rw [if_neg (by simpa using h2),decide_eq_false (p:=wQ n d) (fun ⟨_,_,_,_,_⟩=>by omega)]
 ·rw [if_neg (by simpa using h),decide_eq_false (p:=wQ n d) (fun ⟨_,_,_,_,_⟩=>by omega)]
theorem WE (k:Nat) (n d:Int) (hd:d≠0) (hn:n.natAbs<=9223372036854775807) (Nn:d.natAbs<=9223372036854775807) (hk:d.natAbs<k):
 cg.f k n d=some (lN n d,kP n d):=by
 have hg:=sG (n:=n) hd
 have hgl:(Int.gcd n d:Int)<=d.natAbs:=by
  have:=Int.gcd_le_natAbs_right n (b:=d) (by omega);omega
 have hN:=AH (n:=n) hd
 have hD:=AJ (n:=n) hd
 have hga:(Int.gcd (n.natAbs:Int) (d.natAbs:Int):Int)=Int.gcd n d:=by unfold Int.gcd;simp
 unfold cg.f
 rw [abs_eq _ hn,abs_eq _ Nn];simp only [Option.bind_some]
 rw [Nl d.natAbs k _ _ (by omega) (by omega) (by omega) hk];simp only [Option.bind_some]
 rw [hga]
 unfold lN kP at*
 by_cases h:d<0
 ·rw [if_pos h,cO (n:= -(Int.gcd n d:Int)) (by omega) (by omega),if_neg (by omega),uu,tL]
  rw [if_pos h] at hN hD⊢
  rw [if_pos h,cO (by omega) (by omega),cO (by omega) (by omega)]
 ·rw [if_neg h,if_neg (by omega),ue,sH]
  rw [if_neg h] at hN hD⊢
  rw [if_neg h,cO (by omega) (by omega),cO (by omega) (by omega)]
theorem WG (k:Nat) (n d:Int) (hd:d≠0) (hn:n.natAbs<=9223372036854775807) (Nn:d.natAbs<=9223372036854775807) (hk:d.natAbs<k) (hk2:1000000<k):
 bG.f k n d=some (if wQ (lN n d) (kP n d) then (lN n d,kP n d) else (0,0)):=by
 have hg:=sG (n:=n) hd
 have hgl:(Int.gcd n d:Int)<=d.natAbs:=by
  have:=Int.gcd_le_natAbs_right n (b:=d) (by omega);omega
 have hN:=AH (n:=n) hd
 have hD:=AJ (n:=n) hd
 unfold bG.f
 rw [WD k n d hn Nn hk];simp only [Option.bind_some]
 unfold lN kP at*
 by_cases h:d<0
 ·rw [if_pos h,cO (n:= -(Int.gcd n d:Int)) (by omega) (by omega),if_neg (by omega),uu,tL]
  rw [if_pos h] at hN hD
  simp only [if_pos h]
  rw [cO (n:= -(n/_)) (by omega) (by omega),cO (n:= -(d/_)) (by omega) (by omega),uH _ _ _ hk2];simp only [Option.bind_some,decide_eq_true_eq]
  split<;>rfl
 ·rw [if_neg h,if_neg (by omega),ue,sH]
  rw [if_neg h] at hN hD
  simp only [if_neg h]
  rw [cO (n:=(n/_)) (by omega) (by omega),cO (n:=(d/_)) (by omega) (by omega),uH _ _ _ hk2];simp only [Option.bind_some,decide_eq_true_eq]
  split<;>rfl
abbrev V (q:Rat):Value:= .agg #[.int .i64 q.num,.int .i64 (q.den:Int)]
def Ok (q:Rat):Prop:=q.num.natAbs<=1000000/\q.den<=1000000
theorem Qu.ok {a b:Nat} {q:Rat} (h:Qu a b q) (ha:a<=1000000) (hb:b<=1000000):Ok q:=⟨by have:=h.num;omega,by have:=h.num;omega⟩
theorem Ok.rat {q:Rat} (h:Ok q):wQ q.num (q.den:Int):=⟨by have:=q.den_pos;omega,by have:=h.2;omega,by have:=h.1;omega,by have:=h.1;omega,wH q⟩
theorem tq {n d:Int} {q:Rat} (hd:d≠0) (e:q*(d:Rat)=(n:Rat)) (hn:n.natAbs<=9223372036854775807) (Nn:d.natAbs<=9223372036854775807):Ev (fun k=>cg.f k n d) (q.num,(q.den:Int)):=
 ⟨d.natAbs+1,fun k hk=>by show cg.f k n d=_;rw [WE k n d hd hn Nn (by omega),Nk hd e];rfl⟩
theorem tu {n d:Int} {q:Rat} (hd:d≠0) (e:q*(d:Rat)=(n:Rat)) (hn:n.natAbs<=9223372036854775807) (Nn:d.natAbs<=9223372036854775807) (ok:Ok q):Ev (fun k=>bG.f k n d) (q.num,(q.den:Int)):=
 by
 obtain ⟨K,hK1,hK2⟩:∃K,d.natAbs<K/\1000000<K:=⟨d.natAbs+1000001,by omega,by omega⟩
 exact ⟨K,fun k hk=>by
  show bG.f k n d=_
  rw [WG k n d hd hn Nn (by omega) (by omega)]
  have h:=Nk hd e
  have h1:lN n d=q.num:=congrArg Prod.fst h
  have h2:kP n d=(q.den:Int):=congrArg Prod.snd h
  rw [h1,h2,if_pos ok.rat]⟩
theorem nj {x y:Int} {c d:Nat} (h1:x.natAbs<=c) (h2:y.natAbs<=d):(x*y).natAbs<=c*d:=by rw [Int.natAbs_mul];exact Nat.mul_le_mul h1 h2
structure Sz (a b:Nat) (x:Rat):Prop where
 n:x.num.natAbs<=a
 d:x.den<=b
theorem Qu.sz {a b:Nat} {q:Rat} (h:Qu a b q):Sz a b q:=⟨h.num.1,h.num.2⟩
theorem Ok.sz {q:Rat} (h:Ok q):Sz 1000000 1000000 q:=⟨h.1,h.2⟩
theorem tS (q:Rat):((q.den:Int))≠0:=by have:=q.den_pos;omega
theorem kQ (q:Rat):(q.den:Int).natAbs=q.den:=by omega
section
variable {x y:Rat} {a b c d:Nat}
theorem qo (hx:Sz a b x) (hy:Sz c d y) (h1:a*d+c*b<=9223372036854775807) (h2:b*d<=9223372036854775807):
 (x.num*(y.den:Int)).natAbs<=a*d/\(y.num*(x.den:Int)).natAbs<=c*b/\((x.den:Int)*(y.den:Int)).natAbs<=b*d/\(x.den:Int)*(y.den:Int)≠0:=
 ⟨nj hx.n (by rw [kQ];exact hy.d),nj hy.n (by rw [kQ];exact hx.d),nj (by rw [kQ];exact hx.d) (by rw [kQ];exact hy.d),Int.mul_ne_zero (tS x) (tS y)⟩
theorem wraps (hx:Sz a b x) (hy:Sz c d y) (h1:a*d+c*b<=9223372036854775807) (h2:b*d<=9223372036854775807):
 wrap64 (wrap64 (x.num*(y.den:Int))- wrap64 (y.num*(x.den:Int)))=x.num*y.den - y.num*x.den/\wrap64 (wrap64 (x.num*(y.den:Int))+wrap64 (y.num*(x.den:Int)))=x.num*y.den+y.num*x.den/\wrap64 ((x.den:Int)*(y.den:Int))=(x.den:Int)*y.den:=by
 obtain ⟨f1,f2,f3,f4⟩:=qo hx hy h1 h2
 generalize x.num*(y.den:Int)=p at*
 generalize y.num*(x.den:Int)=q at*
 generalize (x.den:Int)*(y.den:Int)=r at*
 rw [cO (n:=p) (by omega) (by omega),cO (n:=q) (by omega) (by omega),cO (n:=r) (by omega) (by omega),cO (by omega) (by omega),cO (by omega) (by omega)]
 exact ⟨rfl,rfl,rfl⟩
theorem WH (hx:Sz a b x) (hy:Sz c d y) (h1:a*c<=9223372036854775807) (h2:b*d<=9223372036854775807):
 wrap64 (x.num*y.num)=x.num*y.num/\wrap64 ((x.den:Int)*(y.den:Int))=(x.den:Int)*y.den/\(x.num*y.num).natAbs<=a*c/\((x.den:Int)*y.den).natAbs<=b*d:=by
 have f1:(x.num*y.num).natAbs<=a*c:=nj hx.n hy.n
 have f2:((x.den:Int)*(y.den:Int)).natAbs<=b*d:=nj (by rw [kQ];exact hx.d) (by rw [kQ];exact hy.d)
 exact ⟨cO (by omega) (by omega),cO (by omega) (by omega),f1,f2⟩
theorem WI (hx:Sz a b x) (hy:Sz c d y) (h1:a*d<=9223372036854775807) (h2:b*c<=9223372036854775807):
 wrap64 (x.num*(y.den:Int))=x.num*y.den/\wrap64 ((x.den:Int)*y.num)=(x.den:Int)*y.num/\(x.num*(y.den:Int)).natAbs<=a*d/\((x.den:Int)*y.num).natAbs<=b*c:=by
 have f1:(x.num*(y.den:Int)).natAbs<=a*d:=nj hx.n (by rw [kQ];exact hy.d)
 have f2:((x.den:Int)*y.num).natAbs<=b*c:=nj (by rw [kQ];exact hx.d) hy.n
 exact ⟨cO (by omega) (by omega),cO (by omega) (by omega),f1,f2⟩
theorem rq {g:Nat->Option (Int×Int)} {r:Int×Int} (h:Ev g r):Ev (fun k=>(g k).bind fun t=>some (t.1,t.2)) r:=by
 obtain ⟨k0,h⟩:=h
 exact ⟨k0,fun k hk=>by show (g k).bind _=_;rw [h k hk];rfl⟩
theorem Jb (w:World) (hx:Sz a b x) (hy:Sz c d y) (h1:a*d+c*b<=9223372036854775807) (h2:b*d<=9223372036854775807) (ok:Ok (x - y)):
 Calls Try.prog 85 #[V x,V y] w fun e w'=>e= .returned (V (x - y))/\Below w.heap.size w w':=by
 obtain ⟨f1,f2,f3,f4⟩:=qo hx hy h1 h2
 obtain ⟨e1,_,e3⟩:=wraps hx hy h1 h2
 obtain ⟨k,hk⟩:=rq (tu f4 (sub_mul x y) (by omega) (by omega) ok)
 exact jd.calls k x.num x.den y.num y.den _ _ w (by unfold jd.f;rw [e1,e3];exact hk k (Nat.le_refl _))
theorem a4x (w:World) (hx:Sz a b x) (hy:Sz c d y) (h1:a*c<=9223372036854775807) (h2:b*d<=9223372036854775807) (ok:Ok (x*y)):
 Calls Try.prog 88 #[V x,V y] w fun e w'=>e= .returned (V (x*y))/\Below w.heap.size w w':=by
 obtain ⟨e1,e2,f1,f2⟩:=WH hx hy h1 h2
 obtain ⟨k,hk⟩:=rq (tu (Int.mul_ne_zero (tS x) (tS y)) (Qd x y) (by omega) (by omega) ok)
 exact jf.calls k x.num x.den y.num y.den _ _ w (by unfold jf.f;rw [e1,e2];exact hk k (Nat.le_refl _))
theorem AP (w:World) (hx:Sz a b x) (hy:Sz c d y) (h1:a*d<=9223372036854775807) (h2:b*c<=9223372036854775807) (hy0:y≠0) (ok:Ok (x/y)):
 Calls Try.prog 86 #[V x,V y] w fun e w'=>e= .returned (V (x/y))/\Below w.heap.size w w':=by
 obtain ⟨e1,e2,f1,f2⟩:=WI hx hy h1 h2
 obtain ⟨k,hk⟩:=rq (tu (Int.mul_ne_zero (tS x) (VC hy0)) (div_mul x hy0) (by omega) (by omega) ok)
 exact jQ.calls k x.num x.den y.num y.den _ _ w (by unfold jQ.f;rw [e1,e2];exact hk k (Nat.le_refl _))
def jr (q:Rat):Int:=if q<0 then -1 else if 0<q then 1 else 0
theorem a7B (q:Rat):mn (mx q.num (-1)) 1=jr q:=by
 unfold jr
 have h1:=@sign_neg q
 have h2:=@ZB q
 by_cases c1:q<0
 ·rw [if_pos c1];have:=h1.2 c1;unfold mn mx;split<;>split<;>omega
 ·rw [if_neg c1]
  have:¬q.num<0:=fun h=>c1 (h1.1 h)
  by_cases c2:0<q
  ·rw [if_pos c2];have:=h2.2 c2;unfold mn mx;split<;>split<;>omega
  ·rw [if_neg c2];have:¬0<q.num:=fun h=>c2 (h2.1 h)
   unfold mn mx;split<;>split<;>omega
theorem vL (x:Rat) (w:World):
 Calls Try.prog 87 #[V x] w fun e w'=>e= .returned (.int .i64 (jr x))/\Below w.heap.size w w':=
 qH.calls x.num x.den _ w (by unfold qH.f;rw [a7B])
theorem b1l (w:World) (hx:Ok x) (hy:Ok y) (ok:Ok (x+y)):
 Calls Try.prog 20 #[V x,V y] w fun e w'=>e= .returned (V (x+y))/\Below w.heap.size w w':=by
 have h1:1000000*1000000+1000000*1000000<=9223372036854775807:=by omega
 obtain ⟨f1,f2,f3,f4⟩:=qo hx.sz hy.sz h1 (by omega)
 obtain ⟨_,e2,e3⟩:=wraps hx.sz hy.sz h1 (by omega)
 obtain ⟨k0,hk⟩:=rq (tu f4 (add_mul x y) (by omega) (by omega) ok)
 obtain ⟨k,hk0,vE⟩:∃K,k0<=K/\1000000<K:=⟨k0+1000001,by omega,by omega⟩
 refine lz.calls k x.num x.den y.num y.den _ _ w ?_
 unfold lz.f
 rw [uH _ _ _ (by omega),decide_eq_true hx.rat]
 simp only [Option.bind_some,if_true]
 rw [uH _ _ _ (by omega),decide_eq_true hy.rat]
 simp only [Option.bind_some,if_true]
 rw [e2,e3];exact hk k hk0
theorem Qi (hx:Sz a b x) (hy:Sz c d y) (h1:a*d+c*b<=9223372036854775807) (h2:b*d<=9223372036854775807):Ev (fun k=>fl.f k x.num x.den y.num y.den) ((x+y).num,((x+y).den:Int)):=by
 obtain ⟨f1,f2,f3,f4⟩:=qo hx hy h1 h2
 obtain ⟨_,e2,e3⟩:=wraps hx hy h1 h2
 refine Ev.congr (fun k=>?_) (rq (tq f4 (add_mul x y) (by omega) (by omega)))
 unfold fl.f;rw [e2,e3]
theorem ZJ (hx:Sz a b x) (hy:Sz c d y) (h1:a*d+c*b<=9223372036854775807) (h2:b*d<=9223372036854775807):Ev (fun k=>jC.f k x.num x.den y.num y.den) ((x - y).num,((x - y).den:Int)):=by
 obtain ⟨f1,f2,f3,f4⟩:=qo hx hy h1 h2
 obtain ⟨e1,_,e3⟩:=wraps hx hy h1 h2
 refine Ev.congr (fun k=>?_) (rq (tq f4 (sub_mul x y) (by omega) (by omega)))
 unfold jC.f;rw [e1,e3]
theorem ZK (hx:Sz a b x) (hy:Sz c d y) (h1:a*c<=9223372036854775807) (h2:b*d<=9223372036854775807):Ev (fun k=>jD.f k x.num x.den y.num y.den) ((x*y).num,((x*y).den:Int)):=by
 obtain ⟨e1,e2,f1,f2⟩:=WH hx hy h1 h2
 refine Ev.congr (fun k=>?_) (rq (tq (Int.mul_ne_zero (tS x) (tS y)) (Qd x y) (by omega) (by omega)))
 unfold jD.f;rw [e1,e2]
theorem a4y (hx:Sz a b x) (hy:Sz c d y) (h1:a*d<=9223372036854775807) (h2:b*c<=9223372036854775807) (hy0:y≠0):Ev (fun k=>ku.f k x.num x.den y.num y.den) ((x/y).num,((x/y).den:Int)):=by
 obtain ⟨e1,e2,f1,f2⟩:=WI hx hy h1 h2
 refine Ev.congr (fun k=>?_) (rq (tq (Int.mul_ne_zero (tS x) (VC hy0)) (div_mul x hy0) (by omega) (by omega)))
 unfold ku.f;rw [e1,e2]
theorem ZL (x y:Rat):(x.num*(y.den:Int)<y.num*(x.den:Int))↔x<y:=by
 have h:=Rat.lt_iff x y
 exact h.symm
theorem uV (hx:Sz a b x) (hy:Sz c d y) (h1:a*d+c*b<=9223372036854775807):cm.f x.num x.den y.num y.den=some (decide (x<y)):=by
 have f1:(x.num*(y.den:Int)).natAbs<=a*d:=nj hx.n (by rw [kQ];exact hy.d)
 have f2:(y.num*(x.den:Int)).natAbs<=c*b:=nj hy.n (by rw [kQ];exact hx.d)
 unfold cm.f
 rw [cO (n:=x.num*(y.den:Int)) (by omega) (by omega),cO (n:=y.num*(x.den:Int)) (by omega) (by omega)]
 congr 1
 exact decide_eq_decide.2 (ZL x y)
end
structure gf (cs:Array Value) (m N K:Nat) (T:bq):Prop where
 size:cs.size=531
 one:cs.all (·.oneCell')=true
 num:∀i j,i<m+K->j<=N->cs[i*32+j*2]? =some (.int .i64 (T.cell i j).num)
 den:∀i j,i<m+K->j<=N->cs[i*32+j*2+1]? =some (.int .i64 ((T.cell i j).den:Int))
 eO:∀r,r<m->cs[512+r]? =some (.int .i64 (T.basis r:Int))
 rows:cs[528]? =some (.int .i64 (m:Int))
 mO:cs[529]? =some (.int .i64 (N:Int))
 costs:cs[530]? =some (.int .i64 (K:Int))
 hm:m+K<=16
 hN:N<16
def tv (w:World) (B m N K:Nat) (T:bq):Prop:=∃cs,w.heap[B]? =some (.cells cs 62 (0,0))/\gf cs m N K T
theorem tv.moves {w W:World} {B m N K:Nat} {T:bq} (h:tv w B m N K T) (e:W.heap[B]? =w.heap[B]?):tv W B m N K T:=by
 obtain ⟨cs,h1,h2⟩:=h;exact ⟨cs,e.trans h1,h2⟩
theorem tv.below {w W:World} {B m N K:Nat} {T:bq} (h:tv w B m N K T) (hb:Below w.heap.size w W):tv W B m N K T:=by
 refine h.moves ?_
 obtain ⟨cs,h1,_⟩:=h
 have:=(Array.getElem?_eq_some_iff.1 h1).1
 exact hb.block _ this
theorem qU {q:Rat}:jr q=0↔q=0:=by
 unfold jr
 constructor
 ·intro h
  by_cases h1:q<0
  ·rw [if_pos h1] at h;omega
  ·rw [if_neg h1] at h
   by_cases h2:0<q
   ·rw [if_pos h2] at h;omega
   ·grind
 ·intro h;subst h;rfl
theorem yw (a b:Int) (w:World):(method 207 26 (.agg #[.int .i64 a,.int .i64 b]) "loop.example/s01205/impl.sign").run Try.prog w= .ok (87,.agg #[.int .i64 a,.int .i64 b]) w:=by kernel_rfl
theorem Jc (a b:Int) (w:World):(method 207 26 (.agg #[.int .i64 a,.int .i64 b]) "loop.example/s01205/impl.minus").run Try.prog w= .ok (85,.agg #[.int .i64 a,.int .i64 b]) w:=by kernel_rfl
theorem a4z (a b:Int) (w:World):(method 207 26 (.agg #[.int .i64 a,.int .i64 b]) "loop.example/s01205/impl.times").run Try.prog w= .ok (88,.agg #[.int .i64 a,.int .i64 b]) w:=by kernel_rfl
theorem Np (a b:Int) (w:World):(method 207 26 (.agg #[.int .i64 a,.int .i64 b]) "loop.example/s01205/impl.over").run Try.prog w= .ok (86,.agg #[.int .i64 a,.int .i64 b]) w:=by kernel_rfl
def lO (T:bq) (m c:Nat):Nat->Nat->Int
 |_,0=>0
 |k,d+1=>if T.cell (m+k) c=0 then lO T m c (k+1) d else jr (T.cell (m+k) c)
theorem br {w:World} {B:Nat} {cs:Array Value} {t:TypeId} (h:w.heap[B]? =some (.cells cs t (0,0))) {k:Nat} {v:Value} (hv:cs[k]? =some v):w.cell? ⟨B,k,none⟩=some v:=(af h k).trans hv
set_option maxHeartbeats 4000000 in
set_option maxRecDepth 100000 in
theorem Le (B m N K c:Nat) (T:bq) (w:World) (hT:tv w B m N K T) (hc:c<=N):
 Calls Try.prog 58 #[.pointer (some ⟨B,0,none⟩),.int .i64 (c:Int)] w fun e w'=>e= .returned (.int .i64 (lO T m c 0 K))/\Below w.heap.size w w':=by
 obtain ⟨cs,hB,hR⟩:=hT
 have hu:=Try.underlying62
 have hrows:=br hB hR.rows
 have Nq:=br hB hR.costs
 have HR:=Aside0.mk hR
 have HB:=Aside0.mk hB
 clear hR hB
 go_enter Try.func58,Try.ntmps58
 go_wp2
 repeat (go_quiet (fail);try go_wp2)
 go_loopw [11] (fun kv wr=>∃k:Nat,kv= .int .i64 (k:Int)/\k<=K/\Aside0 (lO T m c 0 K=lO T m c k (K - k))/\Below w.heap.size w wr) (fun kv _=>K -(intOf kv).toNat)
 case atStart=>exact ⟨0,rfl,Nat.zero_le _,⟨rfl⟩,by repeat (first|exact Below.refl _ _|apply bB)⟩
 case round=>
  obtain ⟨k,rfl,hk,HE,hb⟩:=hrel
  have CN:wr.heap[B]? =some (.cells cs 62 (0,0)):=(hb.block _ (Array.getElem?_eq_some_iff.1 HB.out).1).trans HB.out
  by_cases hlt:k<K
  ·obtain ⟨i,hi⟩:∃i,i=m+k:=⟨_,rfl⟩
   have hik:i<m+K:=by omega
   have a7C:=br CN HR.out.rows
   have h1:=br CN (HR.out.num i c hik hc)
   have h2:=br CN (HR.out.den i c hik hc)
   have FO:Aside0 (lO T m c 0 K=if T.cell i c=0 then lO T m c (k+1) (K -(k+1)) else jr (T.cell i c)):=⟨by
    rw [HE.out,show K - k=(K -(k+1))+1 by omega,hi];rfl⟩
   have vM:=Aside0.mk hb
   have WJ:=Aside0.mk CN
   have hw:IntKind.i64.wrap ((m:Int)+(k:Int))=(i:Int):=by rw [hi];have:=HR.out.hm;rw [cZ,cO (by omega) (by omega)];rfl
   have b0:(0:Int)<=(i:Int):=by omega
   have b1:(i:Int)<16:=by have:=HR.out.hm;omega
   have b2:(0:Int)<=(c:Int):=by omega
   have b3:(c:Int)<16:=by have:=HR.out.hN;omega
   have nA:Aside0 (wrap64 ((k:Int)+1)=((k+1:Nat):Int)):=⟨eR (by have:=HR.out.hm;omega)⟩
   clear hb CN hrows Nq hi HE
   have hm:=yw
   have HC:=Aside0.mk (fun W=>vL (T.cell i c) W)
   go_wp2
   go_region_held3 (fun w'=>w'.cell? ⟨B,528,none⟩=some (.int .i64 (m:Int))/\w'.cell? ⟨B,i*32+c*2,none⟩=some (.int .i64 (T.cell i c).num)/\w'.cell? ⟨B,i*32+c*2+1,none⟩=some (.int .i64 ((T.cell i c).den:Int))) ((first|exact ⟨a7C,h1,h2⟩|exact ⟨br eL.out HR.out.rows,br eL.out (HR.out.num i c hik hc),br eL.out (HR.out.den i c hik hc)⟩)) ((first|(go_at_call 87;(with_reducible refine (HC.out _).mono ?_);rintro e w1 ⟨rfl,hb1⟩;have vM:=Aside0.mk (ah (bB vM.out) hb1);have eL:=Aside0.mk (ai (aj WJ.out) hb1))))
   by_cases hz:T.cell i c=0
   ·have hz1:jr (T.cell i c)=0:=qU.2 hz
    have AQ:Aside0 (lO T m c 0 K=lO T m c (k+1) (K -(k+1))):=⟨by rw [FO.out,if_pos hz]⟩
    have hz2:(jr (T.cell i c) !=0)=false:=by rw [hz1];rfl
    clear hz hz1 FO
    generalize jr (T.cell i c)=z at*
    go_wp2
    go_roundw
    case rel=>exact ⟨k+1,by rw [nA.out],by omega,AQ,vM.out⟩
    case measure=>rw [nA.out];simp [intOf];omega
   ·have hz1:jr (T.cell i c)≠0:=fun h=>hz (qU.1 h)
    have AQ:Aside0 (lO T m c 0 K=jr (T.cell i c)):=⟨by rw [FO.out,if_neg hz]⟩
    have hz2:(jr (T.cell i c) !=0)=true:=bne_iff_ne.mpr hz1
    clear hz hz1 FO
    generalize jr (T.cell i c)=z at*
    go_wp2
    go_ret
    exact ⟨by rw [AQ.out];first|done|rfl,vM.out⟩
  ·have WK:k=K:=by omega
   have AQ:Aside0 (lO T m c 0 K=0):=⟨by rw [HE.out,WK,Nat.sub_self];rfl⟩
   subst WK
   have vM:=Aside0.mk hb
   clear HE hb CN
   go_wp2
   go_ret
   exact ⟨by rw [AQ.out];first|done|rfl,vM.out⟩
end Go.Proofs.Ytnhknojfpjheoaa.PT
