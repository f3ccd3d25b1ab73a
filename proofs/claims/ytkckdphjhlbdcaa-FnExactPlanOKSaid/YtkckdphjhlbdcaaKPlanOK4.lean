/-
  Part 4 of the proof of this: The law FnExactPlanOK answers true at every argument.
-/
import Derived.Test.YtkckdphjhlbdcaaKPlanOK2
import Derived.Test.YtkckdphjhlbdcaaKPlanOK3
namespace Go.Proofs.Ytkckdphjhlbdcaa.P
open Go.RowKit Go.Proofs.YtkckdphjhlbdcaaW.PrintWords Go.Proofs.YtkckdphjhlbdcaaW.PrintLast Go.Proofs.YtkckdphjhlbdcaaW.PrintMore
attribute [local go_sem] max2_int min2_int max_two min_two max_three min_three max_four min_four
set_option linter.all false
def ko.f (k:Nat) (aM:Int) (aJ:Int) (bw:Int) (bk:Int):Option (Int×Int):=(cJ.f k (wrap64 (aM*bw)) (wrap64 (aJ*bk))).bind fun IE=>(some (IE.1,IE.2))
theorem ko.mono:∀a0 a1 a2 a3 k,aR (ko.f k a0 a1 a2 a3) (ko.f (k+1) a0 a1 a2 a3):=by
 intro a0 a1 a2 a3 k
 unfold ko.f
 repeat' first
  |(with_reducible exact cJ.mono _ _ _)
  |(with_reducible exact aR.refl _)
  |(with_reducible exact aR.none _)
  |(with_reducible refine aR.ite ?_ ?_)
  |(with_reducible refine aR.bind ?_ (fun _=>?_))
set_option maxHeartbeats 8000000 in
set_option maxRecDepth 100000 in
theorem ko.calls (k:Nat) (aM:Int) (aJ:Int) (bw:Int) (bk:Int) (r1:Int) (r2:Int) (w:World) (h:ko.f k aM aJ bw bk=some (r1,r2)):
 Calls Try.prog 93 #[.agg #[.int .i64 aM,.int .i64 aJ],.agg #[.int .i64 bw,.int .i64 bk]] w fun e w'=>e= .returned (.agg #[.int .i64 r1,.int .i64 r2])/\Below w.heap.size w w':=by
 have lB:=Try.underlying34
 have HB:=Aside0.mk (Below.refl w.heap.size w)
 have H:((cJ.f k (wrap64 (aM*bw)) (wrap64 (aJ*bk))).bind fun IE=>(some (IE.1,IE.2)))=some (r1,r2):=h
 clear h
 replace H:=Option.bind_eq_some_iff.mp H
 obtain ⟨⟨Wl,a1H⟩,jx,H⟩:=H
 replace H:(some (Wl,a1H))=some (r1,r2):=H
 have A3:=Aside0.mk jx
 clear jx
 simp only [Option.some.injEq,Prod.mk.injEq] at H
 obtain ⟨rfl,rfl⟩:=H
 go_enter Try.func93,Try.ntmps93
 go_wp2_with (first|((with_reducible refine bn (N:=2) rfl ?_);refine bq ?hg (N:=2) ?hd (cs:= #[.int .i64 aM,.int .i64 aJ]) (t:=34) ?hr ?_;(case hd=>rfl);(case hg=>rfl);(case hr=>first|(go_simp;done)|(go_simp;rfl));intro pM hg w4 aU hb;have aA:=Aside0.mk (ah ay hb);have aC:=Aside0.mk (aU);have aD:=Aside0.mk ((by rw [hg];exact (ax ay):w.heap.size<=pM));have aK:=Aside0.mk ((by rw [hg];exact (ax ay):w.heap.size<=pM));clear HB;have HB:=aA;have nM:=aC;have GW166:=aD;have GE166:=aK;clear aA aC aD aK;clear hb aU hg)|((with_reducible refine bn (N:=3) rfl ?_);refine bq ?hg (N:=3) ?hd (cs:= #[.int .i64 bw,.int .i64 bk]) (t:=34) ?hr ?_;(case hd=>rfl);(case hg=>rfl);(case hr=>first|(go_simp;done)|(go_simp;rfl));intro sx hg w5 aU hb;have aA:=Aside0.mk (aj (g:=pM) (o:= .cells #[.int .i64 aM,.int .i64 aJ] 34 (0,0)) (aH nM) hb);have aC:=Aside0.mk (ah ay hb);have aD:=Aside0.mk (aU);have aK:=Aside0.mk ((by rw [hg];exact (ax ay):w.heap.size<=sx));have bF:=Aside0.mk ((by rw [hg];exact (ax ay):w.heap.size<=sx));have bS:=Aside0.mk ((by rw [hg];exact Nat.ne_of_lt (bf (g:=pM) (o:= .cells #[.int .i64 aM,.int .i64 aJ] 34 (0,0)) (aH nM)):pM≠sx));have bY:=Aside0.mk ((by rw [hg];exact Nat.ne_of_gt (bf (g:=pM) (o:= .cells #[.int .i64 aM,.int .i64 aJ] 34 (0,0)) (aH nM)):sx≠pM));clear nM;clear HB;have nM:=aA;have HB:=aC;have sy:=aD;have GW167:=aK;have GE167:=bF;have YK:=bS;have YL:=bY;clear aA aC aD aK bF bS bY;clear hb aU hg)|((with_reducible refine bn (N:=4) rfl ?_);refine bq ?hg (N:=4) ?hd (cs:= #[.int .i64 0,.int .i64 0]) (t:=34) ?hr ?_;(case hd=>rfl);(case hg=>rfl);(case hr=>first|(go_simp;done)|(go_simp;rfl));intro uX hg w6 aU hb;have aA:=Aside0.mk (aj (g:=pM) (o:= .cells #[.int .i64 aM,.int .i64 aJ] 34 (0,0)) (aH nM) hb);have aC:=Aside0.mk (aj (g:=sx) (o:= .cells #[.int .i64 bw,.int .i64 bk] 34 (0,0)) (aH sy) hb);have aD:=Aside0.mk (ah ay hb);have aK:=Aside0.mk (aU);have bF:=Aside0.mk ((by rw [hg];exact (ax ay):w.heap.size<=uX));have bS:=Aside0.mk ((by rw [hg];exact (ax ay):w.heap.size<=uX));have bY:=Aside0.mk ((by rw [hg];exact Nat.ne_of_lt (bf (g:=pM) (o:= .cells #[.int .i64 aM,.int .i64 aJ] 34 (0,0)) (aH nM)):pM≠uX));have eX:=Aside0.mk ((by rw [hg];exact Nat.ne_of_gt (bf (g:=pM) (o:= .cells #[.int .i64 aM,.int .i64 aJ] 34 (0,0)) (aH nM)):uX≠pM));have fY:=Aside0.mk ((by rw [hg];exact Nat.ne_of_lt (bf (g:=sx) (o:= .cells #[.int .i64 bw,.int .i64 bk] 34 (0,0)) (aH sy)):sx≠uX));have gT:=Aside0.mk ((by rw [hg];exact Nat.ne_of_gt (bf (g:=sx) (o:= .cells #[.int .i64 bw,.int .i64 bk] 34 (0,0)) (aH sy)):uX≠sx));clear nM;clear sy;clear HB;have nM:=aA;have sy:=aC;have HB:=aD;have yD:=aK;have GW168:=bF;have GE168:=bS;have YM:=bY;have YN:=eX;have YO:=fY;have YP:=gT;clear aA aC aD aK bF bS bY eX fY gT;clear hb aU hg;have CA:=YK.out;have CB:=YL.out;have FX:=YM.out;have FY:=YN.out;have vF:w6.cell? ⟨pM,0,none⟩=some (.int .i64 aM):=(ag nM.out 0).trans rfl;have vG:w6.cell? ⟨pM,1,none⟩=some (.int .i64 aJ):=(ag nM.out 1).trans rfl;have vH:=af nM.out 0;have vI:=af nM.out 1;have Bc:=YO.out;have Be:=YP.out;have uq:w6.cell? ⟨sx,0,none⟩=some (.int .i64 bw):=(ag sy.out 0).trans rfl;have ur:w6.cell? ⟨sx,1,none⟩=some (.int .i64 bk):=(ag sy.out 1).trans rfl;have uu:=af sy.out 0;have uv:=af sy.out 1)|((with_reducible refine aV (f:=89) rfl ?_);refine bH (some 15) rfl rfl Try.func89 (by kernel_rfl) rfl #[.int .i64 (wrap64 (aM*bw)),.int .i64 (wrap64 (aJ*bk))] rfl (by (try simp only [List.map_toArray,List.map_cons,List.map_nil]);first|done|rfl|(simp only [List.length_drop,List.length_take];rfl)) ?_;(with_reducible refine (cJ.calls k (wrap64 (aM*bw)) (wrap64 (aJ*bk)) Wl a1H _ A3.out).mono ?_);rintro e mV ⟨rfl,hb⟩;refine ⟨_,rfl,?_⟩;have aA:=Aside0.mk (aj (g:=pM) (o:= .cells #[.int .i64 aM,.int .i64 aJ] 34 (0,0)) (aH nM) hb);have aC:=Aside0.mk (aj (g:=sx) (o:= .cells #[.int .i64 bw,.int .i64 bk] 34 (0,0)) (aH sy) hb);have aD:=Aside0.mk (aj (g:=uX) (o:= .cells #[.int .i64 0,.int .i64 0] 34 (0,0)) (aH yD) hb);have aK:=Aside0.mk (ah ay hb);clear nM;clear sy;clear yD;clear HB;have nM:=aA;have sy:=aC;have yD:=aD;have HB:=aK;clear aA aC aD aK;(try clear hb);(try clear hb2);(try clear hk);(try clear hi);have pZ:mV.cell? ⟨uX,0,none⟩=some (.int .i64 0):=(ag yD.out 0).trans rfl;have qa:mV.cell? ⟨uX,1,none⟩=some (.int .i64 0):=(ag yD.out 1).trans rfl;have qb:=af yD.out 0;have qc:=af yD.out 1))
 refine bodyPost_ret (results_cell_row rfl _ _ uX 34 #[.int .i64 Wl,.int .i64 a1H] (0,0) _ rfl (by (with_reducible repeat (first|refine aq ?_ _|refine ak ?_|refine ai ?_ _));refine bh (cs:= #[.int .i64 Wl,.int .i64 0]) ?_ 1 _ rfl;(with_reducible repeat (first|refine aq ?_ _|refine ak ?_|refine ai ?_ _));refine bh (cs:= #[.int .i64 0,.int .i64 0]) ?_ 0 _ rfl;(with_reducible repeat (first|refine aq ?_ _|refine ak ?_|refine ai ?_ _));exact yD.out) Try.underlying34 rfl (by kernel_rfl)) rfl ?_
 exact ⟨by first|rfl|(simp [aX,aY]<;>rfl)|(simp [*,aX,aY]<;>rfl),ay⟩
def ld.f (k:Nat) (aM:Int) (aJ:Int) (bw:Int) (bk:Int):Option (Int×Int):=(cJ.f k (wrap64 (aM*bk)) (wrap64 (aJ*bw))).bind fun IG=>(some (IG.1,IG.2))
theorem ld.mono:∀a0 a1 a2 a3 k,aR (ld.f k a0 a1 a2 a3) (ld.f (k+1) a0 a1 a2 a3):=by
 intro a0 a1 a2 a3 k
 unfold ld.f
 repeat' first
  |(with_reducible exact cJ.mono _ _ _)
  |(with_reducible exact aR.refl _)
  |(with_reducible exact aR.none _)
  |(with_reducible refine aR.ite ?_ ?_)
  |(with_reducible refine aR.bind ?_ (fun _=>?_))
set_option maxHeartbeats 8000000 in
set_option maxRecDepth 100000 in
theorem ld.calls (k:Nat) (aM:Int) (aJ:Int) (bw:Int) (bk:Int) (r1:Int) (r2:Int) (w:World) (h:ld.f k aM aJ bw bk=some (r1,r2)):
 Calls Try.prog 91 #[.agg #[.int .i64 aM,.int .i64 aJ],.agg #[.int .i64 bw,.int .i64 bk]] w fun e w'=>e= .returned (.agg #[.int .i64 r1,.int .i64 r2])/\Below w.heap.size w w':=by
 have lB:=Try.underlying34
 have HB:=Aside0.mk (Below.refl w.heap.size w)
 have H:((cJ.f k (wrap64 (aM*bk)) (wrap64 (aJ*bw))).bind fun IG=>(some (IG.1,IG.2)))=some (r1,r2):=h
 clear h
 replace H:=Option.bind_eq_some_iff.mp H
 obtain ⟨⟨t159,t160⟩,jx,H⟩:=H
 replace H:(some (t159,t160))=some (r1,r2):=H
 have A3:=Aside0.mk jx
 clear jx
 simp only [Option.some.injEq,Prod.mk.injEq] at H
 obtain ⟨rfl,rfl⟩:=H
 go_enter Try.func91,Try.ntmps91
 go_wp2_with (first|((with_reducible refine bn (N:=2) rfl ?_);refine bq ?hg (N:=2) ?hd (cs:= #[.int .i64 aM,.int .i64 aJ]) (t:=34) ?hr ?_;(case hd=>rfl);(case hg=>rfl);(case hr=>first|(go_simp;done)|(go_simp;rfl));intro pN hg w4 aU hb;have aA:=Aside0.mk (ah ay hb);have aC:=Aside0.mk (aU);have aD:=Aside0.mk ((by rw [hg];exact (ax ay):w.heap.size<=pN));have aK:=Aside0.mk ((by rw [hg];exact (ax ay):w.heap.size<=pN));clear HB;have HB:=aA;have nN:=aC;have GW156:=aD;have GE156:=aK;clear aA aC aD aK;clear hb aU hg)|((with_reducible refine bn (N:=3) rfl ?_);refine bq ?hg (N:=3) ?hd (cs:= #[.int .i64 bw,.int .i64 bk]) (t:=34) ?hr ?_;(case hd=>rfl);(case hg=>rfl);(case hr=>first|(go_simp;done)|(go_simp;rfl));intro sA hg w5 aU hb;have aA:=Aside0.mk (aj (g:=pN) (o:= .cells #[.int .i64 aM,.int .i64 aJ] 34 (0,0)) (aH nN) hb);have aC:=Aside0.mk (ah ay hb);have aD:=Aside0.mk (aU);have aK:=Aside0.mk ((by rw [hg];exact (ax ay):w.heap.size<=sA));have bF:=Aside0.mk ((by rw [hg];exact (ax ay):w.heap.size<=sA));have bS:=Aside0.mk ((by rw [hg];exact Nat.ne_of_lt (bf (g:=pN) (o:= .cells #[.int .i64 aM,.int .i64 aJ] 34 (0,0)) (aH nN)):pN≠sA));have bY:=Aside0.mk ((by rw [hg];exact Nat.ne_of_gt (bf (g:=pN) (o:= .cells #[.int .i64 aM,.int .i64 aJ] 34 (0,0)) (aH nN)):sA≠pN));clear nN;clear HB;have nN:=aA;have HB:=aC;have sB:=aD;have GW157:=aK;have GE157:=bF;have YQ:=bS;have YR:=bY;clear aA aC aD aK bF bS bY;clear hb aU hg)|((with_reducible refine bn (N:=4) rfl ?_);refine bq ?hg (N:=4) ?hd (cs:= #[.int .i64 0,.int .i64 0]) (t:=34) ?hr ?_;(case hd=>rfl);(case hg=>rfl);(case hr=>first|(go_simp;done)|(go_simp;rfl));intro uY hg w6 aU hb;have aA:=Aside0.mk (aj (g:=pN) (o:= .cells #[.int .i64 aM,.int .i64 aJ] 34 (0,0)) (aH nN) hb);have aC:=Aside0.mk (aj (g:=sA) (o:= .cells #[.int .i64 bw,.int .i64 bk] 34 (0,0)) (aH sB) hb);have aD:=Aside0.mk (ah ay hb);have aK:=Aside0.mk (aU);have bF:=Aside0.mk ((by rw [hg];exact (ax ay):w.heap.size<=uY));have bS:=Aside0.mk ((by rw [hg];exact (ax ay):w.heap.size<=uY));have bY:=Aside0.mk ((by rw [hg];exact Nat.ne_of_lt (bf (g:=pN) (o:= .cells #[.int .i64 aM,.int .i64 aJ] 34 (0,0)) (aH nN)):pN≠uY));have eX:=Aside0.mk ((by rw [hg];exact Nat.ne_of_gt (bf (g:=pN) (o:= .cells #[.int .i64 aM,.int .i64 aJ] 34 (0,0)) (aH nN)):uY≠pN));have fY:=Aside0.mk ((by rw [hg];exact Nat.ne_of_lt (bf (g:=sA) (o:= .cells #[.int .i64 bw,.int .i64 bk] 34 (0,0)) (aH sB)):sA≠uY));have gT:=Aside0.mk ((by rw [hg];exact Nat.ne_of_gt (bf (g:=sA) (o:= .cells #[.int .i64 bw,.int .i64 bk] 34 (0,0)) (aH sB)):uY≠sA));clear nN;clear sB;clear HB;have nN:=aA;have sB:=aC;have HB:=aD;have yE:=aK;have GW158:=bF;have GE158:=bS;have YS:=bY;have YT:=eX;have YU:=fY;have YV:=gT;clear aA aC aD aK bF bS bY eX fY gT;clear hb aU hg;have CA:=YQ.out;have CB:=YR.out;have FX:=YS.out;have FY:=YT.out;have vF:w6.cell? ⟨pN,0,none⟩=some (.int .i64 aM):=(ag nN.out 0).trans rfl;have vG:w6.cell? ⟨pN,1,none⟩=some (.int .i64 aJ):=(ag nN.out 1).trans rfl;have vH:=af nN.out 0;have vI:=af nN.out 1;have Bc:=YU.out;have Be:=YV.out;have uq:w6.cell? ⟨sA,0,none⟩=some (.int .i64 bw):=(ag sB.out 0).trans rfl;have ur:w6.cell? ⟨sA,1,none⟩=some (.int .i64 bk):=(ag sB.out 1).trans rfl;have uu:=af sB.out 0;have uv:=af sB.out 1)|((with_reducible refine aV (f:=89) rfl ?_);refine bH (some 15) rfl rfl Try.func89 (by kernel_rfl) rfl #[.int .i64 (wrap64 (aM*bk)),.int .i64 (wrap64 (aJ*bw))] rfl (by (try simp only [List.map_toArray,List.map_cons,List.map_nil]);first|done|rfl|(simp only [List.length_drop,List.length_take];rfl)) ?_;(with_reducible refine (cJ.calls k (wrap64 (aM*bk)) (wrap64 (aJ*bw)) t159 t160 _ A3.out).mono ?_);rintro e mV ⟨rfl,hb⟩;refine ⟨_,rfl,?_⟩;have aA:=Aside0.mk (aj (g:=pN) (o:= .cells #[.int .i64 aM,.int .i64 aJ] 34 (0,0)) (aH nN) hb);have aC:=Aside0.mk (aj (g:=sA) (o:= .cells #[.int .i64 bw,.int .i64 bk] 34 (0,0)) (aH sB) hb);have aD:=Aside0.mk (aj (g:=uY) (o:= .cells #[.int .i64 0,.int .i64 0] 34 (0,0)) (aH yE) hb);have aK:=Aside0.mk (ah ay hb);clear nN;clear sB;clear yE;clear HB;have nN:=aA;have sB:=aC;have yE:=aD;have HB:=aK;clear aA aC aD aK;(try clear hb);(try clear hb2);(try clear hk);(try clear hi);have pZ:mV.cell? ⟨uY,0,none⟩=some (.int .i64 0):=(ag yE.out 0).trans rfl;have qa:mV.cell? ⟨uY,1,none⟩=some (.int .i64 0):=(ag yE.out 1).trans rfl;have qb:=af yE.out 0;have qc:=af yE.out 1))
 refine bodyPost_ret (results_cell_row rfl _ _ uY 34 #[.int .i64 t159,.int .i64 t160] (0,0) _ rfl (by (with_reducible repeat (first|refine aq ?_ _|refine ak ?_|refine ai ?_ _));refine bh (cs:= #[.int .i64 t159,.int .i64 0]) ?_ 1 _ rfl;(with_reducible repeat (first|refine aq ?_ _|refine ak ?_|refine ai ?_ _));refine bh (cs:= #[.int .i64 0,.int .i64 0]) ?_ 0 _ rfl;(with_reducible repeat (first|refine aq ?_ _|refine ak ?_|refine ai ?_ _));exact yE.out) Try.underlying34 rfl (by kernel_rfl)) rfl ?_
 exact ⟨by first|rfl|(simp [aX,aY]<;>rfl)|(simp [*,aX,aY]<;>rfl),ay⟩
def cr.f (aM:Int) (aJ:Int) (bw:Int) (bk:Int):Option (Bool):=some (decide ((wrap64 (aM*bk))<(wrap64 (bw*aJ))))
set_option maxHeartbeats 8000000 in
set_option maxRecDepth 100000 in
theorem cr.calls (aM:Int) (aJ:Int) (bw:Int) (bk:Int) (r:Bool) (w:World) (h:cr.f aM aJ bw bk=some r):
 Calls Try.prog 51 #[.agg #[.int .i64 aM,.int .i64 aJ],.agg #[.int .i64 bw,.int .i64 bk]] w fun e w'=>e= .returned (.bool r)/\Below w.heap.size w w':=by
 have lB:=Try.underlying34
 have HB:=Aside0.mk (Below.refl w.heap.size w)
 have H:(some (decide ((wrap64 (aM*bk))<(wrap64 (bw*aJ)))))=some r:=h
 clear h
 obtain rfl:=Option.some.inj H
 go_enter Try.func51,Try.ntmps51
 go_wp2_with (first|((with_reducible refine bn (N:=2) rfl ?_);refine bq ?hg (N:=2) ?hd (cs:= #[.int .i64 aM,.int .i64 aJ]) (t:=34) ?hr ?_;(case hd=>rfl);(case hg=>rfl);(case hr=>first|(go_simp;done)|(go_simp;rfl));intro xh hg w3 aU hb;have aA:=Aside0.mk (ah ay hb);have aC:=Aside0.mk (aU);have aD:=Aside0.mk ((by rw [hg];exact (ax ay):w.heap.size<=xh));have aK:=Aside0.mk ((by rw [hg];exact (ax ay):w.heap.size<=xh));clear HB;have HB:=aA;have xj:=aC;have GW209:=aD;have GE209:=aK;clear aA aC aD aK;clear hb aU hg)|((with_reducible refine bn (N:=3) rfl ?_);refine bq ?hg (N:=3) ?hd (cs:= #[.int .i64 bw,.int .i64 bk]) (t:=34) ?hr ?_;(case hd=>rfl);(case hg=>rfl);(case hr=>first|(go_simp;done)|(go_simp;rfl));intro Ee hg w4 aU hb;have aA:=Aside0.mk (aj (g:=xh) (o:= .cells #[.int .i64 aM,.int .i64 aJ] 34 (0,0)) (aH xj) hb);have aC:=Aside0.mk (ah ay hb);have aD:=Aside0.mk (aU);have aK:=Aside0.mk ((by rw [hg];exact (ax ay):w.heap.size<=Ee));have bF:=Aside0.mk ((by rw [hg];exact (ax ay):w.heap.size<=Ee));have bS:=Aside0.mk ((by rw [hg];exact Nat.ne_of_lt (bf (g:=xh) (o:= .cells #[.int .i64 aM,.int .i64 aJ] 34 (0,0)) (aH xj)):xh≠Ee));have bY:=Aside0.mk ((by rw [hg];exact Nat.ne_of_gt (bf (g:=xh) (o:= .cells #[.int .i64 aM,.int .i64 aJ] 34 (0,0)) (aH xj)):Ee≠xh));clear xj;clear HB;have xj:=aA;have HB:=aC;have OI:=aD;have GW210:=aK;have GE210:=bF;have YW:=bS;have YX:=bY;clear aA aC aD aK bF bS bY;clear hb aU hg;have a8K:=YW.out;have a8L:=YX.out;have Qc:w4.cell? ⟨xh,0,none⟩=some (.int .i64 aM):=(ag xj.out 0).trans rfl;have Qd:w4.cell? ⟨xh,1,none⟩=some (.int .i64 aJ):=(ag xj.out 1).trans rfl;have Qe:=af xj.out 0;have Qf:=af xj.out 1;have Qg:w4.cell? ⟨Ee,0,none⟩=some (.int .i64 bw):=(ag OI.out 0).trans rfl;have Qh:w4.cell? ⟨Ee,1,none⟩=some (.int .i64 bk):=(ag OI.out 1).trans rfl;have Qi:=af OI.out 0;have Qj:=af OI.out 1))
 go_ret
 exact ⟨by first|rfl|(simp [aX,aY]<;>rfl)|(simp [*,aX,aY]<;>rfl),ay⟩
end Go.Proofs.Ytkckdphjhlbdcaa.P
namespace Go.Proofs.Ytkckdphjhlbdcaa.PT
open Go.RowKit Go.Proofs.Ytkckdphjhlbdcaa.P Go.Proofs.YtkckdphjhlbdcaaW.PrintWords Go.Proofs.YtkckdphjhlbdcaaW.PrintLast Go.Proofs.Ytkckdphjhlbdcaa.EvKit Go.Proofs.Ytkckdphjhlbdcaa.Num Go.Proofs.Ytkckdphjhlbdcaa.Lp
set_option linter.all false
theorem cW {n:Int} (h1: -9223372036854775808<=n) (h2:n<=9223372036854775807):wrap64 n=n:=by
 unfold wrap64;omega
theorem Qk:∀(n k:Nat) (a b:Int),0<=a->0<=b->b.natAbs<=n->n<k->er.f k a b=some (Int.gcd a b:Int)
 |n,0,_,_,_,_,_,hk=>absurd hk (by omega)
 |n,k+1,a,b,ha,hb,hn,hk=>by
  simp only [er.f]
  by_cases h:b=0
  ·subst h;rw [if_pos rfl,Int.gcd_zero];congr 1;omega
  ·rw [if_neg h]
   have hlt:=Int.tmod_lt_of_pos a (show 0<b by omega)
   have hge:=Int.tmod_nonneg b ha
   rw [Qk (n - 1) k b (a.tmod b) hb hge (by omega) (by omega),PO];rfl
theorem a8M {a:Int} (h1: -9223372036854775807<=a) (h2:a<=9223372036854775807):mx a (wrap64 (-a))=(a.natAbs:Int):=by
 rw [cW (by omega) (by omega)];unfold mx;split<;>omega
theorem Nb:∀(n k:Nat) (a b:Int),a.natAbs<=9223372036854775807->b.natAbs<=9223372036854775807->b.natAbs<=n->n<k->dL.l0 k a b=some (Int.gcd a b:Int)
 |n,0,_,_,_,_,_,hk=>absurd hk (by omega)
 |n,k+1,a,b,ha,hb,hn,hk=>by
  simp only [dL.l0]
  by_cases h:b=0
  ·subst h;rw [if_pos rfl,Int.gcd_zero,a8M (by omega) (by omega)]
  ·rw [if_neg h]
   have hlt:(a.tmod b).natAbs<b.natAbs:=by rw [Int.natAbs_tmod];exact Nat.mod_lt _ (by omega)
   rw [Nb (n - 1) k b (a.tmod b) hb (by omega) (by omega) (by omega),PO]
theorem YY (k:Nat) (a b:Int) (ha:a.natAbs<=9223372036854775807) (hb:b.natAbs<=9223372036854775807) (hk:b.natAbs<k):dL.f k a b=some (Int.gcd a b:Int):=
 Nb b.natAbs k a b ha hb (Nat.le_refl _) hk
theorem II (a b c:Int):eB.f a b c=some (decide (b<=a/\a<=c)):=by
 unfold eB.f
 by_cases h:a>=b
 ·rw [if_pos h];simp [h]
 ·rw [if_neg h];simp [h]
theorem abs_eq (a:Int) (h1:a.natAbs<=9223372036854775807):jm.f a=some (a.natAbs:Int):=by
 unfold jm.f
 split
 ·rw [cW (by omega) (by omega)];congr 1;omega
 ·congr 1;omega
def yF (n d:Int):Prop:=1<=d/\d<=1000000/\ -1000000<=n/\n<=1000000/\Int.gcd n d=1
instance (n d:Int):Decidable (yF n d):=by unfold yF;infer_instance
theorem ru (k:Nat) (n d:Int) (hk:1000000<k):cj.f k n d=some (decide (yF n d)):=by
 unfold cj.f
 rw [II];simp only [Option.bind_some]
 by_cases h:1<=d/\d<=1000000
 ·rw [if_pos (by simpa using h),II];simp only [Option.bind_some]
  by_cases h2: -1000000<=n/\n<=1000000
  ·rw [if_pos (by simpa using h2),YY k _ _ (by omega) (by omega) (by omega)];simp only [Option.bind_some]
   congr 1
   rw [Bool.eq_iff_iff];unfold yF;simp [h,h2];omega
  ·rw [if_neg (by simpa using h2),decide_eq_false (p:=yF n d) (fun ⟨_,_,_,_,_⟩=>by omega)]
 ·rw [if_neg (by simpa using h),decide_eq_false (p:=yF n d) (fun ⟨_,_,_,_,_⟩=>by omega)]
theorem YZ (k:Nat) (n d:Int) (hd:d≠0) (hn:n.natAbs<=9223372036854775807) (Ql:d.natAbs<=9223372036854775807) (hk:d.natAbs<k):
 cJ.f k n d=some (nc n d,lQ n d):=by
 have hg:=um (n:=n) hd
 have hgl:(Int.gcd n d:Int)<=d.natAbs:=by
  have:=Int.gcd_le_natAbs_right n (b:=d) (by omega);omega
 have hN:=Ct (n:=n) hd
 have hD:=Cu (n:=n) hd
 have hga:(Int.gcd (n.natAbs:Int) (d.natAbs:Int):Int)=Int.gcd n d:=by unfold Int.gcd;simp
 unfold cJ.f
 rw [abs_eq _ hn,abs_eq _ Ql];simp only [Option.bind_some]
 rw [Qk d.natAbs k _ _ (by omega) (by omega) (by omega) hk];simp only [Option.bind_some]
 rw [hga]
 unfold nc lQ at*
 by_cases h:d<0
 ·rw [if_pos h,cW (n:= -(Int.gcd n d:Int)) (by omega) (by omega),if_neg (by omega),wO,vD]
  rw [if_pos h] at hN hD⊢
  rw [if_pos h,cW (by omega) (by omega),cW (by omega) (by omega)]
 ·rw [if_neg h,if_neg (by omega),wE,uo]
  rw [if_neg h] at hN hD⊢
  rw [if_neg h,cW (by omega) (by omega),cW (by omega) (by omega)]
theorem Za (k:Nat) (n d:Int) (hd:d≠0) (hn:n.natAbs<=9223372036854775807) (Ql:d.natAbs<=9223372036854775807) (hk:d.natAbs<k) (hk2:1000000<k):
 bJ.f k n d=some (if yF (nc n d) (lQ n d) then (nc n d,lQ n d) else (0,0)):=by
 have hg:=um (n:=n) hd
 have hgl:(Int.gcd n d:Int)<=d.natAbs:=by
  have:=Int.gcd_le_natAbs_right n (b:=d) (by omega);omega
 have hN:=Ct (n:=n) hd
 have hD:=Cu (n:=n) hd
 unfold bJ.f
 rw [YY k n d hn Ql hk];simp only [Option.bind_some]
 unfold nc lQ at*
 by_cases h:d<0
 ·rw [if_pos h,cW (n:= -(Int.gcd n d:Int)) (by omega) (by omega),if_neg (by omega),wO,vD]
  rw [if_pos h] at hN hD
  simp only [if_pos h]
  rw [cW (n:= -(n/_)) (by omega) (by omega),cW (n:= -(d/_)) (by omega) (by omega),ru _ _ _ hk2];simp only [Option.bind_some,decide_eq_true_eq]
  split<;>rfl
 ·rw [if_neg h,if_neg (by omega),wE,uo]
  rw [if_neg h] at hN hD
  simp only [if_neg h]
  rw [cW (n:=(n/_)) (by omega) (by omega),cW (n:=(d/_)) (by omega) (by omega),ru _ _ _ hk2];simp only [Option.bind_some,decide_eq_true_eq]
  split<;>rfl
abbrev V (q:Rat):Value:= .agg #[.int .i64 q.num,.int .i64 (q.den:Int)]
def Ok (q:Rat):Prop:=q.num.natAbs<=1000000/\q.den<=1000000
theorem Qu.ok {a b:Nat} {q:Rat} (h:Qu a b q) (ha:a<=1000000) (hb:b<=1000000):Ok q:=⟨by have:=h.num;omega,by have:=h.num;omega⟩
theorem Ok.rat {q:Rat} (h:Ok q):yF q.num (q.den:Int):=⟨by have:=q.den_pos;omega,by have:=h.2;omega,by have:=h.1;omega,by have:=h.1;omega,yu q⟩
theorem uZ {n d:Int} {q:Rat} (hd:d≠0) (e:q*(d:Rat)=(n:Rat)) (hn:n.natAbs<=9223372036854775807) (Ql:d.natAbs<=9223372036854775807):Ev (fun k=>cJ.f k n d) (q.num,(q.den:Int)):=
 ⟨d.natAbs+1,fun k hk=>by show cJ.f k n d=_;rw [YZ k n d hd hn Ql (by omega),PS hd e];rfl⟩
theorem vk {n d:Int} {q:Rat} (hd:d≠0) (e:q*(d:Rat)=(n:Rat)) (hn:n.natAbs<=9223372036854775807) (Ql:d.natAbs<=9223372036854775807) (ok:Ok q):Ev (fun k=>bJ.f k n d) (q.num,(q.den:Int)):=
 by
 obtain ⟨K,hK1,hK2⟩:∃K,d.natAbs<K/\1000000<K:=⟨d.natAbs+1000001,by omega,by omega⟩
 exact ⟨K,fun k hk=>by
  show bJ.f k n d=_
  rw [Za k n d hd hn Ql (by omega) (by omega)]
  have h:=PS hd e
  have h1:nc n d=q.num:=congrArg Prod.fst h
  have h2:lQ n d=(q.den:Int):=congrArg Prod.snd h
  rw [h1,h2,if_pos ok.rat]⟩
theorem mP {x y:Int} {c d:Nat} (h1:x.natAbs<=c) (h2:y.natAbs<=d):(x*y).natAbs<=c*d:=by rw [Int.natAbs_mul];exact Nat.mul_le_mul h1 h2
structure Sz (a b:Nat) (x:Rat):Prop where
 n:x.num.natAbs<=a
 d:x.den<=b
theorem Qu.sz {a b:Nat} {q:Rat} (h:Qu a b q):Sz a b q:=⟨h.num.1,h.num.2⟩
theorem Ok.sz {q:Rat} (h:Ok q):Sz 1000000 1000000 q:=⟨h.1,h.2⟩
theorem vP (q:Rat):((q.den:Int))≠0:=by have:=q.den_pos;omega
theorem kI (q:Rat):(q.den:Int).natAbs=q.den:=by omega
section
variable {x y:Rat} {a b c d:Nat}
theorem rT (hx:Sz a b x) (hy:Sz c d y) (h1:a*d+c*b<=9223372036854775807) (h2:b*d<=9223372036854775807):
 (x.num*(y.den:Int)).natAbs<=a*d/\(y.num*(x.den:Int)).natAbs<=c*b/\((x.den:Int)*(y.den:Int)).natAbs<=b*d/\(x.den:Int)*(y.den:Int)≠0:=
 ⟨mP hx.n (by rw [kI];exact hy.d),mP hy.n (by rw [kI];exact hx.d),mP (by rw [kI];exact hx.d) (by rw [kI];exact hy.d),Int.mul_ne_zero (vP x) (vP y)⟩
theorem wraps (hx:Sz a b x) (hy:Sz c d y) (h1:a*d+c*b<=9223372036854775807) (h2:b*d<=9223372036854775807):
 wrap64 (wrap64 (x.num*(y.den:Int))- wrap64 (y.num*(x.den:Int)))=x.num*y.den - y.num*x.den/\wrap64 (wrap64 (x.num*(y.den:Int))+wrap64 (y.num*(x.den:Int)))=x.num*y.den+y.num*x.den/\wrap64 ((x.den:Int)*(y.den:Int))=(x.den:Int)*y.den:=by
 obtain ⟨f1,f2,f3,f4⟩:=rT hx hy h1 h2
 generalize x.num*(y.den:Int)=p at*
 generalize y.num*(x.den:Int)=q at*
 generalize (x.den:Int)*(y.den:Int)=r at*
 rw [cW (n:=p) (by omega) (by omega),cW (n:=q) (by omega) (by omega),cW (n:=r) (by omega) (by omega),cW (by omega) (by omega),cW (by omega) (by omega)]
 exact ⟨rfl,rfl,rfl⟩
theorem Zb (hx:Sz a b x) (hy:Sz c d y) (h1:a*c<=9223372036854775807) (h2:b*d<=9223372036854775807):
 wrap64 (x.num*y.num)=x.num*y.num/\wrap64 ((x.den:Int)*(y.den:Int))=(x.den:Int)*y.den/\(x.num*y.num).natAbs<=a*c/\((x.den:Int)*y.den).natAbs<=b*d:=by
 have f1:(x.num*y.num).natAbs<=a*c:=mP hx.n hy.n
 have f2:((x.den:Int)*(y.den:Int)).natAbs<=b*d:=mP (by rw [kI];exact hx.d) (by rw [kI];exact hy.d)
 exact ⟨cW (by omega) (by omega),cW (by omega) (by omega),f1,f2⟩
theorem Zc (hx:Sz a b x) (hy:Sz c d y) (h1:a*d<=9223372036854775807) (h2:b*c<=9223372036854775807):
 wrap64 (x.num*(y.den:Int))=x.num*y.den/\wrap64 ((x.den:Int)*y.num)=(x.den:Int)*y.num/\(x.num*(y.den:Int)).natAbs<=a*d/\((x.den:Int)*y.num).natAbs<=b*c:=by
 have f1:(x.num*(y.den:Int)).natAbs<=a*d:=mP hx.n (by rw [kI];exact hy.d)
 have f2:((x.den:Int)*y.num).natAbs<=b*c:=mP (by rw [kI];exact hx.d) hy.n
 exact ⟨cW (by omega) (by omega),cW (by omega) (by omega),f1,f2⟩
theorem sY {g:Nat->Option (Int×Int)} {r:Int×Int} (h:Ev g r):Ev (fun k=>(g k).bind fun t=>some (t.1,t.2)) r:=by
 obtain ⟨k0,h⟩:=h
 exact ⟨k0,fun k hk=>by show (g k).bind _=_;rw [h k hk];rfl⟩
theorem Lg (w:World) (hx:Sz a b x) (hy:Sz c d y) (h1:a*d+c*b<=9223372036854775807) (h2:b*d<=9223372036854775807) (ok:Ok (x - y)):
 Calls Try.prog 112 #[V x,V y] w fun e w'=>e= .returned (V (x - y))/\Below w.heap.size w w':=by
 obtain ⟨f1,f2,f3,f4⟩:=rT hx hy h1 h2
 obtain ⟨e1,_,e3⟩:=wraps hx hy h1 h2
 obtain ⟨k,hk⟩:=sY (vk f4 (sub_mul x y) (by omega) (by omega) ok)
 exact jL.calls k x.num x.den y.num y.den _ _ w (by unfold jL.f;rw [e1,e3];exact hk k (Nat.le_refl _))
theorem a6s (w:World) (hx:Sz a b x) (hy:Sz c d y) (h1:a*c<=9223372036854775807) (h2:b*d<=9223372036854775807) (ok:Ok (x*y)):
 Calls Try.prog 115 #[V x,V y] w fun e w'=>e= .returned (V (x*y))/\Below w.heap.size w w':=by
 obtain ⟨e1,e2,f1,f2⟩:=Zb hx hy h1 h2
 obtain ⟨k,hk⟩:=sY (vk (Int.mul_ne_zero (vP x) (vP y)) (TC x y) (by omega) (by omega) ok)
 exact jM.calls k x.num x.den y.num y.den _ _ w (by unfold jM.f;rw [e1,e2];exact hk k (Nat.le_refl _))
theorem CD (w:World) (hx:Sz a b x) (hy:Sz c d y) (h1:a*d<=9223372036854775807) (h2:b*c<=9223372036854775807) (hy0:y≠0) (ok:Ok (x/y)):
 Calls Try.prog 113 #[V x,V y] w fun e w'=>e= .returned (V (x/y))/\Below w.heap.size w w':=by
 obtain ⟨e1,e2,f1,f2⟩:=Zc hx hy h1 h2
 obtain ⟨k,hk⟩:=sY (vk (Int.mul_ne_zero (vP x) (XY hy0)) (div_mul x hy0) (by omega) (by omega) ok)
 exact kM.calls k x.num x.den y.num y.den _ _ w (by unfold kM.f;rw [e1,e2];exact hk k (Nat.le_refl _))
def jX (q:Rat):Int:=if q<0 then -1 else if 0<q then 1 else 0
theorem a8N (q:Rat):mn (mx q.num (-1)) 1=jX q:=by
 unfold jX
 have h1:=@sign_neg q
 have h2:=@a1y q
 by_cases c1:q<0
 ·rw [if_pos c1];have:=h1.2 c1;unfold mn mx;split<;>split<;>omega
 ·rw [if_neg c1]
  have:¬q.num<0:=fun h=>c1 (h1.1 h)
  by_cases c2:0<q
  ·rw [if_pos c2];have:=h2.2 c2;unfold mn mx;split<;>split<;>omega
  ·rw [if_neg c2];have:¬0<q.num:=fun h=>c2 (h2.1 h)
   unfold mn mx;split<;>split<;>omega
theorem xM (x:Rat) (w:World):
 Calls Try.prog 114 #[V x] w fun e w'=>e= .returned (.int .i64 (jX x))/\Below w.heap.size w w':=
 sk.calls x.num x.den _ w (by unfold sk.f;rw [a8N])
theorem b2P (w:World) (hx:Ok x) (hy:Ok y) (ok:Ok (x+y)):
 Calls Try.prog 76 #[V x,V y] w fun e w'=>e= .returned (V (x+y))/\Below w.heap.size w w':=by
 have h1:1000000*1000000+1000000*1000000<=9223372036854775807:=by omega
 obtain ⟨f1,f2,f3,f4⟩:=rT hx.sz hy.sz h1 (by omega)
 obtain ⟨_,e2,e3⟩:=wraps hx.sz hy.sz h1 (by omega)
 obtain ⟨k0,hk⟩:=sY (vk f4 (add_mul x y) (by omega) (by omega) ok)
 obtain ⟨k,hk0,hk1⟩:∃K,k0<=K/\1000000<K:=⟨k0+1000001,by omega,by omega⟩
 refine mL.calls k x.num x.den y.num y.den _ _ w ?_
 unfold mL.f
 rw [ru _ _ _ (by omega),decide_eq_true hx.rat]
 simp only [Option.bind_some,if_true]
 rw [ru _ _ _ (by omega),decide_eq_true hy.rat]
 simp only [Option.bind_some,if_true]
 rw [e2,e3];exact hk k hk0
theorem TX (hx:Sz a b x) (hy:Sz c d y) (h1:a*d+c*b<=9223372036854775807) (h2:b*d<=9223372036854775807):Ev (fun k=>fZ.f k x.num x.den y.num y.den) ((x+y).num,((x+y).den:Int)):=by
 obtain ⟨f1,f2,f3,f4⟩:=rT hx hy h1 h2
 obtain ⟨_,e2,e3⟩:=wraps hx hy h1 h2
 refine Ev.congr (fun k=>?_) (sY (uZ f4 (add_mul x y) (by omega) (by omega)))
 unfold fZ.f;rw [e2,e3]
theorem a1I (hx:Sz a b x) (hy:Sz c d y) (h1:a*d+c*b<=9223372036854775807) (h2:b*d<=9223372036854775807):Ev (fun k=>kn.f k x.num x.den y.num y.den) ((x - y).num,((x - y).den:Int)):=by
 obtain ⟨f1,f2,f3,f4⟩:=rT hx hy h1 h2
 obtain ⟨e1,_,e3⟩:=wraps hx hy h1 h2
 refine Ev.congr (fun k=>?_) (sY (uZ f4 (sub_mul x y) (by omega) (by omega)))
 unfold kn.f;rw [e1,e3]
theorem a1J (hx:Sz a b x) (hy:Sz c d y) (h1:a*c<=9223372036854775807) (h2:b*d<=9223372036854775807):Ev (fun k=>ko.f k x.num x.den y.num y.den) ((x*y).num,((x*y).den:Int)):=by
 obtain ⟨e1,e2,f1,f2⟩:=Zb hx hy h1 h2
 refine Ev.congr (fun k=>?_) (sY (uZ (Int.mul_ne_zero (vP x) (vP y)) (TC x y) (by omega) (by omega)))
 unfold ko.f;rw [e1,e2]
theorem a6t (hx:Sz a b x) (hy:Sz c d y) (h1:a*d<=9223372036854775807) (h2:b*c<=9223372036854775807) (hy0:y≠0):Ev (fun k=>ld.f k x.num x.den y.num y.den) ((x/y).num,((x/y).den:Int)):=by
 obtain ⟨e1,e2,f1,f2⟩:=Zc hx hy h1 h2
 refine Ev.congr (fun k=>?_) (sY (uZ (Int.mul_ne_zero (vP x) (XY hy0)) (div_mul x hy0) (by omega) (by omega)))
 unfold ld.f;rw [e1,e2]
theorem FZ (x y:Rat):(x.num*(y.den:Int)<y.num*(x.den:Int))↔x<y:=by
 have h:=Rat.lt_iff x y
 exact h.symm
theorem ux (hx:Sz a b x) (hy:Sz c d y) (h1:a*d+c*b<=9223372036854775807):cr.f x.num x.den y.num y.den=some (decide (x<y)):=by
 have f1:(x.num*(y.den:Int)).natAbs<=a*d:=mP hx.n (by rw [kI];exact hy.d)
 have f2:(y.num*(x.den:Int)).natAbs<=c*b:=mP hy.n (by rw [kI];exact hx.d)
 unfold cr.f
 rw [cW (n:=x.num*(y.den:Int)) (by omega) (by omega),cW (n:=y.num*(x.den:Int)) (by omega) (by omega)]
 congr 1
 exact decide_eq_decide.2 (FZ x y)
end
structure ic (cs:Array Value) (m N K:Nat) (T:bA):Prop where
 size:cs.size=531
 one:cs.all (·.oneCell')=true
 num:∀i j,i<m+K->j<=N->cs[i*32+j*2]? =some (.int .i64 (T.cell i j).num)
 den:∀i j,i<m+K->j<=N->cs[i*32+j*2+1]? =some (.int .i64 ((T.cell i j).den:Int))
 fG:∀r,r<m->cs[512+r]? =some (.int .i64 (T.basis r:Int))
 rows:cs[528]? =some (.int .i64 (m:Int))
 od:cs[529]? =some (.int .i64 (N:Int))
 costs:cs[530]? =some (.int .i64 (K:Int))
 hm:m+K<=16
 hN:N<16
def vo (w:World) (B m N K:Nat) (T:bA):Prop:=∃cs,w.heap[B]? =some (.cells cs 79 (0,0))/\ic cs m N K T
theorem vo.moves {w W:World} {B m N K:Nat} {T:bA} (h:vo w B m N K T) (e:W.heap[B]? =w.heap[B]?):vo W B m N K T:=by
 obtain ⟨cs,h1,h2⟩:=h;exact ⟨cs,e.trans h1,h2⟩
theorem vo.below {w W:World} {B m N K:Nat} {T:bA} (h:vo w B m N K T) (hb:Below w.heap.size w W):vo W B m N K T:=by
 refine h.moves ?_
 obtain ⟨cs,h1,_⟩:=h
 have:=(Array.getElem?_eq_some_iff.1 h1).1
 exact hb.block _ this
theorem sK {q:Rat}:jX q=0↔q=0:=by
 unfold jX
 constructor
 ·intro h
  by_cases h1:q<0
  ·rw [if_pos h1] at h;omega
  ·rw [if_neg h1] at h
   by_cases h2:0<q
   ·rw [if_pos h2] at h;omega
   ·grind
 ·intro h;subst h;rfl
theorem zN (n:Nat) (a b:Int) (w:World):(method (n+1) 34 (.agg #[.int .i64 a,.int .i64 b]) "loop.example/s01205/impl.sign").run Try.prog w= .ok (114,.agg #[.int .i64 a,.int .i64 b]) w:=by kernel_rfl
theorem Lh (n:Nat) (a b:Int) (w:World):(method (n+1) 34 (.agg #[.int .i64 a,.int .i64 b]) "loop.example/s01205/impl.minus").run Try.prog w= .ok (112,.agg #[.int .i64 a,.int .i64 b]) w:=by kernel_rfl
theorem a6u (n:Nat) (a b:Int) (w:World):(method (n+1) 34 (.agg #[.int .i64 a,.int .i64 b]) "loop.example/s01205/impl.times").run Try.prog w= .ok (115,.agg #[.int .i64 a,.int .i64 b]) w:=by kernel_rfl
theorem Qm (n:Nat) (a b:Int) (w:World):(method (n+1) 34 (.agg #[.int .i64 a,.int .i64 b]) "loop.example/s01205/impl.over").run Try.prog w= .ok (113,.agg #[.int .i64 a,.int .i64 b]) w:=by kernel_rfl
def ng (T:bA) (m c:Nat):Nat->Nat->Int
 |_,0=>0
 |k,d+1=>if T.cell (m+k) c=0 then ng T m c (k+1) d else jX (T.cell (m+k) c)
theorem bB {w:World} {B:Nat} {cs:Array Value} {t:TypeId} (h:w.heap[B]? =some (.cells cs t (0,0))) {k:Nat} {v:Value} (hv:cs[k]? =some v):w.cell? ⟨B,k,none⟩=some v:=(ag h k).trans hv
set_option maxHeartbeats 4000000 in
set_option maxRecDepth 100000 in
theorem Ou (B m N K c:Nat) (T:bA) (w:World) (hT:vo w B m N K T) (hc:c<=N):
 Calls Try.prog 79 #[.pointer (some ⟨B,0,none⟩),.int .i64 (c:Int)] w fun e w'=>e= .returned (.int .i64 (ng T m c 0 K))/\Below w.heap.size w w':=by
 obtain ⟨cs,hB,hR⟩:=hT
 have hu:=Try.underlying79
 have hrows:=bB hB hR.rows
 have Qn:=bB hB hR.costs
 have HR:=Aside0.mk hR
 have HB:=Aside0.mk hB
 clear hR hB
 go_enter Try.func79,Try.ntmps79
 go_wp2
 repeat (go_quiet (fail);try go_wp2)
 go_loopw [11] (fun kv wr=>∃k:Nat,kv= .int .i64 (k:Int)/\k<=K/\Aside0 (ng T m c 0 K=ng T m c k (K - k))/\Below w.heap.size w wr) (fun kv _=>K -(intOf kv).toNat)
 case atStart=>exact ⟨0,rfl,Nat.zero_le _,⟨rfl⟩,by repeat (first|exact Below.refl _ _|apply aI)⟩
 case round=>
  obtain ⟨k,rfl,hk,HE,hb⟩:=hrel
  have zO:wr.heap[B]? =some (.cells cs 79 (0,0)):=(hb.block _ (Array.getElem?_eq_some_iff.1 HB.out).1).trans HB.out
  by_cases hlt:k<K
  ·obtain ⟨i,hi⟩:∃i,i=m+k:=⟨_,rfl⟩
   have hik:i<m+K:=by omega
   have a8O:=bB zO HR.out.rows
   have h1:=bB zO (HR.out.num i c hik hc)
   have h2:=bB zO (HR.out.den i c hik hc)
   have IJ:Aside0 (ng T m c 0 K=if T.cell i c=0 then ng T m c (k+1) (K -(k+1)) else jX (T.cell i c)):=⟨by
    rw [HE.out,show K - k=(K -(k+1))+1 by omega,hi];rfl⟩
   have xN:=Aside0.mk hb
   have Zd:=Aside0.mk zO
   have hw:IntKind.i64.wrap ((m:Int)+(k:Int))=(i:Int):=by rw [hi];have:=HR.out.hm;rw [dJ,cW (by omega) (by omega)];rfl
   have b0:(0:Int)<=(i:Int):=by omega
   have b1:(i:Int)<16:=by have:=HR.out.hm;omega
   have b2:(0:Int)<=(c:Int):=by omega
   have b3:(c:Int)<16:=by have:=HR.out.hN;omega
   have oW:Aside0 (wrap64 ((k:Int)+1)=((k+1:Nat):Int)):=⟨dQ (by have:=HR.out.hm;omega)⟩
   clear hb zO hrows Qn hi HE
   have hm:=zN
   have HC:=Aside0.mk (fun W=>xM (T.cell i c) W)
   go_wp2
   go_region_held3 (fun w'=>w'.cell? ⟨B,528,none⟩=some (.int .i64 (m:Int))/\w'.cell? ⟨B,i*32+c*2,none⟩=some (.int .i64 (T.cell i c).num)/\w'.cell? ⟨B,i*32+c*2+1,none⟩=some (.int .i64 ((T.cell i c).den:Int))) ((first|exact ⟨a8O,h1,h2⟩|exact ⟨bB di.out HR.out.rows,bB di.out (HR.out.num i c hik hc),bB di.out (HR.out.den i c hik hc)⟩)) ((first|(go_at_call 114;(with_reducible refine (HC.out _).mono ?_);rintro e w1 ⟨rfl,hb1⟩;have xN:=Aside0.mk (ah (aI xN.out) hb1);have di:=Aside0.mk (aj (ak Zd.out) hb1))))
   by_cases hz:T.cell i c=0
   ·have hz1:jX (T.cell i c)=0:=sK.2 hz
    have CE:Aside0 (ng T m c 0 K=ng T m c (k+1) (K -(k+1))):=⟨by rw [IJ.out,if_pos hz]⟩
    have hz2:(jX (T.cell i c) !=0)=false:=by rw [hz1];rfl
    clear hz hz1 IJ
    generalize jX (T.cell i c)=z at*
    go_wp2
    go_roundw
    case rel=>exact ⟨k+1,by rw [oW.out],by omega,CE,xN.out⟩
    case measure=>rw [oW.out];simp [intOf];omega
   ·have hz1:jX (T.cell i c)≠0:=fun h=>hz (sK.1 h)
    have CE:Aside0 (ng T m c 0 K=jX (T.cell i c)):=⟨by rw [IJ.out,if_neg hz]⟩
    have hz2:(jX (T.cell i c) !=0)=true:=bne_iff_ne.mpr hz1
    clear hz hz1 IJ
    generalize jX (T.cell i c)=z at*
    go_wp2
    go_ret
    exact ⟨by rw [CE.out];first|done|rfl,xN.out⟩
  ·have Ze:k=K:=by omega
   have CE:Aside0 (ng T m c 0 K=0):=⟨by rw [HE.out,Ze,Nat.sub_self];rfl⟩
   subst Ze
   have xN:=Aside0.mk hb
   clear HE hb zO
   go_wp2
   go_ret
   exact ⟨by rw [CE.out];first|done|rfl,xN.out⟩
structure mB (D C:Nat) (m N K:Nat) (T:bA):Prop where
 ex:∃d:Int,d≠0/\d.natAbs<=D/\(∀r,r<m->∀j,j<=N->∃a:Int,T.cell r j*(d:Rat)=(a:Rat)/\a.natAbs<=D)/\(∀k,k<K->∀j,j<N->∃a:Int,T.cell (m+k) j*(d:Rat)=(a:Rat)/\a.natAbs<=C)/\(∀k,k<K->∃a:Int,T.cell (m+k) N*(d:Rat)=(a:Rat)/\a.natAbs<=100000)
 dd:D*D<=1000000
 dc:C*D<=1000000
 d1:D<=1000
 c1:C<=100000
def put (T:bA) (i j:Nat) (q:Rat):bA:= {T with cell:=fun i' j'=>if i'=i/\j'=j then q else T.cell i' j'}
theorem ic.congr {cs:Array Value} {m N K:Nat} {T T':bA} (h:ic cs m N K T) (e:∀i j,i<m+K->j<=N->T'.cell i j=T.cell i j) (eb:∀r,r<m->T'.basis r=T.basis r):ic cs m N K T':=
 ⟨h.size,h.one,fun i j hi hj=>by rw [e i j hi hj];exact h.num i j hi hj,fun i j hi hj=>by rw [e i j hi hj];exact h.den i j hi hj,fun r hr=>by rw [eb r hr];exact h.fG r hr,h.rows,h.od,h.costs,h.hm,h.hN⟩
theorem ry {cs:Array Value} {k:Nat} {v:Value} (h:cs.all (·.oneCell')=true) (hv:v.oneCell'=true):(cs.setIfInBounds k v).all (·.oneCell')=true:=by
 rw [Array.all_eq_true_iff_forall_mem] at*
 intro x hx
 rcases Array.mem_or_eq_of_mem_setIfInBounds hx with h1|h1
 ·exact h x h1
 ·rw [h1];exact hv
theorem heap_set {W:World} {B k:Nat} {v:Value} {cs:Array Value} {t:TypeId} (h:W.heap[B]? =some (.cells cs t (0,0))):(W.setCell ⟨B,k,none⟩ v).heap[B]? =some (.cells (cs.setIfInBounds k v) t (0,0)):=by
 show (W.heap.modify B _)[B]? =_
 rw [Array.getElem?_modify,if_pos rfl,h]
 rfl
theorem ic.put {cs:Array Value} {m N K:Nat} {T:bA} (h:ic cs m N K T) {i j:Nat} (hi:i<m+K) (hj:j<=N) (q:Rat):
 ic ((cs.setIfInBounds (i*32+j*2) (.int .i64 q.num)).setIfInBounds (i*32+j*2+1) (.int .i64 (q.den:Int))) m N K (PT.put T i j q):=by
 have hs:=h.size
 have hm:=h.hm
 have hN:=h.hN
 have far:∀k,512<=k->((cs.setIfInBounds (i*32+j*2) (.int .i64 q.num)).setIfInBounds (i*32+j*2+1) (.int .i64 (q.den:Int)))[k]? =cs[k]? :=by
  intro k hk
  rw [Array.getElem?_setIfInBounds_ne (by omega),Array.getElem?_setIfInBounds_ne (by omega)]
 refine ⟨by simp [hs],ry (ry h.one rfl) rfl,fun i' j' hi' hj'=>?_,fun i' j' hi' hj'=>?_,fun r hr=>?_,?_,?_,?_,hm,hN⟩
 ·by_cases e:i'=i/\j'=j
  ·obtain ⟨rfl,rfl⟩:=e
   rw [Array.getElem?_setIfInBounds_ne (by omega),Array.getElem?_setIfInBounds,if_pos rfl,if_pos (by omega)]
   simp [PT.put]
  ·rw [Array.getElem?_setIfInBounds_ne (by omega),Array.getElem?_setIfInBounds_ne (by omega),h.num i' j' hi' hj']
   simp only [PT.put];rw [if_neg e]
 ·by_cases e:i'=i/\j'=j
  ·obtain ⟨rfl,rfl⟩:=e
   rw [Array.getElem?_setIfInBounds,if_pos rfl,if_pos (by simp;omega)]
   simp [PT.put]
  ·rw [Array.getElem?_setIfInBounds_ne (by omega),Array.getElem?_setIfInBounds_ne (by omega),h.den i' j' hi' hj']
   simp only [PT.put];rw [if_neg e]
 ·rw [far _ (by omega)];exact h.fG r hr
 ·rw [far _ (by omega)];exact h.rows
 ·rw [far _ (by omega)];exact h.od
 ·rw [far _ (by omega)];exact h.costs
theorem qi (w:World) (o:Obj):(w.alloc o).heap.size=w.heap.size+1:=Array.size_push _
def tI (T:bA) (r c j:Nat):bA:= {T with cell:=fun i' j'=>if i'=r/\j'<j then T.cell r j'/T.cell r c else T.cell i' j'}
theorem Wm (T:bA) (r c:Nat):tI T r c 0=T:=by
 unfold tI;congr 1;funext i' j';rw [if_neg (by omega)]
theorem Wn (T:bA) (r c j:Nat):put (tI T r c j) r j (T.cell r j/T.cell r c)=tI T r c (j+1):=by
 unfold put tI;congr 1;funext i' j'
 by_cases h:i'=r/\j'=j
 ·rw [if_pos h,if_pos ⟨h.1,by omega⟩,h.2]
 ·rw [if_neg h]
  by_cases h2:i'=r/\j'<j
  ·show (if i'=r/\j'<j then _ else _)=_
   rw [if_pos h2,if_pos ⟨h2.1,by omega⟩]
  ·show (if i'=r/\j'<j then _ else _)=_
   rw [if_neg h2,if_neg (by omega)]
theorem bz {W:World} {B g k:Nat} {v:Value} {o:Obj} (h:W.heap[g]? =some o) (hne:g≠B):(W.setCell ⟨B,k,none⟩ v).heap[g]? =some o:=by
 show (W.heap.modify B _)[g]? =_
 rw [Array.getElem?_modify,if_neg (fun e=>hne e.symm)]
 exact h
theorem sL {W:World} {g:Nat} {old cs:Array Value} {t:TypeId} (h:W.heap[g]? =some (.cells old t (0,0))):(W.setRow g cs).heap[g]? =some (.cells cs t (0,0)):=by
 show (W.heap.modify g _)[g]? =_
 rw [Array.getElem?_modify,if_pos rfl,h]
 rfl
theorem uy {W:World} {g k:Nat} {o:Obj} {cs:Array Value} (h:W.heap[k]? =some o) (hne:k≠g):(W.setRow g cs).heap[k]? =some o:=by
 show (W.heap.modify g _)[k]? =_
 rw [Array.getElem?_modify,if_neg (fun e=>hne e.symm)]
 exact h
theorem qG {B:Nat} {w W:World} {g:Nat} {cs:Array Value} (h:Below B w W) (hg:B<=g):Below B w (W.setRow g cs):=
 ⟨h.os,h.tape,h.output,by show _<=(W.heap.modify g _).size;rw [Array.size_modify];exact h.size,fun k hk=>by
  show (W.heap.modify g _)[k]? =_
  rw [Array.getElem?_modify,if_neg (by omega)]
  exact h.block k hk⟩
def st (T:bA) (r c i j:Nat):bA:= {T with cell:=fun i' j'=>if i'=r∨i'<i∨(i'=i/\j'<j) then (T.pivot r c).cell i' j' else T.cell i' j'}
theorem a1K {cs:Array Value} {m N K r c:Nat} {T:bA} (h:ic cs m N K (tI T r c (N+1))):ic cs m N K (st T r c 0 0):=by
 refine h.congr (fun i' j' _ hj=>?_) (fun _ _=>rfl)
 simp only [st,tI,bA.pivot]
 by_cases e:i'=r
 ·rw [if_pos (.inl e),if_pos e,if_pos ⟨e,by omega⟩]
 ·rw [if_neg (by omega),if_neg (by omega)]
theorem TY {cs:Array Value} {m N K r c i:Nat} {T:bA} (h:ic cs m N K (st T r c i 0)) (hs:i=r∨T.cell i c=0):ic cs m N K (st T r c (i+1) 0):=by
 refine h.congr (fun i' j' _ hj=>?_) (fun _ _=>rfl)
 simp only [st]
 by_cases e:i'=r∨i'<i
 ·rw [if_pos (by omega),if_pos (by omega)]
 ·rw [if_neg (show ¬(i'=r∨i'<i∨i'=i/\j'<0) by omega)]
  by_cases e2:i'=i
  ·subst e2
   rw [if_pos (by omega)]
   have h0:T.cell i' c=0:=hs.resolve_left (by omega)
   simp only [bA.pivot];rw [if_neg (show ¬i'=r by omega),h0]
   grind
  ·rw [if_neg (by omega)]
theorem a6v {cs:Array Value} {m N K r c i:Nat} {T:bA} (h:ic cs m N K (st T r c i (N+1))):ic cs m N K (st T r c (i+1) 0):=by
 refine h.congr (fun i' j' _ hj=>?_) (fun _ _=>rfl)
 simp only [st]
 by_cases e:i'=r∨i'<i∨i'=i
 ·rw [if_pos (by omega),if_pos (by omega)]
 ·rw [if_neg (by omega),if_neg (by omega)]
theorem a8P {T:bA} {r c i j:Nat}:put (st T r c i j) i j ((T.pivot r c).cell i j)=st T r c i (j+1):=by
 unfold put st;congr 1;funext i' j'
 by_cases h:i'=i/\j'=j
 ·rw [if_pos h,if_pos (by omega),h.1,h.2]
 ·rw [if_neg h]
  by_cases h2:i'=r∨i'<i∨(i'=i/\j'<j)
  ·show (if i'=r∨i'<i∨(i'=i/\j'<j) then _ else _)=_
   rw [if_pos h2,if_pos (by omega)]
  ·show (if i'=r∨i'<i∨(i'=i/\j'<j) then _ else _)=_
   rw [if_neg h2,if_neg (by omega)]
theorem a8Q {cs:Array Value} {m N K r c:Nat} {T:bA} (h:ic cs m N K (st T r c (m+K) 0)) (hr:r<m):ic (cs.setIfInBounds (512+r) (.int .i64 (c:Int))) m N K (T.pivot r c):=by
 have hs:=h.size
 have hm:=h.hm
 have hN:=h.hN
 refine ⟨by simp [hs],ry h.one rfl,fun i' j' hi' hj'=>?_,fun i' j' hi' hj'=>?_,fun r' hr'=>?_,?_,?_,?_,hm,hN⟩
 ·rw [Array.getElem?_setIfInBounds_ne (by omega),h.num i' j' hi' hj']
  simp only [st];rw [if_pos (by omega)]
 ·rw [Array.getElem?_setIfInBounds_ne (by omega),h.den i' j' hi' hj']
  simp only [st];rw [if_pos (by omega)]
 ·by_cases e:r'=r
  ·subst e
   rw [Array.getElem?_setIfInBounds,if_pos rfl,if_pos (by omega)]
   simp [bA.pivot]
  ·rw [Array.getElem?_setIfInBounds_ne (by omega),h.fG r' hr']
   simp [st,bA.pivot,e]
 ·rw [Array.getElem?_setIfInBounds_ne (by omega)];exact h.rows
 ·rw [Array.getElem?_setIfInBounds_ne (by omega)];exact h.od
 ·rw [Array.getElem?_setIfInBounds_ne (by omega)];exact h.costs
theorem mB.row {D C m N K:Nat} {T:bA} (h:mB D C m N K T) {r j:Nat} (hr:r<m) (hj:j<=N):Qu D D (T.cell r j):=by
 obtain ⟨d,h0,h1,h2,_⟩:=h.ex
 obtain ⟨a,e,b⟩:=h2 r hr j hj
 exact ⟨a,d,h0,e,b,h1⟩
theorem mB.any {D C m N K:Nat} {T:bA} (h:mB D C m N K T) {i j:Nat} (hi:i<m+K) (hj:j<=N):Qu 100000 D (T.cell i j):=by
 obtain ⟨d,h0,h1,h2,h3,h4⟩:=h.ex
 by_cases e:i<m
 ·obtain ⟨a,e,b⟩:=h2 i e j hj
  exact ⟨a,d,h0,e,by have:=h.d1;omega,h1⟩
 ·have e2:i=m+(i - m):=by omega
  rw [e2]
  by_cases e3:j<N
  ·obtain ⟨a,e,b⟩:=h3 (i - m) (by omega) j e3
   exact ⟨a,d,h0,e,by have:=h.c1;omega,h1⟩
  ·have e4:j=N:=by omega
   rw [e4]
   obtain ⟨a,e,b⟩:=h4 (i - m) (by omega)
   exact ⟨a,d,h0,e,b,h1⟩
theorem mB.Zf {D C m N K:Nat} {T:bA} (h:mB D C m N K T) {i j:Nat} (hi:i<m+K) (hj:j<=N):Ok (T.cell i j):=
 Qu.ok (h.any hi hj) (by omega) (by have:=h.d1;omega)
theorem mB.quot {D C m N K:Nat} {T:bA} (h:mB D C m N K T) {r j c:Nat} (hr:r<m) (hj:j<=N) (hc:c<=N) (hp:T.cell r c≠0):Qu D D (T.cell r j/T.cell r c):=by
 obtain ⟨d,h0,h1,h2,_⟩:=h.ex
 obtain ⟨a,e,b⟩:=h2 r hr j hj
 obtain ⟨a',e',b'⟩:=h2 r hr c hc
 have hd:(d:Rat)≠0:=KI h0
 refine ⟨a,a',?_,?_,b,b'⟩
 ·intro h3;rw [h3] at e';apply hp
  have:T.cell r c*(d:Rat)=0:=e'
  grind
 ·rw [<-e,<-e'];grind
theorem mB.prod {D C m N K:Nat} {T:bA} (h:mB D C m N K T) {i r j c:Nat} (hr:r<m) (hj:j<=N) (hc:c<N) (hi:i<m+K) (hp:T.cell r c≠0):Ok (T.cell i c*(T.cell r j/T.cell r c)):=by
 have hq:=h.quot hr hj (Nat.le_of_lt hc) hp
 obtain ⟨d,h0,h1,h2,h3,h4⟩:=h.ex
 by_cases e:i<m
 ·obtain ⟨a,e,b⟩:=h2 i e c (Nat.le_of_lt hc)
  exact Qu.ok (Qu.mul ⟨a,d,h0,e,b,h1⟩ hq) h.dd h.dd
 ·have e2:i=m+(i - m):=by omega
  obtain ⟨a,e,b⟩:=h3 (i - m) (by omega) c hc
  rw [<-e2] at e
  exact Qu.ok (Qu.mul ⟨a,d,h0,e,b,h1⟩ hq) h.dc h.dd
theorem Sz.mono {a b a' b':Nat} {x:Rat} (h:Sz a b x) (ha:a<=a') (hb:b<=b'):Sz a' b' x:=⟨Nat.le_trans h.n ha,Nat.le_trans h.d hb⟩
set_option maxHeartbeats 1000000 in
set_option maxRecDepth 100000 in
theorem IK (D C m N K r c:Nat) (T:bA) (cs:Array Value) (w:World) (hR:ic cs m N K T) (hr:r<m) (hc:c<N) (hp:T.cell r c≠0) (hF:mB D C m N K T) (hF':mB D C m N K (T.pivot r c)):
 Calls Try.prog 78 #[.agg cs,.int .i64 (r:Int),.int .i64 (c:Int)] w fun e w'=>∃cs',e= .returned (.agg cs')/\ic cs' m N K (T.pivot r c)/\Below w.heap.size w w':=by
 have hu:=Try.underlying79
 have q1:=hR.num r c (by omega) (by omega)
 have q2:=hR.den r c (by omega) (by omega)
 have b0:(0:Int)<=(r:Int):=by omega
 have b1:(r:Int)<16:=by have:=hR.hm;omega
 have b2:(0:Int)<=(c:Int):=by omega
 have b3:(c:Int)<16:=by have:=hR.hN;omega
 have HR:=Aside0.mk hR
 clear hR
 go_enter Try.func78,Try.ntmps78
 go_wp2
 have xN:Aside0 (Below w.heap.size w (((w.alloc (.cells cs 79)).alloc (.cells Try.zeroCells79 79)).alloc (.cells #[.int .i64 (T.cell r c).num,.int .i64 ((T.cell r c).den:Int)] 34))):=⟨aT (aT (aT (Below.refl _ _) _) _) _⟩
 have HT0:Aside0 ((((w.alloc (.cells cs 79)).alloc (.cells Try.zeroCells79 79)).alloc (.cells #[.int .i64 (T.cell r c).num,.int .i64 ((T.cell r c).den:Int)] 34)).heap[w.heap.size]? =some (.cells cs 79 (0,0))):=⟨ai (ai (dn w _) _) _⟩
 have Zg:Aside0 ((((w.alloc (.cells cs 79)).alloc (.cells Try.zeroCells79 79)).alloc (.cells #[.int .i64 (T.cell r c).num,.int .i64 ((T.cell r c).den:Int)] 34)).heap[w.heap.size+1]? =some (.cells Try.zeroCells79 79 (0,0))):=⟨ai (by have:=dn (w.alloc (.cells cs 79)) (.cells Try.zeroCells79 79);rw [qi] at this;exact this) _⟩
 have qH:Aside0 ((((w.alloc (.cells cs 79)).alloc (.cells Try.zeroCells79 79)).alloc (.cells #[.int .i64 (T.cell r c).num,.int .i64 ((T.cell r c).den:Int)] 34)).heap[w.heap.size+1+1]? =some (.cells #[.int .i64 (T.cell r c).num,.int .i64 ((T.cell r c).den:Int)] 34 (0,0))):=⟨by have:=dn ((w.alloc (.cells cs 79)).alloc (.cells Try.zeroCells79 79)) (.cells #[.int .i64 (T.cell r c).num,.int .i64 ((T.cell r c).den:Int)] 34);rw [qi,qi] at this;exact this⟩
 generalize (((w.alloc (.cells cs 79)).alloc (.cells Try.zeroCells79 79)).alloc (.cells #[.int .i64 (T.cell r c).num,.int .i64 ((T.cell r c).den:Int)] 34))=w3 at*
 have HF:=Aside0.mk hF
 have HF':=Aside0.mk hF'
 have HP:=Aside0.mk hp
 clear hF hF' hp q1 q2
 go_loopw [8] (fun jv wr=>∃(j:Nat) (cs1:Array Value),jv= .int .i64 (j:Int)/\j<=N+1/\Aside0 (wr.heap[w.heap.size]? =some (.cells cs1 79 (0,0)))/\Aside0 (ic cs1 m N K (tI T r c j))/\Aside0 (wr.heap[w.heap.size+1]? =some (.cells Try.zeroCells79 79 (0,0)))/\Aside0 (wr.heap[w.heap.size+1+1]? =some (.cells #[.int .i64 (T.cell r c).num,.int .i64 ((T.cell r c).den:Int)] 34 (0,0)))/\Aside0 (Below w.heap.size w wr)) (fun jv _=>N+1 -(intOf jv).toNat)
 case atStart=>exact ⟨0,cs,rfl,by omega,HT0,⟨by rw [Wm];exact HR.out⟩,Zg,qH,xN⟩
 case round=>
  obtain ⟨j,cs1,rfl,hj,HA,HS,fB,ji,cO⟩:=hrel
  by_cases hlt:j<=N
  ·have h0:=bB HA.out HS.out.od
   have h1:=bB HA.out (HS.out.num r j (by omega) hlt)
   have h2:=bB HA.out (HS.out.den r j (by omega) hlt)
   have e1:(tI T r c j).cell r j=T.cell r j:=by simp only [tI];rw [if_neg (by omega)]
   rw [e1] at h1 h2
   have h3:=(ag ji.out 0).trans rfl
   have h4:=(ag ji.out 1).trans rfl
   have HC:=Aside0.mk (fun W=>CD W (Qu.sz (HF.out.row hr hlt)) (Qu.sz (HF.out.row hr (Nat.le_of_lt hc))) (by have:=HF.out.dd;omega) (by have:=HF.out.dd;omega) HP.out (Qu.ok (HF.out.quot hr hlt (Nat.le_of_lt hc) HP.out) (by have:=HF.out.d1;omega) (by have:=HF.out.d1;omega)))
   have g0:(0:Int)<=(j:Int):=by omega
   have g1:(j:Int)<16:=by have:=HS.out.hN;omega
   have g2:decide ((j:Int)<=(N:Int))=true:=decide_eq_true (by omega)
   have oW:Aside0 (wrap64 ((j:Int)+1)=((j+1:Nat):Int)):=⟨dQ (by have:=HS.out.hN;omega)⟩
   have hm:=Qm
   go_wp2
   have gw:=Aside0.mk (ak HA.out)
   have gM:=Aside0.mk (ak fB.out)
   have a8R:=Aside0.mk (ak ji.out)
   have fS:=Aside0.mk (aI cO.out)
   clear HA fB ji cO
   refine fL (n:=15) (S:=fun w'=>w'.cell? ⟨w.heap.size,r*32+j*2,none⟩=some (.int .i64 (T.cell r j).num)/\w'.cell? ⟨w.heap.size,r*32+j*2+1,none⟩=some (.int .i64 ((T.cell r j).den:Int))/\w'.cell? ⟨w.heap.size+1+1,0,none⟩=some (.int .i64 (T.cell r c).num)/\w'.cell? ⟨w.heap.size+1+1,1,none⟩=some (.int .i64 ((T.cell r c).den:Int))) (ds:=[14]) #[false,false,false,false,false,false,false,false,false,false,false,false,false,false,false] (by kernel_rfl) rfl rfl ⟨h1,h2,h3,h4⟩ (fun hHeld=>?_)
   generalize wr.drew=w4 at*
   refine bl (i:=0) (N:=some 24) ?_
   refine bl (i:=1) (N:=some 25) ?_
   refine bl (i:=2) (N:=some 26) ?_
   refine bl (i:=3) (N:=some 27) ?_
   refine bl (i:=4) (N:=some 28) ?_
   refine bl (i:=5) (N:=some 29) ?_
   refine bl (i:=6) (N:=some 30) ?_
   refine dS (i:=7) (N:=some 31) (v:=?_) (a':=?_) #[true,true,true,true,true,true,true,true,false,false,false,false,false,false,false] rfl rfl (by kernel_rfl) (fun _ _ _ h=>h) (Or.inl ⟨by rfl,?_⟩) hHeld ?_ ?_
   rotate_left
   ·rintro w' ⟨s0,s1,s2,s3⟩
    go_simp
    with_reducible rfl
   rotate_left
   ·exact fj
   refine bl (i:=8) (N:=some 32) ?_
   refine dS (i:=9) (N:=some 33) (v:=?_) (a':=?_) #[true,true,true,true,true,true,true,true,true,true,false,false,false,false,false] rfl rfl (by kernel_rfl) (fun _ _ _ h=>h) (Or.inl ⟨by rfl,?_⟩) hHeld ?_ ?_
   rotate_left
   ·rintro w' ⟨s0,s1,s2,s3⟩
    go_simp
    with_reducible rfl
   rotate_left
   ·exact fj
   refine bl (i:=11) (N:=some 35) ?_
   refine bl (i:=12) (N:=some 36) ?_
   refine gj (i:=10) (N:=some 34) #[true,true,true,true,true,true,true,true,true,true,true,true,true,false,false] rfl rfl (by kernel_rfl) (by decide) (fun K hK=>?_)
   refine tu 113 #[V (T.cell r j),V (T.cell r c)] (by rfl) rfl ?_ ?_
   ·go_simp
   refine (HC.out _).mono ?_
   rintro e w5 ⟨rfl,jN⟩
   have wP:=Aside0.mk (aj gw.out jN)
   have a8S:=Aside0.mk (aj gM.out jN)
   have Wo:=Aside0.mk (aj a8R.out jN)
   have qI:=Aside0.mk (ah fS.out jN)
   clear jN gw gM a8R fS h0 h1 h2 h3 h4 HC
   have h1:=bB wP.out (HS.out.num r j (by omega) hlt)
   have h2:=bB wP.out (HS.out.den r j (by omega) hlt)
   rw [e1] at h1 h2
   refine ⟨_,rfl,?_⟩
   refine hK.out _ _ ⟨h1,h2,(ag Wo.out 0).trans rfl,(ag Wo.out 1).trans rfl⟩ (fun hHeld=>?_)
   clear hK K hHeld
   refine fq (a':=?_) ?_ ?_
   rotate_left
   ·show Act.put _ (some 34) _=_
    simp only [Act.put,List.setIfInBounds_toArray,List.set_cons_zero,List.set_cons_succ,dJ,eD]
    rfl
   refine bl (i:=13) (N:=some 37) ?_
   refine rf (i:=14) (N:=none) #[true,true,true,true,true,true,true,true,true,true,true,true,true,true,true] rfl rfl (by kernel_rfl) (by decide) (fun K hK=>?_)
   have pW:=af wP.out (r*32+j*2)
   have hf2:=af wP.out (r*32+j*2+1)
   refine lO (w1:=?_) (by rfl) rfl ?_ ?_
   rotate_left
   ·go_simp
    rfl
   refine hK.out _ _ ?_
   clear hK K
   refine gU (by kernel_rfl) ?_
   have yG:Aside0 (((w5.setCell ⟨w.heap.size,r*32+j*2,none⟩ (.int .i64 (T.cell r j/T.cell r c).num)).setCell ⟨w.heap.size,r*32+j*2+1,none⟩ (.int .i64 ((T.cell r j/T.cell r c).den:Int))).heap[w.heap.size]? =some (.cells ((cs1.setIfInBounds (r*32+j*2) (.int .i64 (T.cell r j/T.cell r c).num)).setIfInBounds (r*32+j*2+1) (.int .i64 ((T.cell r j/T.cell r c).den:Int))) 79 (0,0))):=⟨heap_set (heap_set wP.out)⟩
   have a1L:Aside0 (((w5.setCell ⟨w.heap.size,r*32+j*2,none⟩ (.int .i64 (T.cell r j/T.cell r c).num)).setCell ⟨w.heap.size,r*32+j*2+1,none⟩ (.int .i64 ((T.cell r j/T.cell r c).den:Int))).heap[w.heap.size+1]? =some (.cells Try.zeroCells79 79 (0,0))):=⟨bz (bz a8S.out (by omega)) (by omega)⟩
   have b6K:Aside0 (((w5.setCell ⟨w.heap.size,r*32+j*2,none⟩ (.int .i64 (T.cell r j/T.cell r c).num)).setCell ⟨w.heap.size,r*32+j*2+1,none⟩ (.int .i64 ((T.cell r j/T.cell r c).den:Int))).heap[w.heap.size+1+1]? =some (.cells #[.int .i64 (T.cell r c).num,.int .i64 ((T.cell r c).den:Int)] 34 (0,0))):=⟨bz (bz Wo.out (by omega)) (by omega)⟩
   have BK:Aside0 (Below w.heap.size w ((w5.setCell ⟨w.heap.size,r*32+j*2,none⟩ (.int .i64 (T.cell r j/T.cell r c).num)).setCell ⟨w.heap.size,r*32+j*2+1,none⟩ (.int .i64 ((T.cell r j/T.cell r c).den:Int)))):=⟨bR (bR qI.out (Nat.le_refl _)) (Nat.le_refl _)⟩
   have Zh:Aside0 (ic ((cs1.setIfInBounds (r*32+j*2) (.int .i64 (T.cell r j/T.cell r c).num)).setIfInBounds (r*32+j*2+1) (.int .i64 ((T.cell r j/T.cell r c).den:Int))) m N K (tI T r c (j+1))):=⟨by rw [<-Wn];exact HS.out.put (by omega) hlt _⟩
   clear wP a8S Wo qI HS h1 h2 pW hf2 e1
   generalize (w5.setCell ⟨w.heap.size,r*32+j*2,none⟩ (.int .i64 (T.cell r j/T.cell r c).num)).setCell ⟨w.heap.size,r*32+j*2+1,none⟩ (.int .i64 ((T.cell r j/T.cell r c).den:Int))=w6 at*
   generalize (cs1.setIfInBounds (r*32+j*2) (.int .i64 (T.cell r j/T.cell r c).num)).setIfInBounds (r*32+j*2+1) (.int .i64 ((T.cell r j/T.cell r c).den:Int))=CF at*
   go_wp2
   go_roundw
   case rel=>exact ⟨j+1,CF,by first|(rw [oW.out];done)|rfl|(simp;done),by omega,yG,Zh,a1L,b6K,BK⟩
   case measure=>(try rw [oW.out]);simp [intOf];omega
  ·have Qo:j=N+1:=by omega
   have h0:=bB HA.out HS.out.od
   have g2:decide ((j:Int)<=(N:Int))=false:=decide_eq_false (by omega)
   rw [Qo] at HS
   clear Qo
   go_wp2
   clear hj hlt
   have HS0:=Aside0.mk (a1K HS.out)
   clear h0 HS ji g2 xN HT0 Zg qH
   go_loopw [9] (fun iv wi=>∃(i:Nat) (iy:Array Value),iv= .int .i64 (i:Int)/\i<=m+K/\Aside0 (wi.heap[w.heap.size]? =some (.cells iy 79 (0,0)))/\Aside0 (ic iy m N K (st T r c i 0))/\Aside0 (wi.heap[w.heap.size+1]? =some (.cells Try.zeroCells79 79 (0,0)))/\Aside0 (Below w.heap.size w wi)) (fun iv _=>m+K -(intOf iv).toNat)
   case atStart=>exact ⟨0,cs1,rfl,Nat.zero_le _,HA,HS0,fB,cO⟩
   case round=>
    clear HA fB cO HS0
    obtain ⟨i,iy,rfl,hi,HA,HS,fB,cO⟩:=hrel
    obtain ⟨mk,hmk⟩:∃mk,mk=m+K:=⟨_,rfl⟩
    have hw:IntKind.i64.wrap ((m:Int)+(K:Int))=(mk:Int):=by rw [hmk];have:=HS.out.hm;rw [dJ,cW (by omega) (by omega)];rfl
    have h0:=bB HA.out HS.out.rows
    have h00:=bB HA.out HS.out.costs
    by_cases hlt:i<m+K
    ·have g2:decide ((i:Int)<(mk:Int))=true:=decide_eq_true (by omega)
     have h1:=bB HA.out (HS.out.num i c hlt (by omega))
     have h2:=bB HA.out (HS.out.den i c hlt (by omega))
     have g0:(0:Int)<=(i:Int):=by omega
     have g1:(i:Int)<16:=by have:=HS.out.hm;omega
     have oW:Aside0 (wrap64 ((i:Int)+1)=((i+1:Nat):Int)):=⟨dQ (by have:=HS.out.hm;omega)⟩
     have hm:=zN
     have BL:decide (i<mk)=true:=decide_eq_true (by omega)
     have hlt':=Aside0.mk hlt
     have HMK:=Aside0.mk hmk
     clear hmk
     by_cases wS:i=r
     ·have g3:((i:Int)==(r:Int))=true:=by rw [wS];simp
      have jY:=Aside0.mk (TY HS.out (.inl wS))
      have g2':decide ((r:Int)<(mk:Int))=true:=by rw [<-wS];exact g2
      have Zi:=Aside0.mk wS
      have g2n':decide (r<mk)=true:=by rw [<-wS];exact BL
      have Qp:=h1
      have TZ:=h2
      generalize (st T r c i 0).cell i c=q at*
      rw [wS] at Qp TZ
      clear wS HS hlt
      go_wp2
      go_roundw
      case rel=>exact ⟨i+1,iy,by first|(rw [oW.out];done)|rfl|(simp;done)|(rw [Zi.out];first|rfl|(simp;done)),hlt'.out,⟨ai HA.out _⟩,jY,⟨ai fB.out _⟩,⟨aT cO.out _⟩⟩
      case measure=>(try rw [oW.out]);have:=hlt'.out;simp [intOf];omega
     ·have g3:((i:Int)==(r:Int))=false:=by rw [beq_eq_false_iff_ne];omega
      have hq:(st T r c i 0).cell i c=T.cell i c:=by simp only [st];rw [if_neg (by omega)]
      rw [hq] at h1 h2
      have HQ:=Aside0.mk hq
      clear hq
      have HC:=Aside0.mk (fun W=>xM (T.cell i c) W)
      by_cases hz:T.cell i c=0
      ·have jY:=Aside0.mk (TY HS.out (.inr hz))
       have g4:(jX (T.cell i c)==0)=true:=by rw [sK.2 hz];rfl
       clear HS hlt hz
       have Zi:=Aside0.mk wS
       clear wS
       go_wp2_with (first|(go_at_call 114;(with_reducible refine (HC.out _).mono ?_);rintro e w1 ⟨rfl,hb1⟩;have gw:=Aside0.mk (aj (ai HA.out _) hb1);have gM:=Aside0.mk (aj (ai fB.out _) hb1);have fS:=Aside0.mk (ah (aT cO.out _) hb1);clear hb1))
       go_roundw
       case rel=>exact ⟨i+1,iy,by first|(rw [oW.out];done)|rfl|(simp;done),hlt'.out,gw,jY,gM,fS⟩
       case measure=>(try rw [oW.out]);have:=hlt'.out;simp [intOf];omega
      ·have g4:(jX (T.cell i c)==0)=false:=beq_eq_false_iff_ne.mpr (fun h=>hz (sK.1 h))
       have Zi:=Aside0.mk wS
       have Qq:Aside0 ((wr.alloc (.cells #[.int .i64 (T.cell i c).num,.int .i64 ((T.cell i c).den:Int)] 34)).heap[wr.heap.size]? =some (.cells #[.int .i64 (T.cell i c).num,.int .i64 ((T.cell i c).den:Int)] 34 (0,0))):=⟨dn wr _⟩
       have HSZ:Aside0 (w.heap.size+1<wr.heap.size):=⟨(Array.getElem?_eq_some_iff.1 fB.out).1⟩
       clear wS hz
       go_wp2_with (first|(go_at_call 114;(with_reducible refine (HC.out _).mono ?_);rintro e w1 ⟨rfl,hb1⟩;have gw:=Aside0.mk (aj (ai HA.out _) hb1);have gM:=Aside0.mk (aj (ai fB.out _) hb1);have fS:=Aside0.mk (ah (aT cO.out _) hb1);have Qr:=Aside0.mk (aj Qq.out hb1);clear hb1))
       clear HA fB cO Qq HC h0 h00 h1 h2 g4
       generalize wr.heap.size=g at*
       go_loopw [11] (fun jv wj=>∃(j:Nat) (EP:Array Value),jv= .int .i64 (j:Int)/\j<=N+1/\Aside0 (wj.heap[w.heap.size]? =some (.cells EP 79 (0,0)))/\Aside0 (ic EP m N K (st T r c i j))/\Aside0 (wj.heap[w.heap.size+1]? =some (.cells Try.zeroCells79 79 (0,0)))/\Aside0 (wj.heap[g]? =some (.cells #[.int .i64 (T.cell i c).num,.int .i64 ((T.cell i c).den:Int)] 34 (0,0)))/\Aside0 (Below w.heap.size w wj)) (fun jv _=>N+1 -(intOf jv).toNat)
       case atStart=>exact ⟨0,iy,rfl,Nat.zero_le _,gw,HS,gM,Qr,fS⟩
       case round=>
        clear gw gM Qr fS HS
        obtain ⟨j,EP,rfl,hj3,HA,HS,fB,Qq,cO⟩:=hrel
        have h0:=bB HA.out HS.out.od
        by_cases BM:j<=N
        ·have e1:(st T r c i j).cell i j=T.cell i j:=by simp only [st];rw [if_neg (by have:=Zi.out;omega)]
         have e2:(st T r c i j).cell r j=T.cell r j/T.cell r c:=by simp [st,bA.pivot]
         have e3:(T.pivot r c).cell i j=T.cell i j - T.cell i c*(T.cell r j/T.cell r c):=by simp only [bA.pivot];rw [if_neg Zi.out]
         have h1:=bB HA.out (HS.out.num i j hlt'.out BM)
         have h2:=bB HA.out (HS.out.den i j hlt'.out BM)
         have h3:=bB HA.out (HS.out.num r j (by omega) BM)
         have h4:=bB HA.out (HS.out.den r j (by omega) BM)
         rw [e1] at h1 h2
         rw [e2] at h3 h4
         have h5:=(ag Qq.out 0).trans rfl
         have h6:=(ag Qq.out 1).trans rfl
         have HQ1:=Aside0.mk (mB.prod HF.out hr BM hc hlt'.out HP.out)
         have ER:=Aside0.mk (mB.Zf HF'.out hlt'.out BM)
         rw [e3] at ER
         have gb:=Aside0.mk (fun W=>a6s W (Qu.sz (HF.out.any hlt'.out (Nat.le_of_lt hc))) (Qu.sz (HF.out.quot hr BM (Nat.le_of_lt hc) HP.out)) (by have:=HF.out.d1;have:=Nat.mul_le_mul_left 100000 this;omega) (by have:=HF.out.dd;omega) HQ1.out)
         have jZ:=Aside0.mk (fun W=>Lg W (Qu.sz (HF.out.any hlt'.out BM)) (Ok.sz HQ1.out) (by have:=HF.out.d1;omega) (by have:=HF.out.d1;omega) ER.out)
         have g5:(0:Int)<=(j:Int):=by omega
         have g6:(j:Int)<16:=by have:=HS.out.hN;omega
         have g7:decide ((j:Int)<=(N:Int))=true:=decide_eq_true (by omega)
         have g7n:decide (j<=N)=true:=decide_eq_true (by omega)
         have rL:Aside0 (wrap64 ((j:Int)+1)=((j+1:Nat):Int)):=⟨dQ (by have:=HS.out.hN;omega)⟩
         have jY:Aside0 (ic ((EP.setIfInBounds (i*32+j*2) (.int .i64 (T.cell i j - T.cell i c*(T.cell r j/T.cell r c)).num)).setIfInBounds (i*32+j*2+1) (.int .i64 ((T.cell i j - T.cell i c*(T.cell r j/T.cell r c)).den:Int))) m N K (st T r c i (j+1))):=⟨by rw [<-a8P,e3];exact HS.out.put hlt'.out BM _⟩
         have ES:=Aside0.mk BM
         have hm2:=a6u
         have hm3:=Lh
         clear BM hlt hj3
         go_wp2
         have gw:=Aside0.mk (ak HA.out)
         have gM:=Aside0.mk (ak fB.out)
         have Qr:=Aside0.mk (ak Qq.out)
         have fS:=Aside0.mk (aI cO.out)
         clear HA fB Qq cO h0
         refine fL (n:=23) (S:=fun w'=>w'.cell? ⟨w.heap.size,i*32+j*2,none⟩=some (.int .i64 (T.cell i j).num)/\w'.cell? ⟨w.heap.size,i*32+j*2+1,none⟩=some (.int .i64 ((T.cell i j).den:Int))/\w'.cell? ⟨w.heap.size,r*32+j*2,none⟩=some (.int .i64 (T.cell r j/T.cell r c).num)/\w'.cell? ⟨w.heap.size,r*32+j*2+1,none⟩=some (.int .i64 ((T.cell r j/T.cell r c).den:Int))/\w'.cell? ⟨g,0,none⟩=some (.int .i64 (T.cell i c).num)/\w'.cell? ⟨g,1,none⟩=some (.int .i64 ((T.cell i c).den:Int))) (ds:=[22]) #[false,false,false,false,false,false,false,false,false,false,false,false,false,false,false,false,false,false,false,false,false,false,false] (by kernel_rfl) rfl rfl ⟨h1,h2,h3,h4,h5,h6⟩ (fun hHeld=>?_)
         generalize wr.drew=w6 at*
         refine bl (i:=0) (N:=some 68) ?_
         refine bl (i:=1) (N:=some 69) ?_
         refine bl (i:=2) (N:=some 70) ?_
         refine bl (i:=3) (N:=some 71) ?_
         refine bl (i:=4) (N:=some 72) ?_
         refine bl (i:=5) (N:=some 73) ?_
         refine bl (i:=6) (N:=some 74) ?_
         refine dS (i:=7) (N:=some 75) (v:=?_) (a':=?_) #[true,true,true,true,true,true,true,true,false,false,false,false,false,false,false,false,false,false,false,false,false,false,false] rfl rfl (by kernel_rfl) (fun _ _ _ h=>h) (Or.inl ⟨by rfl,?_⟩) hHeld ?_ ?_
         rotate_left
         ·rintro w' ⟨s0,s1,s2,s3,s4,s5⟩
          go_simp
          with_reducible rfl
         rotate_left
         ·exact fj
         refine bl (i:=8) (N:=some 76) ?_
         refine dS (i:=9) (N:=some 77) (v:=?_) (a':=?_) #[true,true,true,true,true,true,true,true,true,true,false,false,false,false,false,false,false,false,false,false,false,false,false] rfl rfl (by kernel_rfl) (fun _ _ _ h=>h) (Or.inl ⟨by rfl,?_⟩) hHeld ?_ ?_
         rotate_left
         ·rintro w' ⟨s0,s1,s2,s3,s4,s5⟩
          go_simp
          with_reducible rfl
         rotate_left
         ·exact fj
         refine bl (i:=10) (N:=some 78) ?_
         refine bl (i:=11) (N:=some 79) ?_
         refine bl (i:=12) (N:=some 80) ?_
         refine bl (i:=13) (N:=some 81) ?_
         refine bl (i:=14) (N:=some 82) ?_
         refine bl (i:=15) (N:=some 83) ?_
         refine dS (i:=16) (N:=some 84) (v:=?_) (a':=?_) #[true,true,true,true,true,true,true,true,true,true,true,true,true,true,true,true,true,false,false,false,false,false,false] rfl rfl (by kernel_rfl) (fun _ _ _ h=>h) (Or.inl ⟨by rfl,?_⟩) hHeld ?_ ?_
         rotate_left
         ·rintro w' ⟨s0,s1,s2,s3,s4,s5⟩
          go_simp
          with_reducible rfl
         rotate_left
         ·exact fj
         refine bl (i:=19) (N:=some 87) ?_
         refine bl (i:=20) (N:=some 88) ?_
         refine gj (i:=17) (N:=some 85) #[true,true,true,true,true,true,true,true,true,true,true,true,true,true,true,true,true,true,false,true,true,false,false] rfl rfl (by kernel_rfl) (by decide) (fun K hK=>?_)
         refine tu 115 #[V (T.cell i c),V (T.cell r j/T.cell r c)] (by rfl) rfl ?_ ?_
         ·go_simp
         refine (gb.out _).mono ?_
         rintro e w7 ⟨rfl,xO⟩
         have Ua:=Aside0.mk (aj gw.out xO)
         have a8U:=Aside0.mk (aj gM.out xO)
         have HF7:=Aside0.mk (aj Qr.out xO)
         have Ub:=Aside0.mk (ah fS.out xO)
         clear xO gw gM Qr fS h1 h2 h3 h4 h5 h6 gb
         have h1:=bB Ua.out (HS.out.num i j hlt'.out ES.out)
         have h2:=bB Ua.out (HS.out.den i j hlt'.out ES.out)
         have h3:=bB Ua.out (HS.out.num r j (by omega) ES.out)
         have h4:=bB Ua.out (HS.out.den r j (by omega) ES.out)
         rw [e1] at h1 h2
         rw [e2] at h3 h4
         refine ⟨_,rfl,?_⟩
         refine hK.out _ _ ⟨h1,h2,h3,h4,(ag HF7.out 0).trans rfl,(ag HF7.out 1).trans rfl⟩ (fun hHeld=>?_)
         clear hK K hHeld
         refine fq (a':=?_) ?_ ?_
         rotate_left
         ·show Act.put _ (some 85) _=_
          simp only [Act.put,List.setIfInBounds_toArray,List.set_cons_zero,List.set_cons_succ,dJ,eD]
          rfl
         refine gj (i:=18) (N:=some 86) #[true,true,true,true,true,true,true,true,true,true,true,true,true,true,true,true,true,true,true,true,true,false,false] rfl rfl (by kernel_rfl) (by decide) (fun K hK=>?_)
         refine tu 112 #[V (T.cell i j),V (T.cell i c*(T.cell r j/T.cell r c))] (by rfl) rfl ?_ ?_
         ·go_simp
         refine (jZ.out _).mono ?_
         rintro e w8 ⟨rfl,ni⟩
         have Nc:=Aside0.mk (aj Ua.out ni)
         have a8V:=Aside0.mk (aj a8U.out ni)
         have Uc:=Aside0.mk (aj HF7.out ni)
         have zP:=Aside0.mk (ah Ub.out ni)
         clear ni Ua a8U HF7 Ub h1 h2 h3 h4 jZ
         have h1:=bB Nc.out (HS.out.num i j hlt'.out ES.out)
         have h2:=bB Nc.out (HS.out.den i j hlt'.out ES.out)
         have h3:=bB Nc.out (HS.out.num r j (by omega) ES.out)
         have h4:=bB Nc.out (HS.out.den r j (by omega) ES.out)
         rw [e1] at h1 h2
         rw [e2] at h3 h4
         refine ⟨_,rfl,?_⟩
         refine hK.out _ _ ⟨h1,h2,h3,h4,(ag Uc.out 0).trans rfl,(ag Uc.out 1).trans rfl⟩ (fun hHeld=>?_)
         clear hK K hHeld
         refine fq (a':=?_) ?_ ?_
         rotate_left
         ·show Act.put _ (some 86) _=_
          simp only [Act.put,List.setIfInBounds_toArray,List.set_cons_zero,List.set_cons_succ,dJ,eD]
          rfl
         refine bl (i:=21) (N:=some 89) ?_
         refine rf (i:=22) (N:=none) #[true,true,true,true,true,true,true,true,true,true,true,true,true,true,true,true,true,true,true,true,true,true,true] rfl rfl (by kernel_rfl) (by decide) (fun K hK=>?_)
         have pW:=af Nc.out (i*32+j*2)
         have hf2:=af Nc.out (i*32+j*2+1)
         refine lO (w1:=?_) (by rfl) rfl ?_ ?_
         rotate_left
         ·go_simp
          rfl
         refine hK.out _ _ ?_
         clear hK K
         refine gU (by kernel_rfl) ?_
         have yG:Aside0 (((w8.setCell ⟨w.heap.size,i*32+j*2,none⟩ (.int .i64 (T.cell i j - T.cell i c*(T.cell r j/T.cell r c)).num)).setCell ⟨w.heap.size,i*32+j*2+1,none⟩ (.int .i64 ((T.cell i j - T.cell i c*(T.cell r j/T.cell r c)).den:Int))).heap[w.heap.size]? =some (.cells ((EP.setIfInBounds (i*32+j*2) (.int .i64 (T.cell i j - T.cell i c*(T.cell r j/T.cell r c)).num)).setIfInBounds (i*32+j*2+1) (.int .i64 ((T.cell i j - T.cell i c*(T.cell r j/T.cell r c)).den:Int))) 79 (0,0))):=⟨heap_set (heap_set Nc.out)⟩
         have a1L:Aside0 (((w8.setCell ⟨w.heap.size,i*32+j*2,none⟩ (.int .i64 (T.cell i j - T.cell i c*(T.cell r j/T.cell r c)).num)).setCell ⟨w.heap.size,i*32+j*2+1,none⟩ (.int .i64 ((T.cell i j - T.cell i c*(T.cell r j/T.cell r c)).den:Int))).heap[w.heap.size+1]? =some (.cells Try.zeroCells79 79 (0,0))):=⟨bz (bz a8V.out (by omega)) (by omega)⟩
         have HF6:Aside0 (((w8.setCell ⟨w.heap.size,i*32+j*2,none⟩ (.int .i64 (T.cell i j - T.cell i c*(T.cell r j/T.cell r c)).num)).setCell ⟨w.heap.size,i*32+j*2+1,none⟩ (.int .i64 ((T.cell i j - T.cell i c*(T.cell r j/T.cell r c)).den:Int))).heap[g]? =some (.cells #[.int .i64 (T.cell i c).num,.int .i64 ((T.cell i c).den:Int)] 34 (0,0))):=⟨bz (bz Uc.out (by have:=HSZ.out;omega)) (by have:=HSZ.out;omega)⟩
         have BK:Aside0 (Below w.heap.size w ((w8.setCell ⟨w.heap.size,i*32+j*2,none⟩ (.int .i64 (T.cell i j - T.cell i c*(T.cell r j/T.cell r c)).num)).setCell ⟨w.heap.size,i*32+j*2+1,none⟩ (.int .i64 ((T.cell i j - T.cell i c*(T.cell r j/T.cell r c)).den:Int)))):=⟨bR (bR zP.out (Nat.le_refl _)) (Nat.le_refl _)⟩
         clear Nc a8V Uc zP HS h1 h2 h3 h4 pW hf2 e1 e2 e3 HQ1 ER
         generalize ((w8.setCell ⟨w.heap.size,i*32+j*2,none⟩ (.int .i64 (T.cell i j - T.cell i c*(T.cell r j/T.cell r c)).num)).setCell ⟨w.heap.size,i*32+j*2+1,none⟩ (.int .i64 ((T.cell i j - T.cell i c*(T.cell r j/T.cell r c)).den:Int)))=w9 at*
         generalize ((EP.setIfInBounds (i*32+j*2) (.int .i64 (T.cell i j - T.cell i c*(T.cell r j/T.cell r c)).num)).setIfInBounds (i*32+j*2+1) (.int .i64 ((T.cell i j - T.cell i c*(T.cell r j/T.cell r c)).den:Int)))=CF at*
         go_wp2
         go_roundw
         case rel=>exact ⟨j+1,CF,by first|(rw [rL.out];done)|rfl|(simp;done),by have:=ES.out;omega,yG,jY,a1L,HF6,BK⟩
         case measure=>(try rw [rL.out]);have:=ES.out;simp [intOf];omega
        ·have Qo:j=N+1:=by omega
         have g7:decide ((j:Int)<=(N:Int))=false:=decide_eq_false (by omega)
         have g7n:decide (j<=N)=false:=decide_eq_false (by omega)
         rw [Qo] at HS
         have jY:=Aside0.mk (a6v HS.out)
         clear Qo BM hj3 HS
         go_wp2
         go_roundw
         case rel=>exact ⟨i+1,EP,by first|(rw [oW.out];done)|rfl|(simp;done),hlt'.out,HA,jY,fB,cO⟩
         case measure=>(try rw [oW.out]);have:=hlt'.out;simp [intOf];omega
    ·have g2:decide ((i:Int)<(mk:Int))=false:=decide_eq_false (by omega)
     have BL:decide (i<mk)=false:=decide_eq_false (by omega)
     have xQ:i=m+K:=by omega
     rw [xQ] at HS
     have HE:=Aside0.mk (a8Q HS.out hr)
     have hb1:512+r<iy.size:=by rw [HS.out.size];omega
     have a1M:=HS.out.fG r hr
     rw [show (st T r c (m+K) 0).basis r=T.basis r from rfl] at a1M
     have h9:=bB HA.out a1M
     have h10:=af HA.out (512+r)
     have HL:Aside0 ((wr.setCell ⟨w.heap.size,512+r,none⟩ (.int .i64 (c:Int))).heap[w.heap.size]? =some (.cells (iy.setIfInBounds (512+r) (.int .i64 (c:Int))) 79 (0,0))):=⟨heap_set HA.out⟩
     have yH:Aside0 ((wr.setCell ⟨w.heap.size,512+r,none⟩ (.int .i64 (c:Int))).heap[w.heap.size+1]? =some (.cells Try.zeroCells79 79 (0,0))):=⟨bz fB.out (by omega)⟩
     have HBn:Aside0 (Below w.heap.size w (wr.setCell ⟨w.heap.size,512+r,none⟩ (.int .i64 (c:Int)))):=⟨bR cO.out (Nat.le_refl _)⟩
     generalize hCS:iy.setIfInBounds (512+r) (.int .i64 (c:Int))=CS at*
     have HI:Aside0 ((Try.prog.info? 79).map (·.size)=some CS.size):=⟨by rw [HE.out.size];kernel_rfl⟩
     have HZ:Aside0 ((Try.zeroCells79).size=CS.size):=⟨by rw [HE.out.size];kernel_rfl⟩
     clear xQ hmk hlt hi a1M hCS hb1
     go_wp2_with (first|((with_reducible refine bn (N:=94) rfl ?_);refine wpList_load_row rfl 79 (.tmp 3) rfl w.heap.size rfl 79 CS (0,0) _ HL.out hu (by rfl) HI.out ?_)|((with_reducible refine kg (t:=79) (p:=6) rfl ?_);refine wpList_store_row rfl 79 (.tmp 6) (.tmp 94) rfl (w.heap.size+1) CS rfl rfl 79 Try.zeroCells79 yH.out HI.out HZ.out HE.out.one ?_))
     refine bodyPost_ret (results_cell_row rfl _ _ (w.heap.size+1) 79 CS (0,0) _ rfl (sL yH.out) hu (by rfl) HI.out) rfl ?_
     exact ⟨CS,rfl,HE.out,qG HBn.out (by omega)⟩
def lG (T:bA) (m r a b:Nat):Nat->Nat->Bool
 |_,0=>false
 |k,d+1=>if T.cell (m+k) b/T.cell r b - T.cell (m+k) a/T.cell r a=0 then lG T m r a b (k+1) d else decide (T.cell (m+k) b/T.cell r b - T.cell (m+k) a/T.cell r a<0)
theorem mB.ratio {D C m N K:Nat} {T:bA} (h:mB D C m N K T) {r k j:Nat} (hr:r<m) (hk:k<K) (hj:j<N) (hp:T.cell r j≠0):Qu C D (T.cell (m+k) j/T.cell r j):=by
 obtain ⟨d,h0,h1,h2,h3,_⟩:=h.ex
 obtain ⟨a,e,b⟩:=h3 k hk j hj
 obtain ⟨a',e',b'⟩:=h2 r hr j (Nat.le_of_lt hj)
 have hd:(d:Rat)≠0:=KI h0
 refine ⟨a,a',?_,?_,b,b'⟩
 ·intro h3;rw [h3] at e';apply hp
  have:T.cell r j*(d:Rat)=0:=e'
  grind
 ·rw [<-e,<-e'];grind
theorem a4u {B m N K r i a:Nat} {T:bA} {cs:Array Value} (HR:ic cs m N K T) (hik:i<m+K) (aN:a<=N) (ET:r<m+K) (w':World) (h:w'.heap[B]? =some (.cells cs 79 (0,0))):w'.cell? ⟨B,528,none⟩=some (.int .i64 (m:Int))/\w'.cell? ⟨B,i*32+a*2,none⟩=some (.int .i64 (T.cell i a).num)/\w'.cell? ⟨B,i*32+a*2+1,none⟩=some (.int .i64 ((T.cell i a).den:Int))/\w'.cell? ⟨B,r*32+a*2,none⟩=some (.int .i64 (T.cell r a).num)/\w'.cell? ⟨B,r*32+a*2+1,none⟩=some (.int .i64 ((T.cell r a).den:Int)):=
 ⟨bB h HR.rows,bB h (HR.num i a hik aN),bB h (HR.den i a hik aN),bB h (HR.num r a ET aN),bB h (HR.den r a ET aN)⟩
theorem zQ {q:Rat}:decide (jX q<0)=decide (q<0):=by
 unfold jX
 by_cases h1:q<0
 ·rw [if_pos h1,decide_eq_true h1];rfl
 ·rw [if_neg h1,decide_eq_false h1]
  by_cases h2:0<q
  ·rw [if_pos h2];rfl
  ·rw [if_neg h2];rfl
set_option maxHeartbeats 1600000 in
set_option maxRecDepth 100000 in
theorem Qs (D C B m N K r a b:Nat) (T:bA) (w:World) (hT:vo w B m N K T) (hF:mB D C m N K T) (hcd:C*D+C*D<=1000000) (hr:r<m) (ha:a<N) (hb:b<N) (hpa:T.cell r a≠0) (hpb:T.cell r b≠0):
 Calls Try.prog 77 #[.pointer (some ⟨B,0,none⟩),.int .i64 (r:Int),.int .i64 (a:Int),.int .i64 (b:Int)] w fun e w'=>e= .returned (.bool (lG T m r a b 0 K))/\Below w.heap.size w w':=by
 obtain ⟨cs,hB,hR⟩:=hT
 have hu:=Try.underlying79
 have hrows:=bB hB hR.rows
 have Qn:=bB hB hR.costs
 have HR:=Aside0.mk hR
 have HB:=Aside0.mk hB
 clear hR hB
 go_enter Try.func77,Try.ntmps77
 go_wp2
 repeat (go_quiet (fail);try go_wp2)
 go_loopw [17] (fun kv wr=>∃k:Nat,kv= .int .i64 (k:Int)/\k<=K/\Aside0 (lG T m r a b 0 K=lG T m r a b k (K - k))/\Below w.heap.size w wr) (fun kv _=>K -(intOf kv).toNat)
 case atStart=>exact ⟨0,rfl,Nat.zero_le _,⟨rfl⟩,by repeat (first|exact Below.refl _ _|apply aI)⟩
 case round=>
  obtain ⟨k,rfl,hk,HE,hbl⟩:=hrel
  have zO:wr.heap[B]? =some (.cells cs 79 (0,0)):=(hbl.block _ (Array.getElem?_eq_some_iff.1 HB.out).1).trans HB.out
  by_cases hlt:k<K
  ·obtain ⟨i,hi⟩:∃i,i=m+k:=⟨_,rfl⟩
   have hik:i<m+K:=by omega
   have aN:a<=N:=Nat.le_of_lt ha
   have bN:b<=N:=Nat.le_of_lt hb
   have ET:r<m+K:=by omega
   have hw:IntKind.i64.wrap ((m:Int)+(k:Int))=(i:Int):=by rw [hi];have:=HR.out.hm;rw [dJ,cW (by omega) (by omega)];rfl
   have hra:Qu C D (T.cell i a/T.cell r a):=by rw [hi];exact hF.ratio hr hlt ha hpa
   have hrb:Qu C D (T.cell i b/T.cell r b):=by rw [hi];exact hF.ratio hr hlt hb hpb
   have hD1:=hF.d1
   have rU:=hF.c1
   have hDD:=hF.dd
   have hX:∀n,n<=100000->n*D<=100000000:=fun n hn=>Nat.le_trans (Nat.mul_le_mul hn hD1) (by decide)
   have hY:∀n,n<=100000->D*n<=100000000:=fun n hn=>by rw [Nat.mul_comm];exact hX n hn
   have b6L:=hX 100000 (by omega)
   have b6M:=hY 100000 (by omega)
   have gb:=Aside0.mk (fun W=>CD W (Qu.sz (hF.any hik aN)) (Qu.sz (hF.any ET aN)) (by omega) (by omega) hpa (Qu.ok hra (by omega) (by omega)))
   have jZ:=Aside0.mk (fun W=>CD W (Qu.sz (hF.any hik bN)) (Qu.sz (hF.any ET bN)) (by omega) (by omega) hpb (Qu.ok hrb (by omega) (by omega)))
   have BN:=Aside0.mk (fun W=>Lg W (Qu.sz hrb) (Qu.sz hra) (by omega) (by omega) (Qu.ok (Qu.sub hrb hra) hcd hDD))
   have IL:=Aside0.mk (fun W=>xM (T.cell i b/T.cell r b - T.cell i a/T.cell r a) W)
   have IJ:Aside0 (lG T m r a b 0 K=if T.cell i b/T.cell r b - T.cell i a/T.cell r a=0 then lG T m r a b (k+1) (K -(k+1)) else decide (T.cell i b/T.cell r b - T.cell i a/T.cell r a<0)):=⟨by
    rw [HE.out,show K - k=(K -(k+1))+1 by omega,hi];rfl⟩
   have oW:Aside0 (wrap64 ((k:Int)+1)=((k+1:Nat):Int)):=⟨dQ (by have:=HR.out.hm;omega)⟩
   have b0:(0:Int)<=(i:Int):=by omega
   have b1:(i:Int)<16:=by have:=HR.out.hm;omega
   have b2:(0:Int)<=(a:Int):=by omega
   have b3:(a:Int)<16:=by have:=HR.out.hN;omega
   have b4:(0:Int)<=(b:Int):=by omega
   have b5:(b:Int)<16:=by have:=HR.out.hN;omega
   have b6:(0:Int)<=(r:Int):=by omega
   have b7:(r:Int)<16:=by have:=HR.out.hm;omega
   have cO:=Aside0.mk zO
   have xN:=Aside0.mk hbl
   clear hbl zO hrows Qn hi HE hra hrb hD1 rU hDD hF hcd hpa hpb ha hb hX hY b6L b6M
   have hm:=Qm
   have hm2:=Lh
   have hm3:=zN
   go_wp2
   go_cut [10] from 20 to 42 (fun s_ wx=>∃g,s_= .pointer (some ⟨g,0,none⟩)/\Aside0 (wx.heap[B]? =some (.cells cs 79 (0,0)))/\Aside0 (wx.heap[g]? =some (.cells #[.int .i64 (T.cell i a/T.cell r a).num,.int .i64 ((T.cell i a/T.cell r a).den:Int)] 34 (0,0)))/\Aside0 (Below w.heap.size w wx))
   case first=>
    have HG:Aside0 (B<wr.heap.size):=⟨bf cO.out⟩
    have HS:=Aside0.mk (a4u (B:=B) HR.out hik aN ET)
    go_region_held3 (fun w'=>w'.cell? ⟨B,528,none⟩=some (.int .i64 (m:Int))/\w'.cell? ⟨B,i*32+a*2,none⟩=some (.int .i64 (T.cell i a).num)/\w'.cell? ⟨B,i*32+a*2+1,none⟩=some (.int .i64 ((T.cell i a).den:Int))/\w'.cell? ⟨B,r*32+a*2,none⟩=some (.int .i64 (T.cell r a).num)/\w'.cell? ⟨B,r*32+a*2+1,none⟩=some (.int .i64 ((T.cell r a).den:Int))) (first|(with_reducible exact EU.out)|exact HS.out _ (by repeat (first|exact cO.out|exact di.out|refine ak ?_|refine ai ?_ _|refine bz ?_ (Nat.ne_of_lt HG.out)))) (first|(go_at_call 113;(with_reducible refine (gb.out _).mono ?_);rintro e w1 ⟨rfl,hb1⟩;(first|(have HZ:Aside0 (w1.heap[wr.heap.size]? =some (.cells #[.int .i64 0,.int .i64 0] 34 (0,0))):=⟨aj (dn wr.drew (.cells #[.int .i64 0,.int .i64 0] 34)) hb1⟩;have hz0:w1.cell? ⟨wr.heap.size,0,none⟩=some (.int .i64 0):=(ag HZ.out 0).trans rfl;have hz1:w1.cell? ⟨wr.heap.size,1,none⟩=some (.int .i64 0):=(ag HZ.out 1).trans rfl;have hz2:=af HZ.out 0;have hz3:=af HZ.out 1;have hb2:Below wr.heap.size wr w1:=ah (aT (aI (Below.refl _ _)) _) hb1)|(have hb2:Below wr.heap.size wr w1:=ah (aI (Below.refl _ _)) hb1));have di:=Aside0.mk (aj cO.out hb2);have yH:=Aside0.mk (ah xN.out hb2);have EU:=Aside0.mk (HS.out _ di.out);have Zj:Aside0 (w.heap.size<=wr.heap.size):=⟨xN.out.size⟩;have HW2:Aside0 (wr.heap.size<=w1.heap.size):=⟨hb2.size⟩;clear hb2 hb1))
    all_goals
     go_wp2_with fail
     go_meet
     case rel=>first|exact ⟨_,rfl,⟨ai di.out _⟩,⟨dn _ _⟩,⟨aT yH.out _⟩⟩|exact ⟨_,rfl,⟨bz (bz di.out (Nat.ne_of_lt HG.out)) (Nat.ne_of_lt HG.out)⟩,⟨bh (bh HZ.out 0 (.int .i64 (T.cell i a/T.cell r a).num) (cs':= #[.int .i64 (T.cell i a/T.cell r a).num,.int .i64 0]) rfl) 1 (.int .i64 ((T.cell i a/T.cell r a).den:Int)) (cs':= #[.int .i64 (T.cell i a/T.cell r a).num,.int .i64 ((T.cell i a/T.cell r a).den:Int)]) rfl⟩,⟨bR (bR yH.out Zj.out) Zj.out⟩⟩
   case rest=>
   obtain ⟨g10,rfl,CG,IM,a1N⟩:=hcut
   generalize wc=mU at*
   clear cO xN gb
   go_wp2
   go_cut [11] from 43 to 65 (fun s_ wx=>∃g,s_= .pointer (some ⟨g,0,none⟩)/\Aside0 (wx.heap[B]? =some (.cells cs 79 (0,0)))/\Aside0 (wx.heap[g]? =some (.cells #[.int .i64 (T.cell i b/T.cell r b).num,.int .i64 ((T.cell i b/T.cell r b).den:Int)] 34 (0,0)))/\Aside0 (Below w.heap.size w wx)/\Aside0 (wx.heap[g10]? =some (.cells #[.int .i64 (T.cell i a/T.cell r a).num,.int .i64 ((T.cell i a/T.cell r a).den:Int)] 34 (0,0))))
   case first=>
    have HG:Aside0 (B<mU.heap.size):=⟨bf CG.out⟩
    have HS:=Aside0.mk (a4u (B:=B) HR.out hik bN ET)
    go_region_held3 (fun w'=>w'.cell? ⟨B,528,none⟩=some (.int .i64 (m:Int))/\w'.cell? ⟨B,i*32+b*2,none⟩=some (.int .i64 (T.cell i b).num)/\w'.cell? ⟨B,i*32+b*2+1,none⟩=some (.int .i64 ((T.cell i b).den:Int))/\w'.cell? ⟨B,r*32+b*2,none⟩=some (.int .i64 (T.cell r b).num)/\w'.cell? ⟨B,r*32+b*2+1,none⟩=some (.int .i64 ((T.cell r b).den:Int))) (first|(with_reducible exact EU.out)|exact HS.out _ (by repeat (first|exact CG.out|exact di.out|refine ak ?_|refine ai ?_ _|refine bz ?_ (Nat.ne_of_lt HG.out)))) (first|(go_at_call 113;(with_reducible refine (jZ.out _).mono ?_);rintro e w1 ⟨rfl,hb1⟩;(first|(have HZ:Aside0 (w1.heap[mU.heap.size]? =some (.cells #[.int .i64 0,.int .i64 0] 34 (0,0))):=⟨aj (dn mU.drew (.cells #[.int .i64 0,.int .i64 0] 34)) hb1⟩;have hz0:w1.cell? ⟨mU.heap.size,0,none⟩=some (.int .i64 0):=(ag HZ.out 0).trans rfl;have hz1:w1.cell? ⟨mU.heap.size,1,none⟩=some (.int .i64 0):=(ag HZ.out 1).trans rfl;have hz2:=af HZ.out 0;have hz3:=af HZ.out 1;have hb2:Below mU.heap.size mU w1:=ah (aT (aI (Below.refl _ _)) _) hb1)|(have hb2:Below mU.heap.size mU w1:=ah (aI (Below.refl _ _)) hb1));have di:=Aside0.mk (aj CG.out hb2);have yH:=Aside0.mk (ah a1N.out hb2);have EU:=Aside0.mk (HS.out _ di.out);have Zj:Aside0 (w.heap.size<=mU.heap.size):=⟨a1N.out.size⟩;have HW2:Aside0 (mU.heap.size<=w1.heap.size):=⟨hb2.size⟩;have a4x:=Aside0.mk (aj IM.out hb2);have a4y:Aside0 (g10<mU.heap.size):=⟨bf IM.out⟩;clear hb2 hb1))
    all_goals
     go_wp2_with fail
     go_meet
     case rel=>first|exact ⟨_,rfl,⟨ai di.out _⟩,⟨dn _ _⟩,⟨aT yH.out _⟩,⟨ai a4x.out _⟩⟩|exact ⟨_,rfl,⟨bz (bz di.out (Nat.ne_of_lt HG.out)) (Nat.ne_of_lt HG.out)⟩,⟨bh (bh HZ.out 0 (.int .i64 (T.cell i b/T.cell r b).num) (cs':= #[.int .i64 (T.cell i b/T.cell r b).num,.int .i64 0]) rfl) 1 (.int .i64 ((T.cell i b/T.cell r b).den:Int)) (cs':= #[.int .i64 (T.cell i b/T.cell r b).num,.int .i64 ((T.cell i b/T.cell r b).den:Int)]) rfl⟩,⟨bR (bR yH.out Zj.out) Zj.out⟩,⟨bz (bz a4x.out (Nat.ne_of_lt a4y.out)) (Nat.ne_of_lt a4y.out)⟩⟩
   case rest=>
   obtain ⟨g11,rfl,Qt,a8W,a8X,IM⟩:=hcut
   generalize wc=kV at*
   have hx1:=(ag a8W.out 0).trans rfl
   have hx2:=(ag a8W.out 1).trans rfl
   have hx3:=(ag IM.out 0).trans rfl
   have EW:=(ag IM.out 1).trans rfl
   clear CG a1N jZ
   by_cases hz:T.cell i b/T.cell r b - T.cell i a/T.cell r a=0
   ·have g4:(jX (T.cell i b/T.cell r b - T.cell i a/T.cell r a) !=0)=false:=by rw [sK.2 hz];rfl
    have CE:Aside0 (lG T m r a b 0 K=lG T m r a b (k+1) (K -(k+1))):=⟨by rw [IJ.out,if_pos hz]⟩
    clear hz IJ
    go_wp2_with (first|(go_at_call 112;(with_reducible refine (BN.out _).mono ?_);rintro e w2 ⟨rfl,hb2⟩;have EX:=Aside0.mk (ah a8X.out hb2);clear hb2)|(go_at_call 114;(with_reducible refine (IL.out _).mono ?_);rintro e w3 ⟨rfl,hb3⟩;have HL3:=Aside0.mk (ah EX.out hb3);clear hb3))
    go_roundw
    case rel=>exact ⟨k+1,by first|(rw [oW.out];done)|rfl|(simp;done),by omega,CE,HL3.out⟩
    case measure=>(try rw [oW.out]);simp [intOf];omega
   ·have g4:(jX (T.cell i b/T.cell r b - T.cell i a/T.cell r a) !=0)=true:=bne_iff_ne.mpr (fun h=>hz (sK.1 h))
    have CE:Aside0 (lG T m r a b 0 K=decide (jX (T.cell i b/T.cell r b - T.cell i a/T.cell r a)<0)):=⟨by rw [IJ.out,if_neg hz,zQ]⟩
    clear hz IJ
    go_wp2_with (first|(go_at_call 112;(with_reducible refine (BN.out _).mono ?_);rintro e w2 ⟨rfl,hb2⟩;have EX:=Aside0.mk (ah a8X.out hb2);clear hb2)|(go_at_call 114;(with_reducible refine (IL.out _).mono ?_);rintro e w3 ⟨rfl,hb3⟩;have HL3:=Aside0.mk (ah EX.out hb3);clear hb3))
    go_ret
    exact ⟨by rw [CE.out];first|done|rfl,HL3.out⟩
  ·have Ze:k=K:=by omega
   have CE:Aside0 (lG T m r a b 0 K=false):=⟨by rw [HE.out,Ze,Nat.sub_self];rfl⟩
   subst Ze
   have xN:=Aside0.mk hbl
   clear HE hbl zO hF hcd hpa hpb
   go_wp2
   go_ret
   exact ⟨by rw [CE.out];first|done|rfl,xN.out⟩
theorem IP (T:bA) (m c:Nat):∀d k,(ng T m c k d<0↔∃i,k<=i/\i<k+d/\(∀j,k<=j->j<i->T.cell (m+j) c=0)/\T.cell (m+i) c<0)
 |0,k=>by simp only [ng];constructor
          ·intro h;omega
          ·rintro ⟨i,h1,h2,_⟩;omega
 |d+1,k=>by
  simp only [ng]
  by_cases h:T.cell (m+k) c=0
  ·rw [if_pos h,IP T m c d (k+1)]
   constructor
   ·rintro ⟨i,h1,h2,h3,h4⟩
    exact ⟨i,by omega,by omega,fun j hj hji=>by
     by_cases e:j=k
     ·rw [e];exact h
     ·exact h3 j (by omega) hji,h4⟩
   ·rintro ⟨i,h1,h2,h3,h4⟩
    have:i≠k:=fun e=>by rw [e,h] at h4;grind
    exact ⟨i,by omega,by omega,fun j hj hji=>h3 j (by omega) hji,h4⟩
  ·rw [if_neg h]
   constructor
   ·intro hs
    refine ⟨k,Nat.le_refl _,by omega,fun j _ _=>by omega,?_⟩
    unfold jX at hs
    by_cases h1:T.cell (m+k) c<0
    ·exact h1
    ·rw [if_neg h1] at hs;split at hs<;>omega
   ·rintro ⟨i,h1,h2,h3,h4⟩
    have e:i=k:=by
     by_cases e:i=k
     ·exact e
     ·exact absurd (h3 k (Nat.le_refl _) (by omega)) h
    rw [e] at h4
    unfold jX;rw [if_pos h4];omega
theorem Nd {T:bA} {m c K:Nat}:ng T m c 0 K<0↔fk K (T.cost m c):=by
 rw [IP]
 unfold fk bA.cost
 constructor
 ·rintro ⟨i,_,h2,h3,h4⟩;exact ⟨i,by omega,fun j hj=>h3 j (Nat.zero_le _) hj,h4⟩
 ·rintro ⟨i,h2,h3,h4⟩;exact ⟨i,Nat.zero_le _,by omega,fun j _ hj=>h3 j hj,h4⟩
theorem IQ (T:bA) (m r a b:Nat):∀d k,(lG T m r a b k d=true↔∃i,k<=i/\i<k+d/\(∀j,k<=j->j<i->T.cell (m+j) b/T.cell r b - T.cell (m+j) a/T.cell r a=0)/\T.cell (m+i) b/T.cell r b - T.cell (m+i) a/T.cell r a<0)
 |0,k=>by simp only [lG];constructor
          ·intro h;exact absurd h (by decide)
          ·rintro ⟨i,h1,h2,_⟩;omega
 |d+1,k=>by
  simp only [lG]
  by_cases h:T.cell (m+k) b/T.cell r b - T.cell (m+k) a/T.cell r a=0
  ·rw [if_pos h,IQ T m r a b d (k+1)]
   constructor
   ·rintro ⟨i,h1,h2,h3,h4⟩
    exact ⟨i,by omega,by omega,fun j hj hji=>by
     by_cases e:j=k
     ·rw [e];exact h
     ·exact h3 j (by omega) hji,h4⟩
   ·rintro ⟨i,h1,h2,h3,h4⟩
    have:i≠k:=fun e=>by rw [e,h] at h4;grind
    exact ⟨i,by omega,by omega,fun j hj hji=>h3 j (by omega) hji,h4⟩
  ·rw [if_neg h]
   constructor
   ·intro hs
    exact ⟨k,Nat.le_refl _,by omega,fun j _ _=>by omega,of_decide_eq_true hs⟩
   ·rintro ⟨i,h1,h2,h3,h4⟩
    have e:i=k:=by
     by_cases e:i=k
     ·exact e
     ·exact absurd (h3 k (Nat.le_refl _) (by omega)) h
    rw [e] at h4
    exact decide_eq_true h4
def rat (T:bA) (m r j:Nat):Nat->Rat:=fun k=>T.cell (m+k) j/T.cell r j
theorem Nf {T:bA} {m r a b K:Nat}:lG T m r a b 0 K=true↔fk K (fun k=>rat T m r b k - rat T m r a k):=by
 rw [IQ]
 unfold fk rat
 constructor
 ·rintro ⟨i,_,h2,h3,h4⟩;exact ⟨i,by omega,fun j hj=>h3 j (Nat.zero_le _) hj,h4⟩
 ·rintro ⟨i,h2,h3,h4⟩;exact ⟨i,Nat.zero_le _,by omega,fun j _ hj=>h3 j hj,h4⟩
def Reach (St:bA->bA->Prop) (T0:bA) (n:Nat) (T:bA):Prop:=∃seq:Nat->bA,seq 0=T0/\seq n=T/\∀i,i<n->St (seq i) (seq (i+1))
theorem Reach.zero (St:bA->bA->Prop) (T0:bA):Reach St T0 0 T0:=⟨fun _=>T0,rfl,rfl,fun i hi=>by omega⟩
theorem Reach.next {St:bA->bA->Prop} {T0 T T':bA} {n:Nat} (h:Reach St T0 n T) (s:St T T'):Reach St T0 (n+1) T':=by
 obtain ⟨seq,h0,hn,hs⟩:=h
 refine ⟨fun i=>if i=n+1 then T' else seq i,by show (if 0=n+1 then _ else _)=_;rw [if_neg (by omega)];exact h0,by show (if n+1=n+1 then _ else _)=_;rw [if_pos rfl],fun i hi=>?_⟩
 show St (if i=n+1 then _ else _) (if i+1=n+1 then _ else _)
 rw [if_neg (by omega)]
 by_cases e:i=n
 ·rw [if_pos (by omega),e,hn];exact s
 ·rw [if_neg (by omega)];exact hs i (by omega)
structure Road (D C L m N K:Nat) (St:bA->bA->Prop) (Inv:bA->Prop) (T0:bA):Prop where
 start:Inv T0
 step:∀T T',Inv T->St T T'->Inv T'
 fine:∀T,Inv T->mB D C m N K T
 ends:∀seq:Nat->bA,seq 0=T0->(∀i,i<L->St (seq i) (seq (i+1)))->False
theorem Road.few {D C L m N K n:Nat} {St:bA->bA->Prop} {Inv:bA->Prop} {T0 T:bA} (h:Road D C L m N K St Inv T0) (hr:Reach St T0 n T):n<L:=by
 obtain ⟨seq,h0,_,hs⟩:=hr
 by_cases hn:n<L
 ·exact hn
 ·exact (h.ends seq h0 (fun i hi=>hs i (by omega))).elim
def jV (T:bA) (N c r:Nat) (bv:Int):Prop:=
 (bv= -1/\∀i,i<r->¬0<T.cell i c)∨∃b:Nat,bv=b/\b<r/\0<T.cell b c/\∀i,i<r->0<T.cell i c->(T.cell b N/T.cell b c<T.cell i N/T.cell i c∨(T.cell b N/T.cell b c=T.cell i N/T.cell i c/\T.basis b<=T.basis i))
theorem jV.zero (T:bA) (N c:Nat):jV T N c 0 (-1):= .inl ⟨rfl,fun i hi=>by omega⟩
theorem jV.skip {T:bA} {N c r:Nat} {bv:Int} (h:jV T N c r bv) (hp:¬0<T.cell r c):jV T N c (r+1) bv:=by
 rcases h with ⟨e,h⟩|⟨b,e,hb,h1,h2⟩
 ·refine .inl ⟨e,fun i hi=>?_⟩
  by_cases e2:i=r
  ·rw [e2];exact hp
  ·exact h i (by omega)
 ·refine .inr ⟨b,e,by omega,h1,fun i hi qJ=>?_⟩
  by_cases e2:i=r
  ·rw [e2] at qJ;exact absurd qJ hp
  ·exact h2 i (by omega) qJ
theorem jV.first {T:bA} {N c r:Nat} (h:jV T N c r (-1)) (hp:0<T.cell r c):jV T N c (r+1) (r:Int):=by
 rcases h with ⟨e,h⟩|⟨b,e,hb,h1,h2⟩
 ·refine .inr ⟨r,rfl,by omega,hp,fun i hi qJ=>?_⟩
  by_cases e2:i=r
  ·rw [e2];exact .inr ⟨rfl,Nat.le_refl _⟩
  ·exact absurd qJ (h i (by omega))
 ·omega
theorem jV.keep {T:bA} {N c r b:Nat} (h:jV T N c r (b:Int)) (hk:T.cell b N/T.cell b c<T.cell r N/T.cell r c∨(T.cell b N/T.cell b c=T.cell r N/T.cell r c/\T.basis b<=T.basis r)):jV T N c (r+1) (b:Int):=by
 rcases h with ⟨e,h⟩|⟨b',e,hb,h1,h2⟩
 ·omega
 ·have e2:b'=b:=by omega
  subst e2
  refine .inr ⟨b',e,by omega,h1,fun i hi qJ=>?_⟩
  by_cases e2:i=r
  ·rw [e2];exact hk
  ·exact h2 i (by omega) qJ
theorem jV.take {T:bA} {N c r b:Nat} (h:jV T N c r (b:Int)) (hp:0<T.cell r c) (hk:T.cell r N/T.cell r c<T.cell b N/T.cell b c∨(T.cell r N/T.cell r c=T.cell b N/T.cell b c/\T.basis r<=T.basis b)):jV T N c (r+1) (r:Int):=by
 rcases h with ⟨e,h⟩|⟨b',e,hb,h1,h2⟩
 ·omega
 ·have e2:b'=b:=by omega
  subst e2
  refine .inr ⟨r,rfl,by omega,hp,fun i hi qJ=>?_⟩
  by_cases e2:i=r
  ·rw [e2];exact .inr ⟨rfl,Nat.le_refl _⟩
  ·have h3:=h2 i (by omega) qJ
   rcases hk with hk|⟨hk,hk2⟩
   ·rcases h3 with h3|⟨h3,h4⟩
    ·exact .inl (Std.lt_trans hk h3)
    ·exact .inl (by rw [<-h3];exact hk)
   ·rcases h3 with h3|⟨h3,h4⟩
    ·exact .inl (by rw [hk];exact h3)
    ·exact .inr ⟨hk.trans h3,Nat.le_trans hk2 h4⟩
theorem jV.index {T:bA} {N c r:Nat} {bv:Int} (h:jV T N c r bv) (hne:bv≠ -1):∃b:Nat,bv=b/\b<r/\0<T.cell b c:=by
 rcases h with ⟨e,h⟩|⟨b',e,hb,h1,h2⟩
 ·exact absurd e hne
 ·exact ⟨b',e,hb,h1⟩
def Wp (T:bA) (N i:Nat) (rv:Int):Prop:=
 (rv= -1/\∀j,j<i->¬T.cell j N<0)∨∃r:Nat,rv=r/\r<i/\T.cell r N<0
def iP (T:bA) (m K r c:Nat) (bv:Int):Prop:=
 (bv= -1/\∀j,j<c->¬T.cell r j<0)∨∃b:Nat,bv=b/\b<c/\T.cell r b<0/\∀j,j<c->T.cell r j<0->¬fk K (fun k=>rat T m r b k - rat T m r j k)
theorem iP.zero (T:bA) (m K r:Nat):iP T m K r 0 (-1):= .inl ⟨rfl,fun i hi=>by omega⟩
theorem iP.skip {T:bA} {m K r c:Nat} {bv:Int} (h:iP T m K r c bv) (hp:¬T.cell r c<0):iP T m K r (c+1) bv:=by
 rcases h with ⟨e,h⟩|⟨b,e,hb,h1,h2⟩
 ·refine .inl ⟨e,fun i hi=>?_⟩
  by_cases e2:i=c
  ·rw [e2];exact hp
  ·exact h i (by omega)
 ·refine .inr ⟨b,e,by omega,h1,fun i hi qJ=>?_⟩
  by_cases e2:i=c
  ·rw [e2] at qJ;exact absurd qJ hp
  ·exact h2 i (by omega) qJ
theorem iP.first {T:bA} {m K r c:Nat} (h:iP T m K r c (-1)) (hp:T.cell r c<0):iP T m K r (c+1) (c:Int):=by
 rcases h with ⟨e,h⟩|⟨b,e,hb,h1,h2⟩
 ·refine .inr ⟨c,rfl,by omega,hp,fun i hi qJ=>?_⟩
  by_cases e2:i=c
  ·rw [e2];exact NN.congr NN.zero (fun k _=>by show (0:Rat)=_;grind)
  ·exact absurd qJ (h i (by omega))
 ·omega
theorem iP.keep {T:bA} {m K r c b:Nat} (h:iP T m K r c (b:Int)) (hk:lG T m r c b 0 K=false):iP T m K r (c+1) (b:Int):=by
 have hk':¬fk K (fun k=>rat T m r b k - rat T m r c k):=fun hn=>by rw [Nf.2 hn] at hk;exact absurd hk (by decide)
 rcases h with ⟨e,h⟩|⟨b',e,hb,h1,h2⟩
 ·omega
 ·have e2:b'=b:=by omega
  subst e2
  refine .inr ⟨b',e,by omega,h1,fun i hi qJ=>?_⟩
  by_cases e2:i=c
  ·rw [e2];exact hk'
  ·exact h2 i (by omega) qJ
theorem iP.take {T:bA} {m K r c b:Nat} (h:iP T m K r c (b:Int)) (hp:T.cell r c<0) (hk:lG T m r c b 0 K=true):iP T m K r (c+1) (c:Int):=by
 have hk':=Nf.1 hk
 rcases h with ⟨e,h⟩|⟨b',e,hb,h1,h2⟩
 ·omega
 ·have e2:b'=b:=by omega
  subst e2
  refine .inr ⟨c,rfl,by omega,hp,fun i hi qJ=>?_⟩
  by_cases e2:i=c
  ·rw [e2];exact NN.congr NN.zero (fun k _=>by show (0:Rat)=_;grind)
  ·have h3:=h2 i (by omega) qJ
   exact iO.2 (.inr ((hk'.neg.add h3).congr (fun k _=>by grind)))
theorem iP.index {T:bA} {m K r c:Nat} {bv:Int} (h:iP T m K r c bv) (hne:bv≠ -1):∃b:Nat,bv=b/\b<c/\T.cell r b<0:=by
 rcases h with ⟨e,h⟩|⟨b',e,hb,h1,h2⟩
 ·exact absurd e hne
 ·exact ⟨b',e,hb,h1⟩
end Go.Proofs.Ytkckdphjhlbdcaa.PT
