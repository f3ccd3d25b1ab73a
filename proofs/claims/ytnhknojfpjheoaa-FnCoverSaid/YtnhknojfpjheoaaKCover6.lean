/-
  Part 6 of the proof of this: The law FnCover answers true at every argument.
-/
import Derived.Test.YtnhknojfpjheoaaKCover2
import Derived.Test.YtnhknojfpjheoaaKCover4
import Derived.Test.YtnhknojfpjheoaaKCover5
namespace Go.Proofs.Ytnhknojfpjheoaa.P
open Go.RowKit Go.Proofs.YtnhknojfpjheoaaW.PrintWords Go.Proofs.YtnhknojfpjheoaaW.PrintLast Go.Proofs.YtnhknojfpjheoaaW.PrintMore
attribute [local go_sem] max2_int min2_int max_two min_two max_three min_three max_four min_four
set_option linter.all false
def jL.f (k:Nat) (aH:Int) (aG:Int) (bg:Int) (aV:Int):Option (Int×Int):=(cr.f k (wrap64 (aH*bg)) (wrap64 (aG*aV))).bind fun Ii=>(some (Ii.1,Ii.2))
theorem jL.mono:∀a0 a1 a2 a3 k,aW (jL.f k a0 a1 a2 a3) (jL.f (k+1) a0 a1 a2 a3):=by
 intro a0 a1 a2 a3 k
 unfold jL.f
 repeat' first
  |(with_reducible exact cr.mono _ _ _)
  |(with_reducible exact aW.refl _)
  |(with_reducible exact aW.none _)
  |(with_reducible refine aW.ite ?_ ?_)
  |(with_reducible refine aW.bind ?_ (fun _=>?_))
set_option maxHeartbeats 8000000 in
set_option maxRecDepth 100000 in
theorem jL.calls (k:Nat) (aH:Int) (aG:Int) (bg:Int) (aV:Int) (r1:Int) (r2:Int) (w:World) (h:jL.f k aH aG bg aV=some (r1,r2)):
 Calls Try.prog 64 #[.agg #[.int .i64 aH,.int .i64 aG],.agg #[.int .i64 bg,.int .i64 aV]] w fun e w'=>e= .returned (.agg #[.int .i64 r1,.int .i64 r2])/\Below w.heap.size w w':=by
 have lY:=Try.underlying26
 have HB:=Aside0.mk (Below.refl w.heap.size w)
 have H:((cr.f k (wrap64 (aH*bg)) (wrap64 (aG*aV))).bind fun Ii=>(some (Ii.1,Ii.2)))=some (r1,r2):=h
 clear h
 replace H:=Option.bind_eq_some_iff.mp H
 obtain ⟨⟨t131,a0Z⟩,iO,H⟩:=H
 replace H:(some (t131,a0Z))=some (r1,r2):=H
 have A3:=Aside0.mk iO
 clear iO
 simp only [Option.some.injEq,Prod.mk.injEq] at H
 obtain ⟨rfl,rfl⟩:=H
 go_enter Try.func64,Try.ntmps64
 go_wp2_with (first|((with_reducible refine bk (N:=2) rfl ?_);refine bp ?hg (N:=2) ?hd (cs:= #[.int .i64 aH,.int .i64 aG]) (t:=26) ?hr ?_;(case hd=>rfl);(case hg=>rfl);(case hr=>first|(go_simp;done)|(go_simp;rfl));intro oB hg w4 aU hb;have ay:=Aside0.mk (ai ax hb);have aA:=Aside0.mk (aU);have aD:=Aside0.mk ((by rw [hg];exact (av ax):w.heap.size<=oB));have aR:=Aside0.mk ((by rw [hg];exact (av ax):w.heap.size<=oB));clear HB;have HB:=ay;have mS:=aA;have GW128:=aD;have GE128:=aR;clear ay aA aD aR;clear hb aU hg)|((with_reducible refine bk (N:=3) rfl ?_);refine bp ?hg (N:=3) ?hd (cs:= #[.int .i64 bg,.int .i64 aV]) (t:=26) ?hr ?_;(case hd=>rfl);(case hg=>rfl);(case hr=>first|(go_simp;done)|(go_simp;rfl));intro rq hg w5 aU hb;have ay:=Aside0.mk (ah (g:=oB) (o:= .cells #[.int .i64 aH,.int .i64 aG] 26 (0,0)) (aJ mS) hb);have aA:=Aside0.mk (ai ax hb);have aD:=Aside0.mk (aU);have aR:=Aside0.mk ((by rw [hg];exact (av ax):w.heap.size<=rq));have bK:=Aside0.mk ((by rw [hg];exact (av ax):w.heap.size<=rq));have bT:=Aside0.mk ((by rw [hg];exact Nat.ne_of_lt (aY (g:=oB) (o:= .cells #[.int .i64 aH,.int .i64 aG] 26 (0,0)) (aJ mS)):oB≠rq));have cm:=Aside0.mk ((by rw [hg];exact Nat.ne_of_gt (aY (g:=oB) (o:= .cells #[.int .i64 aH,.int .i64 aG] 26 (0,0)) (aJ mS)):rq≠oB));clear mS;clear HB;have mS:=ay;have HB:=aA;have ru:=aD;have GW129:=aR;have GE129:=bK;have XE:=bT;have XF:=cm;clear ay aA aD aR bK bT cm;clear hb aU hg)|((with_reducible refine bk (N:=4) rfl ?_);refine bp ?hg (N:=4) ?hd (cs:= #[.int .i64 0,.int .i64 0]) (t:=26) ?hr ?_;(case hd=>rfl);(case hg=>rfl);(case hr=>first|(go_simp;done)|(go_simp;rfl));intro ud hg w6 aU hb;have ay:=Aside0.mk (ah (g:=oB) (o:= .cells #[.int .i64 aH,.int .i64 aG] 26 (0,0)) (aJ mS) hb);have aA:=Aside0.mk (ah (g:=rq) (o:= .cells #[.int .i64 bg,.int .i64 aV] 26 (0,0)) (aJ ru) hb);have aD:=Aside0.mk (ai ax hb);have aR:=Aside0.mk (aU);have bK:=Aside0.mk ((by rw [hg];exact (av ax):w.heap.size<=ud));have bT:=Aside0.mk ((by rw [hg];exact (av ax):w.heap.size<=ud));have cm:=Aside0.mk ((by rw [hg];exact Nat.ne_of_lt (aY (g:=oB) (o:= .cells #[.int .i64 aH,.int .i64 aG] 26 (0,0)) (aJ mS)):oB≠ud));have iP:=Aside0.mk ((by rw [hg];exact Nat.ne_of_gt (aY (g:=oB) (o:= .cells #[.int .i64 aH,.int .i64 aG] 26 (0,0)) (aJ mS)):ud≠oB));have jk:=Aside0.mk ((by rw [hg];exact Nat.ne_of_lt (aY (g:=rq) (o:= .cells #[.int .i64 bg,.int .i64 aV] 26 (0,0)) (aJ ru)):rq≠ud));have ke:=Aside0.mk ((by rw [hg];exact Nat.ne_of_gt (aY (g:=rq) (o:= .cells #[.int .i64 bg,.int .i64 aV] 26 (0,0)) (aJ ru)):ud≠rq));clear mS;clear ru;clear HB;have mS:=ay;have ru:=aA;have HB:=aD;have xQ:=aR;have GW130:=bK;have GE130:=bT;have XG:=cm;have XH:=iP;have XI:=jk;have XJ:=ke;clear ay aA aD aR bK bT cm iP jk ke;clear hb aU hg;have Fq:=XE.out;have Fs:=XF.out;have KN:=XG.out;have KO:=XH.out;have wH:w6.cell? ⟨oB,0,none⟩=some (.int .i64 aH):=(ag mS.out 0).trans rfl;have wI:w6.cell? ⟨oB,1,none⟩=some (.int .i64 aG):=(ag mS.out 1).trans rfl;have wJ:=aa mS.out 0;have wK:=aa mS.out 1;have DM:=XI.out;have DN:=XJ.out;have tF:w6.cell? ⟨rq,0,none⟩=some (.int .i64 bg):=(ag ru.out 0).trans rfl;have tG:w6.cell? ⟨rq,1,none⟩=some (.int .i64 aV):=(ag ru.out 1).trans rfl;have tH:=aa ru.out 0;have tI:=aa ru.out 1)|((with_reducible refine aZ (f:=66) rfl ?_);refine bO (some 15) rfl rfl Try.func66 (by kernel_rfl) rfl #[.int .i64 (wrap64 (aH*bg)),.int .i64 (wrap64 (aG*aV))] rfl (by (try simp only [List.map_toArray,List.map_cons,List.map_nil]);first|done|rfl|(simp only [List.length_drop,List.length_take];rfl)) ?_;(with_reducible refine (cr.calls k (wrap64 (aH*bg)) (wrap64 (aG*aV)) t131 a0Z _ A3.out).mono ?_);rintro e lD ⟨rfl,hb⟩;refine ⟨_,rfl,?_⟩;have ay:=Aside0.mk (ah (g:=oB) (o:= .cells #[.int .i64 aH,.int .i64 aG] 26 (0,0)) (aJ mS) hb);have aA:=Aside0.mk (ah (g:=rq) (o:= .cells #[.int .i64 bg,.int .i64 aV] 26 (0,0)) (aJ ru) hb);have aD:=Aside0.mk (ah (g:=ud) (o:= .cells #[.int .i64 0,.int .i64 0] 26 (0,0)) (aJ xQ) hb);have aR:=Aside0.mk (ai ax hb);clear mS;clear ru;clear xQ;clear HB;have mS:=ay;have ru:=aA;have xQ:=aD;have HB:=aR;clear ay aA aD aR;(try clear hb);(try clear hb2);(try clear hk);(try clear hi);have nC:lD.cell? ⟨ud,0,none⟩=some (.int .i64 0):=(ag xQ.out 0).trans rfl;have nD:lD.cell? ⟨ud,1,none⟩=some (.int .i64 0):=(ag xQ.out 1).trans rfl;have nE:=aa xQ.out 0;have nG:=aa xQ.out 1))
 refine bodyPost_ret (results_cell_row rfl _ _ ud 26 #[.int .i64 t131,.int .i64 a0Z] (0,0) _ rfl (by (with_reducible repeat (first|refine au ?_ _|refine ak ?_|refine aq ?_ _));refine aX (cs:= #[.int .i64 t131,.int .i64 0]) ?_ 1 _ rfl;(with_reducible repeat (first|refine au ?_ _|refine ak ?_|refine aq ?_ _));refine aX (cs:= #[.int .i64 0,.int .i64 0]) ?_ 0 _ rfl;(with_reducible repeat (first|refine au ?_ _|refine ak ?_|refine aq ?_ _));exact xQ.out) Try.underlying26 rfl (by kernel_rfl)) rfl ?_
 exact ⟨by first|rfl|(simp [aM,aQ]<;>rfl)|(simp [*,aM,aQ]<;>rfl),ax⟩
def kK.f (k:Nat) (aH:Int) (aG:Int) (bg:Int) (aV:Int):Option (Int×Int):=(cr.f k (wrap64 (aH*aV)) (wrap64 (aG*bg))).bind fun Ij=>(some (Ij.1,Ij.2))
theorem kK.mono:∀a0 a1 a2 a3 k,aW (kK.f k a0 a1 a2 a3) (kK.f (k+1) a0 a1 a2 a3):=by
 intro a0 a1 a2 a3 k
 unfold kK.f
 repeat' first
  |(with_reducible exact cr.mono _ _ _)
  |(with_reducible exact aW.refl _)
  |(with_reducible exact aW.none _)
  |(with_reducible refine aW.ite ?_ ?_)
  |(with_reducible refine aW.bind ?_ (fun _=>?_))
set_option maxHeartbeats 8000000 in
set_option maxRecDepth 100000 in
theorem kK.calls (k:Nat) (aH:Int) (aG:Int) (bg:Int) (aV:Int) (r1:Int) (r2:Int) (w:World) (h:kK.f k aH aG bg aV=some (r1,r2)):
 Calls Try.prog 62 #[.agg #[.int .i64 aH,.int .i64 aG],.agg #[.int .i64 bg,.int .i64 aV]] w fun e w'=>e= .returned (.agg #[.int .i64 r1,.int .i64 r2])/\Below w.heap.size w w':=by
 have lY:=Try.underlying26
 have HB:=Aside0.mk (Below.refl w.heap.size w)
 have H:((cr.f k (wrap64 (aH*aV)) (wrap64 (aG*bg))).bind fun Ij=>(some (Ij.1,Ij.2)))=some (r1,r2):=h
 clear h
 replace H:=Option.bind_eq_some_iff.mp H
 obtain ⟨⟨UX,a1a⟩,iO,H⟩:=H
 replace H:(some (UX,a1a))=some (r1,r2):=H
 have A3:=Aside0.mk iO
 clear iO
 simp only [Option.some.injEq,Prod.mk.injEq] at H
 obtain ⟨rfl,rfl⟩:=H
 go_enter Try.func62,Try.ntmps62
 go_wp2_with (first|((with_reducible refine bk (N:=2) rfl ?_);refine bp ?hg (N:=2) ?hd (cs:= #[.int .i64 aH,.int .i64 aG]) (t:=26) ?hr ?_;(case hd=>rfl);(case hg=>rfl);(case hr=>first|(go_simp;done)|(go_simp;rfl));intro oD hg w4 aU hb;have ay:=Aside0.mk (ai ax hb);have aA:=Aside0.mk (aU);have aD:=Aside0.mk ((by rw [hg];exact (av ax):w.heap.size<=oD));have aR:=Aside0.mk ((by rw [hg];exact (av ax):w.heap.size<=oD));clear HB;have HB:=ay;have mU:=aA;have GW118:=aD;have GE118:=aR;clear ay aA aD aR;clear hb aU hg)|((with_reducible refine bk (N:=3) rfl ?_);refine bp ?hg (N:=3) ?hd (cs:= #[.int .i64 bg,.int .i64 aV]) (t:=26) ?hr ?_;(case hd=>rfl);(case hg=>rfl);(case hr=>first|(go_simp;done)|(go_simp;rfl));intro ry hg w5 aU hb;have ay:=Aside0.mk (ah (g:=oD) (o:= .cells #[.int .i64 aH,.int .i64 aG] 26 (0,0)) (aJ mU) hb);have aA:=Aside0.mk (ai ax hb);have aD:=Aside0.mk (aU);have aR:=Aside0.mk ((by rw [hg];exact (av ax):w.heap.size<=ry));have bK:=Aside0.mk ((by rw [hg];exact (av ax):w.heap.size<=ry));have bT:=Aside0.mk ((by rw [hg];exact Nat.ne_of_lt (aY (g:=oD) (o:= .cells #[.int .i64 aH,.int .i64 aG] 26 (0,0)) (aJ mU)):oD≠ry));have cm:=Aside0.mk ((by rw [hg];exact Nat.ne_of_gt (aY (g:=oD) (o:= .cells #[.int .i64 aH,.int .i64 aG] 26 (0,0)) (aJ mU)):ry≠oD));clear mU;clear HB;have mU:=ay;have HB:=aA;have rz:=aD;have GW119:=aR;have GE119:=bK;have XK:=bT;have XL:=cm;clear ay aA aD aR bK bT cm;clear hb aU hg)|((with_reducible refine bk (N:=4) rfl ?_);refine bp ?hg (N:=4) ?hd (cs:= #[.int .i64 0,.int .i64 0]) (t:=26) ?hr ?_;(case hd=>rfl);(case hg=>rfl);(case hr=>first|(go_simp;done)|(go_simp;rfl));intro ue hg w6 aU hb;have ay:=Aside0.mk (ah (g:=oD) (o:= .cells #[.int .i64 aH,.int .i64 aG] 26 (0,0)) (aJ mU) hb);have aA:=Aside0.mk (ah (g:=ry) (o:= .cells #[.int .i64 bg,.int .i64 aV] 26 (0,0)) (aJ rz) hb);have aD:=Aside0.mk (ai ax hb);have aR:=Aside0.mk (aU);have bK:=Aside0.mk ((by rw [hg];exact (av ax):w.heap.size<=ue));have bT:=Aside0.mk ((by rw [hg];exact (av ax):w.heap.size<=ue));have cm:=Aside0.mk ((by rw [hg];exact Nat.ne_of_lt (aY (g:=oD) (o:= .cells #[.int .i64 aH,.int .i64 aG] 26 (0,0)) (aJ mU)):oD≠ue));have iP:=Aside0.mk ((by rw [hg];exact Nat.ne_of_gt (aY (g:=oD) (o:= .cells #[.int .i64 aH,.int .i64 aG] 26 (0,0)) (aJ mU)):ue≠oD));have jk:=Aside0.mk ((by rw [hg];exact Nat.ne_of_lt (aY (g:=ry) (o:= .cells #[.int .i64 bg,.int .i64 aV] 26 (0,0)) (aJ rz)):ry≠ue));have ke:=Aside0.mk ((by rw [hg];exact Nat.ne_of_gt (aY (g:=ry) (o:= .cells #[.int .i64 bg,.int .i64 aV] 26 (0,0)) (aJ rz)):ue≠ry));clear mU;clear rz;clear HB;have mU:=ay;have rz:=aA;have HB:=aD;have xR:=aR;have GW120:=bK;have GE120:=bT;have XM:=cm;have XN:=iP;have XO:=jk;have XP:=ke;clear ay aA aD aR bK bT cm iP jk ke;clear hb aU hg;have Fq:=XK.out;have Fs:=XL.out;have KN:=XM.out;have KO:=XN.out;have wH:w6.cell? ⟨oD,0,none⟩=some (.int .i64 aH):=(ag mU.out 0).trans rfl;have wI:w6.cell? ⟨oD,1,none⟩=some (.int .i64 aG):=(ag mU.out 1).trans rfl;have wJ:=aa mU.out 0;have wK:=aa mU.out 1;have DM:=XO.out;have DN:=XP.out;have tF:w6.cell? ⟨ry,0,none⟩=some (.int .i64 bg):=(ag rz.out 0).trans rfl;have tG:w6.cell? ⟨ry,1,none⟩=some (.int .i64 aV):=(ag rz.out 1).trans rfl;have tH:=aa rz.out 0;have tI:=aa rz.out 1)|((with_reducible refine aZ (f:=66) rfl ?_);refine bO (some 15) rfl rfl Try.func66 (by kernel_rfl) rfl #[.int .i64 (wrap64 (aH*aV)),.int .i64 (wrap64 (aG*bg))] rfl (by (try simp only [List.map_toArray,List.map_cons,List.map_nil]);first|done|rfl|(simp only [List.length_drop,List.length_take];rfl)) ?_;(with_reducible refine (cr.calls k (wrap64 (aH*aV)) (wrap64 (aG*bg)) UX a1a _ A3.out).mono ?_);rintro e lD ⟨rfl,hb⟩;refine ⟨_,rfl,?_⟩;have ay:=Aside0.mk (ah (g:=oD) (o:= .cells #[.int .i64 aH,.int .i64 aG] 26 (0,0)) (aJ mU) hb);have aA:=Aside0.mk (ah (g:=ry) (o:= .cells #[.int .i64 bg,.int .i64 aV] 26 (0,0)) (aJ rz) hb);have aD:=Aside0.mk (ah (g:=ue) (o:= .cells #[.int .i64 0,.int .i64 0] 26 (0,0)) (aJ xR) hb);have aR:=Aside0.mk (ai ax hb);clear mU;clear rz;clear xR;clear HB;have mU:=ay;have rz:=aA;have xR:=aD;have HB:=aR;clear ay aA aD aR;(try clear hb);(try clear hb2);(try clear hk);(try clear hi);have nC:lD.cell? ⟨ue,0,none⟩=some (.int .i64 0):=(ag xR.out 0).trans rfl;have nD:lD.cell? ⟨ue,1,none⟩=some (.int .i64 0):=(ag xR.out 1).trans rfl;have nE:=aa xR.out 0;have nG:=aa xR.out 1))
 refine bodyPost_ret (results_cell_row rfl _ _ ue 26 #[.int .i64 UX,.int .i64 a1a] (0,0) _ rfl (by (with_reducible repeat (first|refine au ?_ _|refine ak ?_|refine aq ?_ _));refine aX (cs:= #[.int .i64 UX,.int .i64 0]) ?_ 1 _ rfl;(with_reducible repeat (first|refine au ?_ _|refine ak ?_|refine aq ?_ _));refine aX (cs:= #[.int .i64 0,.int .i64 0]) ?_ 0 _ rfl;(with_reducible repeat (first|refine au ?_ _|refine ak ?_|refine aq ?_ _));exact xR.out) Try.underlying26 rfl (by kernel_rfl)) rfl ?_
 exact ⟨by first|rfl|(simp [aM,aQ]<;>rfl)|(simp [*,aM,aQ]<;>rfl),ax⟩
def cw.f (aH:Int) (aG:Int) (bg:Int) (aV:Int):Option (Bool):=some (decide ((wrap64 (aH*aV))<(wrap64 (bg*aG))))
set_option maxHeartbeats 8000000 in
set_option maxRecDepth 100000 in
theorem cw.calls (aH:Int) (aG:Int) (bg:Int) (aV:Int) (r:Bool) (w:World) (h:cw.f aH aG bg aV=some r):
 Calls Try.prog 65 #[.agg #[.int .i64 aH,.int .i64 aG],.agg #[.int .i64 bg,.int .i64 aV]] w fun e w'=>e= .returned (.bool r)/\Below w.heap.size w w':=by
 have lY:=Try.underlying26
 have HB:=Aside0.mk (Below.refl w.heap.size w)
 have H:(some (decide ((wrap64 (aH*aV))<(wrap64 (bg*aG)))))=some r:=h
 clear h
 obtain rfl:=Option.some.inj H
 go_enter Try.func65,Try.ntmps65
 go_wp2_with (first|((with_reducible refine bk (N:=2) rfl ?_);refine bp ?hg (N:=2) ?hd (cs:= #[.int .i64 aH,.int .i64 aG]) (t:=26) ?hr ?_;(case hd=>rfl);(case hg=>rfl);(case hr=>first|(go_simp;done)|(go_simp;rfl));intro vQ hg w3 aU hb;have ay:=Aside0.mk (ai ax hb);have aA:=Aside0.mk (aU);have aD:=Aside0.mk ((by rw [hg];exact (av ax):w.heap.size<=vQ));have aR:=Aside0.mk ((by rw [hg];exact (av ax):w.heap.size<=vQ));clear HB;have HB:=ay;have vR:=aA;have GW176:=aD;have GE176:=aR;clear ay aA aD aR;clear hb aU hg)|((with_reducible refine bk (N:=3) rfl ?_);refine bp ?hg (N:=3) ?hd (cs:= #[.int .i64 bg,.int .i64 aV]) (t:=26) ?hr ?_;(case hd=>rfl);(case hg=>rfl);(case hr=>first|(go_simp;done)|(go_simp;rfl));intro DO hg w4 aU hb;have ay:=Aside0.mk (ah (g:=vQ) (o:= .cells #[.int .i64 aH,.int .i64 aG] 26 (0,0)) (aJ vR) hb);have aA:=Aside0.mk (ai ax hb);have aD:=Aside0.mk (aU);have aR:=Aside0.mk ((by rw [hg];exact (av ax):w.heap.size<=DO));have bK:=Aside0.mk ((by rw [hg];exact (av ax):w.heap.size<=DO));have bT:=Aside0.mk ((by rw [hg];exact Nat.ne_of_lt (aY (g:=vQ) (o:= .cells #[.int .i64 aH,.int .i64 aG] 26 (0,0)) (aJ vR)):vQ≠DO));have cm:=Aside0.mk ((by rw [hg];exact Nat.ne_of_gt (aY (g:=vQ) (o:= .cells #[.int .i64 aH,.int .i64 aG] 26 (0,0)) (aJ vR)):DO≠vQ));clear vR;clear HB;have vR:=ay;have HB:=aA;have NF:=aD;have GW177:=aR;have GE177:=bK;have XQ:=bT;have XR:=cm;clear ay aA aD aR bK bT cm;clear hb aU hg;have b7C:=XQ.out;have b7D:=XR.out;have OO:w4.cell? ⟨vQ,0,none⟩=some (.int .i64 aH):=(ag vR.out 0).trans rfl;have OP:w4.cell? ⟨vQ,1,none⟩=some (.int .i64 aG):=(ag vR.out 1).trans rfl;have OQ:=aa vR.out 0;have OS:=aa vR.out 1;have OC:w4.cell? ⟨DO,0,none⟩=some (.int .i64 bg):=(ag NF.out 0).trans rfl;have OD:w4.cell? ⟨DO,1,none⟩=some (.int .i64 aV):=(ag NF.out 1).trans rfl;have OE:=aa NF.out 0;have OG:=aa NF.out 1))
 go_ret
 exact ⟨by first|rfl|(simp [aM,aQ]<;>rfl)|(simp [*,aM,aQ]<;>rfl),ax⟩
end Go.Proofs.Ytnhknojfpjheoaa.P
namespace Go.Proofs.Ytnhknojfpjheoaa.PT
open Go.RowKit Go.Proofs.Ytnhknojfpjheoaa.P Go.Proofs.YtnhknojfpjheoaaW.PrintWords Go.Proofs.YtnhknojfpjheoaaW.PrintLast Go.Proofs.Ytnhknojfpjheoaa.EvKit Go.Proofs.Ytnhknojfpjheoaa.Num Go.Proofs.Ytnhknojfpjheoaa.Lp
set_option linter.all false
theorem cL {n:Int} (h1: -9223372036854775808<=n) (h2:n<=9223372036854775807):wrap64 n=n:=by
 unfold wrap64;omega
theorem Pp:∀(n k:Nat) (a b:Int),0<=a->0<=b->b.natAbs<=n->n<k->dX.f k a b=some (Int.gcd a b:Int)
 |n,0,_,_,_,_,_,hk=>absurd hk (by omega)
 |n,k+1,a,b,ha,hb,hn,hk=>by
  simp only [dX.f]
  by_cases h:b=0
  ·subst h;rw [if_pos rfl,Int.gcd_zero];congr 1;omega
  ·rw [if_neg h]
   have hlt:=Int.tmod_lt_of_pos a (show 0<b by omega)
   have hge:=Int.tmod_nonneg b ha
   rw [Pp (n - 1) k b (a.tmod b) hb hge (by omega) (by omega),Pg];rfl
theorem a9e {a:Int} (h1: -9223372036854775807<=a) (h2:a<=9223372036854775807):mx a (wrap64 (-a))=(a.natAbs:Int):=by
 rw [cL (by omega) (by omega)];unfold mx;split<;>omega
theorem Mf:∀(n k:Nat) (a b:Int),a.natAbs<=9223372036854775807->b.natAbs<=9223372036854775807->b.natAbs<=n->n<k->dn.l0 k a b=some (Int.gcd a b:Int)
 |n,0,_,_,_,_,_,hk=>absurd hk (by omega)
 |n,k+1,a,b,ha,hb,hn,hk=>by
  simp only [dn.l0]
  by_cases h:b=0
  ·subst h;rw [if_pos rfl,Int.gcd_zero,a9e (by omega) (by omega)]
  ·rw [if_neg h]
   have hlt:(a.tmod b).natAbs<b.natAbs:=by rw [Int.natAbs_tmod];exact Nat.mod_lt _ (by omega)
   rw [Mf (n - 1) k b (a.tmod b) hb (by omega) (by omega) (by omega),Pg]
theorem XS (k:Nat) (a b:Int) (ha:a.natAbs<=9223372036854775807) (hb:b.natAbs<=9223372036854775807) (hk:b.natAbs<k):dn.f k a b=some (Int.gcd a b:Int):=
 Mf b.natAbs k a b ha hb (Nat.le_refl _) hk
theorem vS (a b c:Int):dA.f a b c=some (decide (b<=a/\a<=c)):=by
 unfold dA.f
 by_cases h:a>=b
 ·rw [if_pos h];simp [h]
 ·rw [if_neg h];simp [h]
theorem abs_eq (a:Int) (h1:a.natAbs<=9223372036854775807):iG.f a=some (a.natAbs:Int):=by
 unfold iG.f
 split
 ·rw [cL (by omega) (by omega)];congr 1;omega
 ·congr 1;omega
def xS (n d:Int):Prop:=1<=d/\d<=1000000/\ -1000000<=n/\n<=1000000/\Int.gcd n d=1
instance (n d:Int):Decidable (xS n d):=by unfold xS;infer_instance
theorem qh (k:Nat) (n d:Int) (hk:1000000<k):bS.f k n d=some (decide (xS n d)):=by
 unfold bS.f
 rw [vS];simp only [Option.bind_some]
 by_cases h:1<=d/\d<=1000000
 ·rw [if_pos (by simpa using h),vS];simp only [Option.bind_some]
  by_cases h2: -1000000<=n/\n<=1000000
  ·rw [if_pos (by simpa using h2),XS k _ _ (by omega) (by omega) (by omega)];simp only [Option.bind_some]
   congr 1
   rw [Bool.eq_iff_iff];unfold xS;simp [h,h2];omega
  ·rw [if_neg (by simpa using h2),decide_eq_false (p:=xS n d) (fun ⟨_,_,_,_,_⟩=>by omega)]
 ·rw [if_neg (by simpa using h),decide_eq_false (p:=xS n d) (fun ⟨_,_,_,_,_⟩=>by omega)]
theorem XT (k:Nat) (n d:Int) (hd:d≠0) (hn:n.natAbs<=9223372036854775807) (Mg:d.natAbs<=9223372036854775807) (hk:d.natAbs<k):
 cr.f k n d=some (mj n d,kY n d):=by
 have hg:=tD (n:=n) hd
 have hgl:(Int.gcd n d:Int)<=d.natAbs:=by
  have:=Int.gcd_le_natAbs_right n (b:=d) (by omega);omega
 have hN:=Ce (n:=n) hd
 have hD:=Cf (n:=n) hd
 have hga:(Int.gcd (n.natAbs:Int) (d.natAbs:Int):Int)=Int.gcd n d:=by unfold Int.gcd;simp
 unfold cr.f
 rw [abs_eq _ hn,abs_eq _ Mg];simp only [Option.bind_some]
 rw [Pp d.natAbs k _ _ (by omega) (by omega) (by omega) hk];simp only [Option.bind_some]
 rw [hga]
 unfold mj kY at*
 by_cases h:d<0
 ·rw [if_pos h,cL (n:= -(Int.gcd n d:Int)) (by omega) (by omega),if_neg (by omega),vE,uA]
  rw [if_pos h] at hN hD⊢
  rw [if_pos h,cL (by omega) (by omega),cL (by omega) (by omega)]
 ·rw [if_neg h,if_neg (by omega),vr,tE]
  rw [if_neg h] at hN hD⊢
  rw [if_neg h,cL (by omega) (by omega),cL (by omega) (by omega)]
theorem XU (k:Nat) (n d:Int) (hd:d≠0) (hn:n.natAbs<=9223372036854775807) (Mg:d.natAbs<=9223372036854775807) (hk:d.natAbs<k) (hk2:1000000<k):
 bD.f k n d=some (if xS (mj n d) (kY n d) then (mj n d,kY n d) else (0,0)):=by
 have hg:=tD (n:=n) hd
 have hgl:(Int.gcd n d:Int)<=d.natAbs:=by
  have:=Int.gcd_le_natAbs_right n (b:=d) (by omega);omega
 have hN:=Ce (n:=n) hd
 have hD:=Cf (n:=n) hd
 unfold bD.f
 rw [XS k n d hn Mg hk];simp only [Option.bind_some]
 unfold mj kY at*
 by_cases h:d<0
 ·rw [if_pos h,cL (n:= -(Int.gcd n d:Int)) (by omega) (by omega),if_neg (by omega),vE,uA]
  rw [if_pos h] at hN hD
  simp only [if_pos h]
  rw [cL (n:= -(n/_)) (by omega) (by omega),cL (n:= -(d/_)) (by omega) (by omega),qh _ _ _ hk2];simp only [Option.bind_some,decide_eq_true_eq]
  split<;>rfl
 ·rw [if_neg h,if_neg (by omega),vr,tE]
  rw [if_neg h] at hN hD
  simp only [if_neg h]
  rw [cL (n:=(n/_)) (by omega) (by omega),cL (n:=(d/_)) (by omega) (by omega),qh _ _ _ hk2];simp only [Option.bind_some,decide_eq_true_eq]
  split<;>rfl
abbrev V (q:Rat):Value:= .agg #[.int .i64 q.num,.int .i64 (q.den:Int)]
def Ok (q:Rat):Prop:=q.num.natAbs<=1000000/\q.den<=1000000
theorem Qu.ok {a b:Nat} {q:Rat} (h:Qu a b q) (ha:a<=1000000) (hb:b<=1000000):Ok q:=⟨by have:=h.num;omega,by have:=h.num;omega⟩
theorem Ok.rat {q:Rat} (h:Ok q):xS q.num (q.den:Int):=⟨by have:=q.den_pos;omega,by have:=h.2;omega,by have:=h.1;omega,by have:=h.1;omega,xI q⟩
theorem uf {n d:Int} {q:Rat} (hd:d≠0) (e:q*(d:Rat)=(n:Rat)) (hn:n.natAbs<=9223372036854775807) (Mg:d.natAbs<=9223372036854775807):Ev (fun k=>cr.f k n d) (q.num,(q.den:Int)):=
 ⟨d.natAbs+1,fun k hk=>by show cr.f k n d=_;rw [XT k n d hd hn Mg (by omega),Pj hd e];rfl⟩
theorem qG {n d:Int} {q:Rat} (hd:d≠0) (e:q*(d:Rat)=(n:Rat)) (hn:n.natAbs<=9223372036854775807) (Mg:d.natAbs<=9223372036854775807) (ok:Ok q):Ev (fun k=>bD.f k n d) (q.num,(q.den:Int)):=
 by
 obtain ⟨K,hK1,hK2⟩:∃K,d.natAbs<K/\1000000<K:=⟨d.natAbs+1000001,by omega,by omega⟩
 exact ⟨K,fun k hk=>by
  show bD.f k n d=_
  rw [XU k n d hd hn Mg (by omega) (by omega)]
  have h:=Pj hd e
  have h1:mj n d=q.num:=congrArg Prod.fst h
  have h2:kY n d=(q.den:Int):=congrArg Prod.snd h
  rw [h1,h2,if_pos ok.rat]⟩
theorem lV {x y:Int} {c d:Nat} (h1:x.natAbs<=c) (h2:y.natAbs<=d):(x*y).natAbs<=c*d:=by rw [Int.natAbs_mul];exact Nat.mul_le_mul h1 h2
structure Sz (a b:Nat) (x:Rat):Prop where
 n:x.num.natAbs<=a
 d:x.den<=b
theorem Qu.sz {a b:Nat} {q:Rat} (h:Qu a b q):Sz a b q:=⟨h.num.1,h.num.2⟩
theorem Ok.sz {q:Rat} (h:Ok q):Sz 1000000 1000000 q:=⟨h.1,h.2⟩
theorem uI (q:Rat):((q.den:Int))≠0:=by have:=q.den_pos;omega
theorem jW (q:Rat):(q.den:Int).natAbs=q.den:=by omega
section
variable {x y:Rat} {a b c d:Nat}
theorem qH (hx:Sz a b x) (hy:Sz c d y) (h1:a*d+c*b<=9223372036854775807) (h2:b*d<=9223372036854775807):
 (x.num*(y.den:Int)).natAbs<=a*d/\(y.num*(x.den:Int)).natAbs<=c*b/\((x.den:Int)*(y.den:Int)).natAbs<=b*d/\(x.den:Int)*(y.den:Int)≠0:=
 ⟨lV hx.n (by rw [jW];exact hy.d),lV hy.n (by rw [jW];exact hx.d),lV (by rw [jW];exact hx.d) (by rw [jW];exact hy.d),Int.mul_ne_zero (uI x) (uI y)⟩
theorem wraps (hx:Sz a b x) (hy:Sz c d y) (h1:a*d+c*b<=9223372036854775807) (h2:b*d<=9223372036854775807):
 wrap64 (wrap64 (x.num*(y.den:Int))- wrap64 (y.num*(x.den:Int)))=x.num*y.den - y.num*x.den/\wrap64 (wrap64 (x.num*(y.den:Int))+wrap64 (y.num*(x.den:Int)))=x.num*y.den+y.num*x.den/\wrap64 ((x.den:Int)*(y.den:Int))=(x.den:Int)*y.den:=by
 obtain ⟨f1,f2,f3,f4⟩:=qH hx hy h1 h2
 generalize x.num*(y.den:Int)=p at*
 generalize y.num*(x.den:Int)=q at*
 generalize (x.den:Int)*(y.den:Int)=r at*
 rw [cL (n:=p) (by omega) (by omega),cL (n:=q) (by omega) (by omega),cL (n:=r) (by omega) (by omega),cL (by omega) (by omega),cL (by omega) (by omega)]
 exact ⟨rfl,rfl,rfl⟩
theorem XV (hx:Sz a b x) (hy:Sz c d y) (h1:a*c<=9223372036854775807) (h2:b*d<=9223372036854775807):
 wrap64 (x.num*y.num)=x.num*y.num/\wrap64 ((x.den:Int)*(y.den:Int))=(x.den:Int)*y.den/\(x.num*y.num).natAbs<=a*c/\((x.den:Int)*y.den).natAbs<=b*d:=by
 have f1:(x.num*y.num).natAbs<=a*c:=lV hx.n hy.n
 have f2:((x.den:Int)*(y.den:Int)).natAbs<=b*d:=lV (by rw [jW];exact hx.d) (by rw [jW];exact hy.d)
 exact ⟨cL (by omega) (by omega),cL (by omega) (by omega),f1,f2⟩
theorem XW (hx:Sz a b x) (hy:Sz c d y) (h1:a*d<=9223372036854775807) (h2:b*c<=9223372036854775807):
 wrap64 (x.num*(y.den:Int))=x.num*y.den/\wrap64 ((x.den:Int)*y.num)=(x.den:Int)*y.num/\(x.num*(y.den:Int)).natAbs<=a*d/\((x.den:Int)*y.num).natAbs<=b*c:=by
 have f1:(x.num*(y.den:Int)).natAbs<=a*d:=lV hx.n (by rw [jW];exact hy.d)
 have f2:((x.den:Int)*y.num).natAbs<=b*c:=lV (by rw [jW];exact hx.d) hy.n
 exact ⟨cL (by omega) (by omega),cL (by omega) (by omega),f1,f2⟩
theorem qi {g:Nat->Option (Int×Int)} {r:Int×Int} (h:Ev g r):Ev (fun k=>(g k).bind fun t=>some (t.1,t.2)) r:=by
 obtain ⟨k0,h⟩:=h
 exact ⟨k0,fun k hk=>by show (g k).bind _=_;rw [h k hk];rfl⟩
theorem KR (w:World) (hx:Sz a b x) (hy:Sz c d y) (h1:a*d+c*b<=9223372036854775807) (h2:b*d<=9223372036854775807) (ok:Ok (x - y)):
 Calls Try.prog 85 #[V x,V y] w fun e w'=>e= .returned (V (x - y))/\Below w.heap.size w w':=by
 obtain ⟨f1,f2,f3,f4⟩:=qH hx hy h1 h2
 obtain ⟨e1,_,e3⟩:=wraps hx hy h1 h2
 obtain ⟨k,hk⟩:=qi (qG f4 (sub_mul x y) (by omega) (by omega) ok)
 exact ji.calls k x.num x.den y.num y.den _ _ w (by unfold ji.f;rw [e1,e3];exact hk k (Nat.le_refl _))
theorem a6v (w:World) (hx:Sz a b x) (hy:Sz c d y) (h1:a*c<=9223372036854775807) (h2:b*d<=9223372036854775807) (ok:Ok (x*y)):
 Calls Try.prog 88 #[V x,V y] w fun e w'=>e= .returned (V (x*y))/\Below w.heap.size w w':=by
 obtain ⟨e1,e2,f1,f2⟩:=XV hx hy h1 h2
 obtain ⟨k,hk⟩:=qi (qG (Int.mul_ne_zero (uI x) (uI y)) (RZ x y) (by omega) (by omega) ok)
 exact jl.calls k x.num x.den y.num y.den _ _ w (by unfold jl.f;rw [e1,e2];exact hk k (Nat.le_refl _))
theorem Ci (w:World) (hx:Sz a b x) (hy:Sz c d y) (h1:a*d<=9223372036854775807) (h2:b*c<=9223372036854775807) (hy0:y≠0) (ok:Ok (x/y)):
 Calls Try.prog 86 #[V x,V y] w fun e w'=>e= .returned (V (x/y))/\Below w.heap.size w w':=by
 obtain ⟨e1,e2,f1,f2⟩:=XW hx hy h1 h2
 obtain ⟨k,hk⟩:=qi (qG (Int.mul_ne_zero (uI x) (WW hy0)) (div_mul x hy0) (by omega) (by omega) ok)
 exact kf.calls k x.num x.den y.num y.den _ _ w (by unfold kf.f;rw [e1,e2];exact hk k (Nat.le_refl _))
def jC (q:Rat):Int:=if q<0 then -1 else if 0<q then 1 else 0
theorem a9f (q:Rat):mn (mx q.num (-1)) 1=jC q:=by
 unfold jC
 have h1:=@sign_neg q
 have h2:=@a0U q
 by_cases c1:q<0
 ·rw [if_pos c1];have:=h1.2 c1;unfold mn mx;split<;>split<;>omega
 ·rw [if_neg c1]
  have:¬q.num<0:=fun h=>c1 (h1.1 h)
  by_cases c2:0<q
  ·rw [if_pos c2];have:=h2.2 c2;unfold mn mx;split<;>split<;>omega
  ·rw [if_neg c2];have:¬0<q.num:=fun h=>c2 (h2.1 h)
   unfold mn mx;split<;>split<;>omega
theorem wV (x:Rat) (w:World):
 Calls Try.prog 87 #[V x] w fun e w'=>e= .returned (.int .i64 (jC x))/\Below w.heap.size w w':=
 qY.calls x.num x.den _ w (by unfold qY.f;rw [a9f])
theorem a3T (w:World) (hx:Ok x) (hy:Ok y) (ok:Ok (x+y)):
 Calls Try.prog 20 #[V x,V y] w fun e w'=>e= .returned (V (x+y))/\Below w.heap.size w w':=by
 have h1:1000000*1000000+1000000*1000000<=9223372036854775807:=by omega
 obtain ⟨f1,f2,f3,f4⟩:=qH hx.sz hy.sz h1 (by omega)
 obtain ⟨_,e2,e3⟩:=wraps hx.sz hy.sz h1 (by omega)
 obtain ⟨k0,hk⟩:=qi (qG f4 (add_mul x y) (by omega) (by omega) ok)
 obtain ⟨k,hk0,wW⟩:∃K,k0<=K/\1000000<K:=⟨k0+1000001,by omega,by omega⟩
 refine lQ.calls k x.num x.den y.num y.den _ _ w ?_
 unfold lQ.f
 rw [qh _ _ _ (by omega),decide_eq_true hx.rat]
 simp only [Option.bind_some,if_true]
 rw [qh _ _ _ (by omega),decide_eq_true hy.rat]
 simp only [Option.bind_some,if_true]
 rw [e2,e3];exact hk k hk0
theorem Si (hx:Sz a b x) (hy:Sz c d y) (h1:a*d+c*b<=9223372036854775807) (h2:b*d<=9223372036854775807):Ev (fun k=>fL.f k x.num x.den y.num y.den) ((x+y).num,((x+y).den:Int)):=by
 obtain ⟨f1,f2,f3,f4⟩:=qH hx hy h1 h2
 obtain ⟨_,e2,e3⟩:=wraps hx hy h1 h2
 refine Ev.congr (fun k=>?_) (qi (uf f4 (add_mul x y) (by omega) (by omega)))
 unfold fL.f;rw [e2,e3]
theorem a1b (hx:Sz a b x) (hy:Sz c d y) (h1:a*d+c*b<=9223372036854775807) (h2:b*d<=9223372036854775807):Ev (fun k=>jK.f k x.num x.den y.num y.den) ((x - y).num,((x - y).den:Int)):=by
 obtain ⟨f1,f2,f3,f4⟩:=qH hx hy h1 h2
 obtain ⟨e1,_,e3⟩:=wraps hx hy h1 h2
 refine Ev.congr (fun k=>?_) (qi (uf f4 (sub_mul x y) (by omega) (by omega)))
 unfold jK.f;rw [e1,e3]
theorem a1c (hx:Sz a b x) (hy:Sz c d y) (h1:a*c<=9223372036854775807) (h2:b*d<=9223372036854775807):Ev (fun k=>jL.f k x.num x.den y.num y.den) ((x*y).num,((x*y).den:Int)):=by
 obtain ⟨e1,e2,f1,f2⟩:=XV hx hy h1 h2
 refine Ev.congr (fun k=>?_) (qi (uf (Int.mul_ne_zero (uI x) (uI y)) (RZ x y) (by omega) (by omega)))
 unfold jL.f;rw [e1,e2]
theorem a6w (hx:Sz a b x) (hy:Sz c d y) (h1:a*d<=9223372036854775807) (h2:b*c<=9223372036854775807) (hy0:y≠0):Ev (fun k=>kK.f k x.num x.den y.num y.den) ((x/y).num,((x/y).den:Int)):=by
 obtain ⟨e1,e2,f1,f2⟩:=XW hx hy h1 h2
 refine Ev.congr (fun k=>?_) (qi (uf (Int.mul_ne_zero (uI x) (WW hy0)) (div_mul x hy0) (by omega) (by omega)))
 unfold kK.f;rw [e1,e2]
theorem FP (x y:Rat):(x.num*(y.den:Int)<y.num*(x.den:Int))↔x<y:=by
 have h:=Rat.lt_iff x y
 exact h.symm
theorem wq (hx:Sz a b x) (hy:Sz c d y) (h1:a*d+c*b<=9223372036854775807):cw.f x.num x.den y.num y.den=some (decide (x<y)):=by
 have f1:(x.num*(y.den:Int)).natAbs<=a*d:=lV hx.n (by rw [jW];exact hy.d)
 have f2:(y.num*(x.den:Int)).natAbs<=c*b:=lV hy.n (by rw [jW];exact hx.d)
 unfold cw.f
 rw [cL (n:=x.num*(y.den:Int)) (by omega) (by omega),cL (n:=y.num*(x.den:Int)) (by omega) (by omega)]
 congr 1
 exact decide_eq_decide.2 (FP x y)
end
structure gD (cs:Array Value) (m N K:Nat) (T:bw):Prop where
 size:cs.size=531
 one:cs.all (·.oneCell')=true
 num:∀i j,i<m+K->j<=N->cs[i*32+j*2]? =some (.int .i64 (T.cell i j).num)
 den:∀i j,i<m+K->j<=N->cs[i*32+j*2+1]? =some (.int .i64 ((T.cell i j).den:Int))
 fc:∀r,r<m->cs[512+r]? =some (.int .i64 (T.basis r:Int))
 rows:cs[528]? =some (.int .i64 (m:Int))
 ni:cs[529]? =some (.int .i64 (N:Int))
 costs:cs[530]? =some (.int .i64 (K:Int))
 hm:m+K<=16
 hN:N<16
def ug (w:World) (B m N K:Nat) (T:bw):Prop:=∃cs,w.heap[B]? =some (.cells cs 62 (0,0))/\gD cs m N K T
theorem ug.moves {w W:World} {B m N K:Nat} {T:bw} (h:ug w B m N K T) (e:W.heap[B]? =w.heap[B]?):ug W B m N K T:=by
 obtain ⟨cs,h1,h2⟩:=h;exact ⟨cs,e.trans h1,h2⟩
theorem ug.below {w W:World} {B m N K:Nat} {T:bw} (h:ug w B m N K T) (hb:Below w.heap.size w W):ug W B m N K T:=by
 refine h.moves ?_
 obtain ⟨cs,h1,_⟩:=h
 have:=(Array.getElem?_eq_some_iff.1 h1).1
 exact hb.block _ this
theorem rD {q:Rat}:jC q=0↔q=0:=by
 unfold jC
 constructor
 ·intro h
  by_cases h1:q<0
  ·rw [if_pos h1] at h;omega
  ·rw [if_neg h1] at h
   by_cases h2:0<q
   ·rw [if_pos h2] at h;omega
   ·grind
 ·intro h;subst h;rfl
theorem zq (a b:Int) (w:World):(method 207 26 (.agg #[.int .i64 a,.int .i64 b]) "loop.example/s01205/impl.sign").run Try.prog w= .ok (87,.agg #[.int .i64 a,.int .i64 b]) w:=by kernel_rfl
theorem KS (a b:Int) (w:World):(method 207 26 (.agg #[.int .i64 a,.int .i64 b]) "loop.example/s01205/impl.minus").run Try.prog w= .ok (85,.agg #[.int .i64 a,.int .i64 b]) w:=by kernel_rfl
theorem a6x (a b:Int) (w:World):(method 207 26 (.agg #[.int .i64 a,.int .i64 b]) "loop.example/s01205/impl.times").run Try.prog w= .ok (88,.agg #[.int .i64 a,.int .i64 b]) w:=by kernel_rfl
theorem Pq (a b:Int) (w:World):(method 207 26 (.agg #[.int .i64 a,.int .i64 b]) "loop.example/s01205/impl.over").run Try.prog w= .ok (86,.agg #[.int .i64 a,.int .i64 b]) w:=by kernel_rfl
def mm (T:bw) (m c:Nat):Nat->Nat->Int
 |_,0=>0
 |k,d+1=>if T.cell (m+k) c=0 then mm T m c (k+1) d else jC (T.cell (m+k) c)
theorem bz {w:World} {B:Nat} {cs:Array Value} {t:TypeId} (h:w.heap[B]? =some (.cells cs t (0,0))) {k:Nat} {v:Value} (hv:cs[k]? =some v):w.cell? ⟨B,k,none⟩=some v:=(ag h k).trans hv
set_option maxHeartbeats 4000000 in
set_option maxRecDepth 100000 in
theorem Nq (B m N K c:Nat) (T:bw) (w:World) (hT:ug w B m N K T) (hc:c<=N):
 Calls Try.prog 58 #[.pointer (some ⟨B,0,none⟩),.int .i64 (c:Int)] w fun e w'=>e= .returned (.int .i64 (mm T m c 0 K))/\Below w.heap.size w w':=by
 obtain ⟨cs,hB,hR⟩:=hT
 have hu:=Try.underlying62
 have hrows:=bz hB hR.rows
 have Pr:=bz hB hR.costs
 have HR:=Aside0.mk hR
 have HB:=Aside0.mk hB
 clear hR hB
 go_enter Try.func58,Try.ntmps58
 go_wp2
 repeat (go_quiet (fail);try go_wp2)
 go_loopw [11] (fun kv wr=>∃k:Nat,kv= .int .i64 (k:Int)/\k<=K/\Aside0 (mm T m c 0 K=mm T m c k (K - k))/\Below w.heap.size w wr) (fun kv _=>K -(intOf kv).toNat)
 case atStart=>exact ⟨0,rfl,Nat.zero_le _,⟨rfl⟩,by repeat (first|exact Below.refl _ _|apply bn)⟩
 case round=>
  obtain ⟨k,rfl,hk,HE,hb⟩:=hrel
  have Et:wr.heap[B]? =some (.cells cs 62 (0,0)):=(hb.block _ (Array.getElem?_eq_some_iff.1 HB.out).1).trans HB.out
  by_cases hlt:k<K
  ·obtain ⟨i,hi⟩:∃i,i=m+k:=⟨_,rfl⟩
   have hik:i<m+K:=by omega
   have a9g:=bz Et HR.out.rows
   have h1:=bz Et (HR.out.num i c hik hc)
   have h2:=bz Et (HR.out.den i c hik hc)
   have Ik:Aside0 (mm T m c 0 K=if T.cell i c=0 then mm T m c (k+1) (K -(k+1)) else jC (T.cell i c)):=⟨by
    rw [HE.out,show K - k=(K -(k+1))+1 by omega,hi];rfl⟩
   have qx:=Aside0.mk hb
   have XX:=Aside0.mk Et
   have hw:IntKind.i64.wrap ((m:Int)+(k:Int))=(i:Int):=by rw [hi];have:=HR.out.hm;rw [cZ,cL (by omega) (by omega)];rfl
   have b0:(0:Int)<=(i:Int):=by omega
   have b1:(i:Int)<16:=by have:=HR.out.hm;omega
   have b2:(0:Int)<=(c:Int):=by omega
   have b3:(c:Int)<16:=by have:=HR.out.hN;omega
   have oa:Aside0 (wrap64 ((k:Int)+1)=((k+1:Nat):Int)):=⟨eD (by have:=HR.out.hm;omega)⟩
   clear hb Et hrows Pr hi HE
   have hm:=zq
   have HC:=Aside0.mk (fun W=>wV (T.cell i c) W)
   go_wp2
   go_region_held3 (fun w'=>w'.cell? ⟨B,528,none⟩=some (.int .i64 (m:Int))/\w'.cell? ⟨B,i*32+c*2,none⟩=some (.int .i64 (T.cell i c).num)/\w'.cell? ⟨B,i*32+c*2+1,none⟩=some (.int .i64 ((T.cell i c).den:Int))) ((first|exact ⟨a9g,h1,h2⟩|exact ⟨bz dG.out HR.out.rows,bz dG.out (HR.out.num i c hik hc),bz dG.out (HR.out.den i c hik hc)⟩)) ((first|(go_at_call 87;(with_reducible refine (HC.out _).mono ?_);rintro e w1 ⟨rfl,hb1⟩;have qx:=Aside0.mk (ai (bn qx.out) hb1);have dG:=Aside0.mk (ah (ak XX.out) hb1))))
   by_cases hz:T.cell i c=0
   ·have hz1:jC (T.cell i c)=0:=rD.2 hz
    have Cj:Aside0 (mm T m c 0 K=mm T m c (k+1) (K -(k+1))):=⟨by rw [Ik.out,if_pos hz]⟩
    have hz2:(jC (T.cell i c) !=0)=false:=by rw [hz1];rfl
    clear hz hz1 Ik
    generalize jC (T.cell i c)=z at*
    go_wp2
    go_roundw
    case rel=>exact ⟨k+1,by rw [oa.out],by omega,Cj,qx.out⟩
    case measure=>rw [oa.out];simp [intOf];omega
   ·have hz1:jC (T.cell i c)≠0:=fun h=>hz (rD.1 h)
    have Cj:Aside0 (mm T m c 0 K=jC (T.cell i c)):=⟨by rw [Ik.out,if_neg hz]⟩
    have hz2:(jC (T.cell i c) !=0)=true:=bne_iff_ne.mpr hz1
    clear hz hz1 Ik
    generalize jC (T.cell i c)=z at*
    go_wp2
    go_ret
    exact ⟨by rw [Cj.out];first|done|rfl,qx.out⟩
  ·have XY:k=K:=by omega
   have Cj:Aside0 (mm T m c 0 K=0):=⟨by rw [HE.out,XY,Nat.sub_self];rfl⟩
   subst XY
   have qx:=Aside0.mk hb
   clear HE hb Et
   go_wp2
   go_ret
   exact ⟨by rw [Cj.out];first|done|rfl,qx.out⟩
structure lA (D C:Nat) (m N K:Nat) (T:bw):Prop where
 ex:∃d:Int,d≠0/\d.natAbs<=D/\(∀r,r<m->∀j,j<=N->∃a:Int,T.cell r j*(d:Rat)=(a:Rat)/\a.natAbs<=D)/\(∀k,k<K->∀j,j<N->∃a:Int,T.cell (m+k) j*(d:Rat)=(a:Rat)/\a.natAbs<=C)/\(∀k,k<K->∃a:Int,T.cell (m+k) N*(d:Rat)=(a:Rat)/\a.natAbs<=100000)
 dd:D*D<=1000000
 dc:C*D<=1000000
 d1:D<=1000
 c1:C<=100000
def put (T:bw) (i j:Nat) (q:Rat):bw:= {T with cell:=fun i' j'=>if i'=i/\j'=j then q else T.cell i' j'}
theorem gD.congr {cs:Array Value} {m N K:Nat} {T T':bw} (h:gD cs m N K T) (e:∀i j,i<m+K->j<=N->T'.cell i j=T.cell i j) (eb:∀r,r<m->T'.basis r=T.basis r):gD cs m N K T':=
 ⟨h.size,h.one,fun i j hi hj=>by rw [e i j hi hj];exact h.num i j hi hj,fun i j hi hj=>by rw [e i j hi hj];exact h.den i j hi hj,fun r hr=>by rw [eb r hr];exact h.fc r hr,h.rows,h.ni,h.costs,h.hm,h.hN⟩
theorem qj {cs:Array Value} {k:Nat} {v:Value} (h:cs.all (·.oneCell')=true) (hv:v.oneCell'=true):(cs.setIfInBounds k v).all (·.oneCell')=true:=by
 rw [Array.all_eq_true_iff_forall_mem] at*
 intro x hx
 rcases Array.mem_or_eq_of_mem_setIfInBounds hx with h1|h1
 ·exact h x h1
 ·rw [h1];exact hv
theorem heap_set {W:World} {B k:Nat} {v:Value} {cs:Array Value} {t:TypeId} (h:W.heap[B]? =some (.cells cs t (0,0))):(W.setCell ⟨B,k,none⟩ v).heap[B]? =some (.cells (cs.setIfInBounds k v) t (0,0)):=by
 show (W.heap.modify B _)[B]? =_
 rw [Array.getElem?_modify,if_pos rfl,h]
 rfl
theorem gD.put {cs:Array Value} {m N K:Nat} {T:bw} (h:gD cs m N K T) {i j:Nat} (hi:i<m+K) (hj:j<=N) (q:Rat):
 gD ((cs.setIfInBounds (i*32+j*2) (.int .i64 q.num)).setIfInBounds (i*32+j*2+1) (.int .i64 (q.den:Int))) m N K (PT.put T i j q):=by
 have hs:=h.size
 have hm:=h.hm
 have hN:=h.hN
 have far:∀k,512<=k->((cs.setIfInBounds (i*32+j*2) (.int .i64 q.num)).setIfInBounds (i*32+j*2+1) (.int .i64 (q.den:Int)))[k]? =cs[k]? :=by
  intro k hk
  rw [Array.getElem?_setIfInBounds_ne (by omega),Array.getElem?_setIfInBounds_ne (by omega)]
 refine ⟨by simp [hs],qj (qj h.one rfl) rfl,fun i' j' hi' hj'=>?_,fun i' j' hi' hj'=>?_,fun r hr=>?_,?_,?_,?_,hm,hN⟩
 ·by_cases e:i'=i/\j'=j
  ·obtain ⟨rfl,rfl⟩:=e
   rw [Array.getElem?_setIfInBounds_ne (by omega),Array.getElem?_setIfInBounds,if_pos rfl,if_pos (by omega)]
   simp [PT.put]
  ·rw [Array.getElem?_setIfInBounds_ne (by omega),Array.getElem?_setIfInBounds_ne (by omega),h.num i' j' hi' hj']
   simp only [PT.put];rw [if_neg e]
 ·by_cases e:i'=i/\j'=j
  ·obtain ⟨rfl,rfl⟩:=e
   rw [Array.getElem?_setIfInBounds,if_pos rfl,if_pos (by simp;omega)]
   simp [PT.put]
  ·rw [Array.getElem?_setIfInBounds_ne (by omega),Array.getElem?_setIfInBounds_ne (by omega),h.den i' j' hi' hj']
   simp only [PT.put];rw [if_neg e]
 ·rw [far _ (by omega)];exact h.fc r hr
 ·rw [far _ (by omega)];exact h.rows
 ·rw [far _ (by omega)];exact h.ni
 ·rw [far _ (by omega)];exact h.costs
theorem kL (w:World) (o:Obj):(w.alloc o).heap.size=w.heap.size+1:=Array.size_push _
def sB (T:bw) (r c j:Nat):bw:= {T with cell:=fun i' j'=>if i'=r/\j'<j then T.cell r j'/T.cell r c else T.cell i' j'}
theorem UY (T:bw) (r c:Nat):sB T r c 0=T:=by
 unfold sB;congr 1;funext i' j';rw [if_neg (by omega)]
theorem UZ (T:bw) (r c j:Nat):put (sB T r c j) r j (T.cell r j/T.cell r c)=sB T r c (j+1):=by
 unfold put sB;congr 1;funext i' j'
 by_cases h:i'=r/\j'=j
 ·rw [if_pos h,if_pos ⟨h.1,by omega⟩,h.2]
 ·rw [if_neg h]
  by_cases h2:i'=r/\j'<j
  ·show (if i'=r/\j'<j then _ else _)=_
   rw [if_pos h2,if_pos ⟨h2.1,by omega⟩]
  ·show (if i'=r/\j'<j then _ else _)=_
   rw [if_neg h2,if_neg (by omega)]
theorem bA {W:World} {B g k:Nat} {v:Value} {o:Obj} (h:W.heap[g]? =some o) (hne:g≠B):(W.setCell ⟨B,k,none⟩ v).heap[g]? =some o:=by
 show (W.heap.modify B _)[g]? =_
 rw [Array.getElem?_modify,if_neg (fun e=>hne e.symm)]
 exact h
theorem rE {W:World} {g:Nat} {old cs:Array Value} {t:TypeId} (h:W.heap[g]? =some (.cells old t (0,0))):(W.setRow g cs).heap[g]? =some (.cells cs t (0,0)):=by
 show (W.heap.modify g _)[g]? =_
 rw [Array.getElem?_modify,if_pos rfl,h]
 rfl
theorem tN {W:World} {g k:Nat} {o:Obj} {cs:Array Value} (h:W.heap[k]? =some o) (hne:k≠g):(W.setRow g cs).heap[k]? =some o:=by
 show (W.heap.modify g _)[k]? =_
 rw [Array.getElem?_modify,if_neg (fun e=>hne e.symm)]
 exact h
theorem pM {B:Nat} {w W:World} {g:Nat} {cs:Array Value} (h:Below B w W) (hg:B<=g):Below B w (W.setRow g cs):=
 ⟨h.os,h.tape,h.output,by show _<=(W.heap.modify g _).size;rw [Array.size_modify];exact h.size,fun k hk=>by
  show (W.heap.modify g _)[k]? =_
  rw [Array.getElem?_modify,if_neg (by omega)]
  exact h.block k hk⟩
def st (T:bw) (r c i j:Nat):bw:= {T with cell:=fun i' j'=>if i'=r∨i'<i∨(i'=i/\j'<j) then (T.pivot r c).cell i' j' else T.cell i' j'}
theorem a1d {cs:Array Value} {m N K r c:Nat} {T:bw} (h:gD cs m N K (sB T r c (N+1))):gD cs m N K (st T r c 0 0):=by
 refine h.congr (fun i' j' _ hj=>?_) (fun _ _=>rfl)
 simp only [st,sB,bw.pivot]
 by_cases e:i'=r
 ·rw [if_pos (.inl e),if_pos e,if_pos ⟨e,by omega⟩]
 ·rw [if_neg (by omega),if_neg (by omega)]
theorem Sj {cs:Array Value} {m N K r c i:Nat} {T:bw} (h:gD cs m N K (st T r c i 0)) (hs:i=r∨T.cell i c=0):gD cs m N K (st T r c (i+1) 0):=by
 refine h.congr (fun i' j' _ hj=>?_) (fun _ _=>rfl)
 simp only [st]
 by_cases e:i'=r∨i'<i
 ·rw [if_pos (by omega),if_pos (by omega)]
 ·rw [if_neg (show ¬(i'=r∨i'<i∨i'=i/\j'<0) by omega)]
  by_cases e2:i'=i
  ·subst e2
   rw [if_pos (by omega)]
   have h0:T.cell i' c=0:=hs.resolve_left (by omega)
   simp only [bw.pivot];rw [if_neg (show ¬i'=r by omega),h0]
   grind
  ·rw [if_neg (by omega)]
theorem a6y {cs:Array Value} {m N K r c i:Nat} {T:bw} (h:gD cs m N K (st T r c i (N+1))):gD cs m N K (st T r c (i+1) 0):=by
 refine h.congr (fun i' j' _ hj=>?_) (fun _ _=>rfl)
 simp only [st]
 by_cases e:i'=r∨i'<i∨i'=i
 ·rw [if_pos (by omega),if_pos (by omega)]
 ·rw [if_neg (by omega),if_neg (by omega)]
theorem a9h {T:bw} {r c i j:Nat}:put (st T r c i j) i j ((T.pivot r c).cell i j)=st T r c i (j+1):=by
 unfold put st;congr 1;funext i' j'
 by_cases h:i'=i/\j'=j
 ·rw [if_pos h,if_pos (by omega),h.1,h.2]
 ·rw [if_neg h]
  by_cases h2:i'=r∨i'<i∨(i'=i/\j'<j)
  ·show (if i'=r∨i'<i∨(i'=i/\j'<j) then _ else _)=_
   rw [if_pos h2,if_pos (by omega)]
  ·show (if i'=r∨i'<i∨(i'=i/\j'<j) then _ else _)=_
   rw [if_neg h2,if_neg (by omega)]
theorem a9i {cs:Array Value} {m N K r c:Nat} {T:bw} (h:gD cs m N K (st T r c (m+K) 0)) (hr:r<m):gD (cs.setIfInBounds (512+r) (.int .i64 (c:Int))) m N K (T.pivot r c):=by
 have hs:=h.size
 have hm:=h.hm
 have hN:=h.hN
 refine ⟨by simp [hs],qj h.one rfl,fun i' j' hi' hj'=>?_,fun i' j' hi' hj'=>?_,fun r' hr'=>?_,?_,?_,?_,hm,hN⟩
 ·rw [Array.getElem?_setIfInBounds_ne (by omega),h.num i' j' hi' hj']
  simp only [st];rw [if_pos (by omega)]
 ·rw [Array.getElem?_setIfInBounds_ne (by omega),h.den i' j' hi' hj']
  simp only [st];rw [if_pos (by omega)]
 ·by_cases e:r'=r
  ·subst e
   rw [Array.getElem?_setIfInBounds,if_pos rfl,if_pos (by omega)]
   simp [bw.pivot]
  ·rw [Array.getElem?_setIfInBounds_ne (by omega),h.fc r' hr']
   simp [st,bw.pivot,e]
 ·rw [Array.getElem?_setIfInBounds_ne (by omega)];exact h.rows
 ·rw [Array.getElem?_setIfInBounds_ne (by omega)];exact h.ni
 ·rw [Array.getElem?_setIfInBounds_ne (by omega)];exact h.costs
theorem lA.row {D C m N K:Nat} {T:bw} (h:lA D C m N K T) {r j:Nat} (hr:r<m) (hj:j<=N):Qu D D (T.cell r j):=by
 obtain ⟨d,h0,h1,h2,_⟩:=h.ex
 obtain ⟨a,e,b⟩:=h2 r hr j hj
 exact ⟨a,d,h0,e,b,h1⟩
theorem lA.any {D C m N K:Nat} {T:bw} (h:lA D C m N K T) {i j:Nat} (hi:i<m+K) (hj:j<=N):Qu 100000 D (T.cell i j):=by
 obtain ⟨d,h0,h1,h2,h3,h4⟩:=h.ex
 by_cases e:i<m
 ·obtain ⟨a,e,b⟩:=h2 i e j hj
  exact ⟨a,d,h0,e,by have:=h.d1;omega,h1⟩
 ·have e2:i=m+(i - m):=by omega
  rw [e2]
  by_cases e3:j<N
  ·obtain ⟨a,e,b⟩:=h3 (i - m) (by omega) j e3
   exact ⟨a,d,h0,e,by have:=h.c1;omega,h1⟩
  ·have e4:j=N:=by omega
   rw [e4]
   obtain ⟨a,e,b⟩:=h4 (i - m) (by omega)
   exact ⟨a,d,h0,e,b,h1⟩
theorem lA.XZ {D C m N K:Nat} {T:bw} (h:lA D C m N K T) {i j:Nat} (hi:i<m+K) (hj:j<=N):Ok (T.cell i j):=
 Qu.ok (h.any hi hj) (by omega) (by have:=h.d1;omega)
theorem lA.quot {D C m N K:Nat} {T:bw} (h:lA D C m N K T) {r j c:Nat} (hr:r<m) (hj:j<=N) (hc:c<=N) (hp:T.cell r c≠0):Qu D D (T.cell r j/T.cell r c):=by
 obtain ⟨d,h0,h1,h2,_⟩:=h.ex
 obtain ⟨a,e,b⟩:=h2 r hr j hj
 obtain ⟨a',e',b'⟩:=h2 r hr c hc
 have hd:(d:Rat)≠0:=Kw h0
 refine ⟨a,a',?_,?_,b,b'⟩
 ·intro h3;rw [h3] at e';apply hp
  have:T.cell r c*(d:Rat)=0:=e'
  grind
 ·rw [<-e,<-e'];grind
theorem lA.prod {D C m N K:Nat} {T:bw} (h:lA D C m N K T) {i r j c:Nat} (hr:r<m) (hj:j<=N) (hc:c<N) (hi:i<m+K) (hp:T.cell r c≠0):Ok (T.cell i c*(T.cell r j/T.cell r c)):=by
 have hq:=h.quot hr hj (Nat.le_of_lt hc) hp
 obtain ⟨d,h0,h1,h2,h3,h4⟩:=h.ex
 by_cases e:i<m
 ·obtain ⟨a,e,b⟩:=h2 i e c (Nat.le_of_lt hc)
  exact Qu.ok (Qu.mul ⟨a,d,h0,e,b,h1⟩ hq) h.dd h.dd
 ·have e2:i=m+(i - m):=by omega
  obtain ⟨a,e,b⟩:=h3 (i - m) (by omega) c hc
  rw [<-e2] at e
  exact Qu.ok (Qu.mul ⟨a,d,h0,e,b,h1⟩ hq) h.dc h.dd
theorem Sz.mono {a b a' b':Nat} {x:Rat} (h:Sz a b x) (ha:a<=a') (hb:b<=b'):Sz a' b' x:=⟨Nat.le_trans h.n ha,Nat.le_trans h.d hb⟩
set_option maxHeartbeats 1000000 in
set_option maxRecDepth 100000 in
theorem Il (D C m N K r c:Nat) (T:bw) (cs:Array Value) (w:World) (hR:gD cs m N K T) (hr:r<m) (hc:c<N) (hp:T.cell r c≠0) (hF:lA D C m N K T) (hF':lA D C m N K (T.pivot r c)):
 Calls Try.prog 57 #[.agg cs,.int .i64 (r:Int),.int .i64 (c:Int)] w fun e w'=>∃cs',e= .returned (.agg cs')/\gD cs' m N K (T.pivot r c)/\Below w.heap.size w w':=by
 have hu:=Try.underlying62
 have q1:=hR.num r c (by omega) (by omega)
 have q2:=hR.den r c (by omega) (by omega)
 have b0:(0:Int)<=(r:Int):=by omega
 have b1:(r:Int)<16:=by have:=hR.hm;omega
 have b2:(0:Int)<=(c:Int):=by omega
 have b3:(c:Int)<16:=by have:=hR.hN;omega
 have HR:=Aside0.mk hR
 clear hR
 go_enter Try.func57,Try.ntmps57
 go_wp2
 have qx:Aside0 (Below w.heap.size w (((w.alloc (.cells cs 62)).alloc (.cells Try.zeroCells62 62)).alloc (.cells #[.int .i64 (T.cell r c).num,.int .i64 ((T.cell r c).den:Int)] 26))):=⟨aK (aK (aK (Below.refl _ _) _) _) _⟩
 have HT0:Aside0 ((((w.alloc (.cells cs 62)).alloc (.cells Try.zeroCells62 62)).alloc (.cells #[.int .i64 (T.cell r c).num,.int .i64 ((T.cell r c).den:Int)] 26)).heap[w.heap.size]? =some (.cells cs 62 (0,0))):=⟨aq (aq (bW w _) _) _⟩
 have uJ:Aside0 ((((w.alloc (.cells cs 62)).alloc (.cells Try.zeroCells62 62)).alloc (.cells #[.int .i64 (T.cell r c).num,.int .i64 ((T.cell r c).den:Int)] 26)).heap[w.heap.size+1]? =some (.cells Try.zeroCells62 62 (0,0))):=⟨aq (by have:=bW (w.alloc (.cells cs 62)) (.cells Try.zeroCells62 62);rw [kL] at this;exact this) _⟩
 have zu:Aside0 ((((w.alloc (.cells cs 62)).alloc (.cells Try.zeroCells62 62)).alloc (.cells #[.int .i64 (T.cell r c).num,.int .i64 ((T.cell r c).den:Int)] 26)).heap[w.heap.size+1+1]? =some (.cells #[.int .i64 (T.cell r c).num,.int .i64 ((T.cell r c).den:Int)] 26 (0,0))):=⟨by have:=bW ((w.alloc (.cells cs 62)).alloc (.cells Try.zeroCells62 62)) (.cells #[.int .i64 (T.cell r c).num,.int .i64 ((T.cell r c).den:Int)] 26);rw [kL,kL] at this;exact this⟩
 generalize (((w.alloc (.cells cs 62)).alloc (.cells Try.zeroCells62 62)).alloc (.cells #[.int .i64 (T.cell r c).num,.int .i64 ((T.cell r c).den:Int)] 26))=w3 at*
 have HF:=Aside0.mk hF
 have HF':=Aside0.mk hF'
 have HP:=Aside0.mk hp
 clear hF hF' hp q1 q2
 go_loopw [8] (fun jv wr=>∃(j:Nat) (cs1:Array Value),jv= .int .i64 (j:Int)/\j<=N+1/\Aside0 (wr.heap[w.heap.size]? =some (.cells cs1 62 (0,0)))/\Aside0 (gD cs1 m N K (sB T r c j))/\Aside0 (wr.heap[w.heap.size+1]? =some (.cells Try.zeroCells62 62 (0,0)))/\Aside0 (wr.heap[w.heap.size+1+1]? =some (.cells #[.int .i64 (T.cell r c).num,.int .i64 ((T.cell r c).den:Int)] 26 (0,0)))/\Aside0 (Below w.heap.size w wr)) (fun jv _=>N+1 -(intOf jv).toNat)
 case atStart=>exact ⟨0,cs,rfl,by omega,HT0,⟨by rw [UY];exact HR.out⟩,uJ,zu,qx⟩
 case round=>
  obtain ⟨j,cs1,rfl,hj,HA,HS,eV,iA,bL⟩:=hrel
  by_cases hlt:j<=N
  ·have h0:=bz HA.out HS.out.ni
   have h1:=bz HA.out (HS.out.num r j (by omega) hlt)
   have h2:=bz HA.out (HS.out.den r j (by omega) hlt)
   have e1:(sB T r c j).cell r j=T.cell r j:=by simp only [sB];rw [if_neg (by omega)]
   rw [e1] at h1 h2
   have h3:=(ag iA.out 0).trans rfl
   have h4:=(ag iA.out 1).trans rfl
   have HC:=Aside0.mk (fun W=>Ci W (Qu.sz (HF.out.row hr hlt)) (Qu.sz (HF.out.row hr (Nat.le_of_lt hc))) (by have:=HF.out.dd;omega) (by have:=HF.out.dd;omega) HP.out (Qu.ok (HF.out.quot hr hlt (Nat.le_of_lt hc) HP.out) (by have:=HF.out.d1;omega) (by have:=HF.out.d1;omega)))
   have g0:(0:Int)<=(j:Int):=by omega
   have g1:(j:Int)<16:=by have:=HS.out.hN;omega
   have g2:decide ((j:Int)<=(N:Int))=true:=decide_eq_true (by omega)
   have oa:Aside0 (wrap64 ((j:Int)+1)=((j+1:Nat):Int)):=⟨eD (by have:=HS.out.hN;omega)⟩
   have hm:=Pq
   go_wp2
   have fW:=Aside0.mk (ak HA.out)
   have gh:=Aside0.mk (ak eV.out)
   have a9j:=Aside0.mk (ak iA.out)
   have fG:=Aside0.mk (bn bL.out)
   clear HA eV iA bL
   refine eG (n:=15) (S:=fun w'=>w'.cell? ⟨w.heap.size,r*32+j*2,none⟩=some (.int .i64 (T.cell r j).num)/\w'.cell? ⟨w.heap.size,r*32+j*2+1,none⟩=some (.int .i64 ((T.cell r j).den:Int))/\w'.cell? ⟨w.heap.size+1+1,0,none⟩=some (.int .i64 (T.cell r c).num)/\w'.cell? ⟨w.heap.size+1+1,1,none⟩=some (.int .i64 ((T.cell r c).den:Int))) (ds:=[14]) #[false,false,false,false,false,false,false,false,false,false,false,false,false,false,false] (by kernel_rfl) rfl rfl ⟨h1,h2,h3,h4⟩ (fun hHeld=>?_)
   generalize wr.drew=w4 at*
   refine aI (i:=0) (N:=some 24) ?_
   refine aI (i:=1) (N:=some 25) ?_
   refine aI (i:=2) (N:=some 26) ?_
   refine aI (i:=3) (N:=some 27) ?_
   refine aI (i:=4) (N:=some 28) ?_
   refine aI (i:=5) (N:=some 29) ?_
   refine aI (i:=6) (N:=some 30) ?_
   refine cE (i:=7) (N:=some 31) (v:=?_) (a':=?_) #[true,true,true,true,true,true,true,true,false,false,false,false,false,false,false] rfl rfl (by kernel_rfl) (fun _ _ _ h=>h) (Or.inl ⟨by rfl,?_⟩) hHeld ?_ ?_
   rotate_left
   ·rintro w' ⟨s0,s1,s2,s3⟩
    go_simp
    with_reducible rfl
   rotate_left
   ·exact dx
   refine aI (i:=8) (N:=some 32) ?_
   refine cE (i:=9) (N:=some 33) (v:=?_) (a':=?_) #[true,true,true,true,true,true,true,true,true,true,false,false,false,false,false] rfl rfl (by kernel_rfl) (fun _ _ _ h=>h) (Or.inl ⟨by rfl,?_⟩) hHeld ?_ ?_
   rotate_left
   ·rintro w' ⟨s0,s1,s2,s3⟩
    go_simp
    with_reducible rfl
   rotate_left
   ·exact dx
   refine aI (i:=11) (N:=some 35) ?_
   refine aI (i:=12) (N:=some 36) ?_
   refine fK (i:=10) (N:=some 34) #[true,true,true,true,true,true,true,true,true,true,true,true,true,false,false] rfl rfl (by kernel_rfl) (by decide) (fun K hK=>?_)
   refine pY 86 #[V (T.cell r j),V (T.cell r c)] (by rfl) rfl ?_ ?_
   ·go_simp
   refine (HC.out _).mono ?_
   rintro e w5 ⟨rfl,jm⟩
   have Sk:=Aside0.mk (ah fW.out jm)
   have a9k:=Aside0.mk (ah gh.out jm)
   have Va:=Aside0.mk (ah a9j.out jm)
   have pN:=Aside0.mk (ai fG.out jm)
   clear jm fW gh a9j fG h0 h1 h2 h3 h4 HC
   have h1:=bz Sk.out (HS.out.num r j (by omega) hlt)
   have h2:=bz Sk.out (HS.out.den r j (by omega) hlt)
   rw [e1] at h1 h2
   refine ⟨_,rfl,?_⟩
   refine hK.out _ _ ⟨h1,h2,(ag Va.out 0).trans rfl,(ag Va.out 1).trans rfl⟩ (fun hHeld=>?_)
   clear hK K hHeld
   refine eP (a':=?_) ?_ ?_
   rotate_left
   ·show Act.put _ (some 34) _=_
    simp only [Act.put,List.setIfInBounds_toArray,List.set_cons_zero,List.set_cons_succ,cZ,eo]
    rfl
   refine aI (i:=13) (N:=some 37) ?_
   refine nu (i:=14) (N:=none) #[true,true,true,true,true,true,true,true,true,true,true,true,true,true,true] rfl rfl (by kernel_rfl) (by decide) (fun K hK=>?_)
   have mV:=aa Sk.out (r*32+j*2)
   have hf2:=aa Sk.out (r*32+j*2+1)
   refine ku (w1:=?_) (by rfl) rfl ?_ ?_
   rotate_left
   ·go_simp
    rfl
   refine hK.out _ _ ?_
   clear hK K
   refine fl (by kernel_rfl) ?_
   have HA6:Aside0 (((w5.setCell ⟨w.heap.size,r*32+j*2,none⟩ (.int .i64 (T.cell r j/T.cell r c).num)).setCell ⟨w.heap.size,r*32+j*2+1,none⟩ (.int .i64 ((T.cell r j/T.cell r c).den:Int))).heap[w.heap.size]? =some (.cells ((cs1.setIfInBounds (r*32+j*2) (.int .i64 (T.cell r j/T.cell r c).num)).setIfInBounds (r*32+j*2+1) (.int .i64 ((T.cell r j/T.cell r c).den:Int))) 62 (0,0))):=⟨heap_set (heap_set Sk.out)⟩
   have a1e:Aside0 (((w5.setCell ⟨w.heap.size,r*32+j*2,none⟩ (.int .i64 (T.cell r j/T.cell r c).num)).setCell ⟨w.heap.size,r*32+j*2+1,none⟩ (.int .i64 ((T.cell r j/T.cell r c).den:Int))).heap[w.heap.size+1]? =some (.cells Try.zeroCells62 62 (0,0))):=⟨bA (bA a9k.out (by omega)) (by omega)⟩
   have b7E:Aside0 (((w5.setCell ⟨w.heap.size,r*32+j*2,none⟩ (.int .i64 (T.cell r j/T.cell r c).num)).setCell ⟨w.heap.size,r*32+j*2+1,none⟩ (.int .i64 ((T.cell r j/T.cell r c).den:Int))).heap[w.heap.size+1+1]? =some (.cells #[.int .i64 (T.cell r c).num,.int .i64 ((T.cell r c).den:Int)] 26 (0,0))):=⟨bA (bA Va.out (by omega)) (by omega)⟩
   have Im:Aside0 (Below w.heap.size w ((w5.setCell ⟨w.heap.size,r*32+j*2,none⟩ (.int .i64 (T.cell r j/T.cell r c).num)).setCell ⟨w.heap.size,r*32+j*2+1,none⟩ (.int .i64 ((T.cell r j/T.cell r c).den:Int)))):=⟨br (br pN.out (Nat.le_refl _)) (Nat.le_refl _)⟩
   have Ya:Aside0 (gD ((cs1.setIfInBounds (r*32+j*2) (.int .i64 (T.cell r j/T.cell r c).num)).setIfInBounds (r*32+j*2+1) (.int .i64 ((T.cell r j/T.cell r c).den:Int))) m N K (sB T r c (j+1))):=⟨by rw [<-UZ];exact HS.out.put (by omega) hlt _⟩
   clear Sk a9k Va pN HS h1 h2 mV hf2 e1
   generalize (w5.setCell ⟨w.heap.size,r*32+j*2,none⟩ (.int .i64 (T.cell r j/T.cell r c).num)).setCell ⟨w.heap.size,r*32+j*2+1,none⟩ (.int .i64 ((T.cell r j/T.cell r c).den:Int))=w6 at*
   generalize (cs1.setIfInBounds (r*32+j*2) (.int .i64 (T.cell r j/T.cell r c).num)).setIfInBounds (r*32+j*2+1) (.int .i64 ((T.cell r j/T.cell r c).den:Int))=Ck at*
   go_wp2
   go_roundw
   case rel=>exact ⟨j+1,Ck,by first|(rw [oa.out];done)|rfl|(simp;done),by omega,HA6,Ya,a1e,b7E,Im⟩
   case measure=>(try rw [oa.out]);simp [intOf];omega
  ·have Pt:j=N+1:=by omega
   have h0:=bz HA.out HS.out.ni
   have g2:decide ((j:Int)<=(N:Int))=false:=decide_eq_false (by omega)
   rw [Pt] at HS
   clear Pt
   go_wp2
   clear hj hlt
   have Sl:=Aside0.mk (a1d HS.out)
   clear h0 HS iA g2 qx HT0 uJ zu
   go_loopw [9] (fun iv wi=>∃(i:Nat) (iB:Array Value),iv= .int .i64 (i:Int)/\i<=m+K/\Aside0 (wi.heap[w.heap.size]? =some (.cells iB 62 (0,0)))/\Aside0 (gD iB m N K (st T r c i 0))/\Aside0 (wi.heap[w.heap.size+1]? =some (.cells Try.zeroCells62 62 (0,0)))/\Aside0 (Below w.heap.size w wi)) (fun iv _=>m+K -(intOf iv).toNat)
   case atStart=>exact ⟨0,cs1,rfl,Nat.zero_le _,HA,Sl,eV,bL⟩
   case round=>
    clear HA eV bL Sl
    obtain ⟨i,iB,rfl,hi,HA,HS,eV,bL⟩:=hrel
    obtain ⟨mk,hmk⟩:∃mk,mk=m+K:=⟨_,rfl⟩
    have hw:IntKind.i64.wrap ((m:Int)+(K:Int))=(mk:Int):=by rw [hmk];have:=HS.out.hm;rw [cZ,cL (by omega) (by omega)];rfl
    have h0:=bz HA.out HS.out.rows
    have h00:=bz HA.out HS.out.costs
    by_cases hlt:i<m+K
    ·have g2:decide ((i:Int)<(mk:Int))=true:=decide_eq_true (by omega)
     have h1:=bz HA.out (HS.out.num i c hlt (by omega))
     have h2:=bz HA.out (HS.out.den i c hlt (by omega))
     have g0:(0:Int)<=(i:Int):=by omega
     have g1:(i:Int)<16:=by have:=HS.out.hm;omega
     have oa:Aside0 (wrap64 ((i:Int)+1)=((i+1:Nat):Int)):=⟨eD (by have:=HS.out.hm;omega)⟩
     have hm:=zq
     have Br:decide (i<mk)=true:=decide_eq_true (by omega)
     have hlt':=Aside0.mk hlt
     have HMK:=Aside0.mk hmk
     clear hmk
     by_cases vF:i=r
     ·have g3:((i:Int)==(r:Int))=true:=by rw [vF];simp
      have jc:=Aside0.mk (Sj HS.out (.inl vF))
      have g2':decide ((r:Int)<(mk:Int))=true:=by rw [<-vF];exact g2
      have Yb:=Aside0.mk vF
      have g2n':decide (r<mk)=true:=by rw [<-vF];exact Br
      have h1':=h1
      have h2':=h2
      generalize (st T r c i 0).cell i c=q at*
      rw [vF] at h1' h2'
      clear vF HS hlt
      go_wp2
      go_roundw
      case rel=>exact ⟨i+1,iB,by first|(rw [oa.out];done)|rfl|(simp;done)|(rw [Yb.out];first|rfl|(simp;done)),hlt'.out,⟨aq HA.out _⟩,jc,⟨aq eV.out _⟩,⟨aK bL.out _⟩⟩
      case measure=>(try rw [oa.out]);have:=hlt'.out;simp [intOf];omega
     ·have g3:((i:Int)==(r:Int))=false:=by rw [beq_eq_false_iff_ne];omega
      have hq:(st T r c i 0).cell i c=T.cell i c:=by simp only [st];rw [if_neg (by omega)]
      rw [hq] at h1 h2
      have HQ:=Aside0.mk hq
      clear hq
      have HC:=Aside0.mk (fun W=>wV (T.cell i c) W)
      by_cases hz:T.cell i c=0
      ·have jc:=Aside0.mk (Sj HS.out (.inr hz))
       have g4:(jC (T.cell i c)==0)=true:=by rw [rD.2 hz];rfl
       clear HS hlt hz
       have Yb:=Aside0.mk vF
       clear vF
       go_wp2_with (first|(go_at_call 87;(with_reducible refine (HC.out _).mono ?_);rintro e w1 ⟨rfl,hb1⟩;have fW:=Aside0.mk (ah (aq HA.out _) hb1);have gh:=Aside0.mk (ah (aq eV.out _) hb1);have fG:=Aside0.mk (ai (aK bL.out _) hb1);clear hb1))
       go_roundw
       case rel=>exact ⟨i+1,iB,by first|(rw [oa.out];done)|rfl|(simp;done),hlt'.out,fW,jc,gh,fG⟩
       case measure=>(try rw [oa.out]);have:=hlt'.out;simp [intOf];omega
      ·have g4:(jC (T.cell i c)==0)=false:=beq_eq_false_iff_ne.mpr (fun h=>hz (rD.1 h))
       have Yb:=Aside0.mk vF
       have Pv:Aside0 ((wr.alloc (.cells #[.int .i64 (T.cell i c).num,.int .i64 ((T.cell i c).den:Int)] 26)).heap[wr.heap.size]? =some (.cells #[.int .i64 (T.cell i c).num,.int .i64 ((T.cell i c).den:Int)] 26 (0,0))):=⟨bW wr _⟩
       have HSZ:Aside0 (w.heap.size+1<wr.heap.size):=⟨(Array.getElem?_eq_some_iff.1 eV.out).1⟩
       clear vF hz
       go_wp2_with (first|(go_at_call 87;(with_reducible refine (HC.out _).mono ?_);rintro e w1 ⟨rfl,hb1⟩;have fW:=Aside0.mk (ah (aq HA.out _) hb1);have gh:=Aside0.mk (ah (aq eV.out _) hb1);have fG:=Aside0.mk (ai (aK bL.out _) hb1);have Pw:=Aside0.mk (ah Pv.out hb1);clear hb1))
       clear HA eV bL Pv HC h0 h00 h1 h2 g4
       generalize wr.heap.size=g at*
       go_loopw [11] (fun jv wj=>∃(j:Nat) (Eu:Array Value),jv= .int .i64 (j:Int)/\j<=N+1/\Aside0 (wj.heap[w.heap.size]? =some (.cells Eu 62 (0,0)))/\Aside0 (gD Eu m N K (st T r c i j))/\Aside0 (wj.heap[w.heap.size+1]? =some (.cells Try.zeroCells62 62 (0,0)))/\Aside0 (wj.heap[g]? =some (.cells #[.int .i64 (T.cell i c).num,.int .i64 ((T.cell i c).den:Int)] 26 (0,0)))/\Aside0 (Below w.heap.size w wj)) (fun jv _=>N+1 -(intOf jv).toNat)
       case atStart=>exact ⟨0,iB,rfl,Nat.zero_le _,fW,HS,gh,Pw,fG⟩
       case round=>
        clear fW gh Pw fG HS
        obtain ⟨j,Eu,rfl,hj3,HA,HS,eV,Pv,bL⟩:=hrel
        have h0:=bz HA.out HS.out.ni
        by_cases Bt:j<=N
        ·have e1:(st T r c i j).cell i j=T.cell i j:=by simp only [st];rw [if_neg (by have:=Yb.out;omega)]
         have e2:(st T r c i j).cell r j=T.cell r j/T.cell r c:=by simp [st,bw.pivot]
         have e3:(T.pivot r c).cell i j=T.cell i j - T.cell i c*(T.cell r j/T.cell r c):=by simp only [bw.pivot];rw [if_neg Yb.out]
         have h1:=bz HA.out (HS.out.num i j hlt'.out Bt)
         have h2:=bz HA.out (HS.out.den i j hlt'.out Bt)
         have h3:=bz HA.out (HS.out.num r j (by omega) Bt)
         have h4:=bz HA.out (HS.out.den r j (by omega) Bt)
         rw [e1] at h1 h2
         rw [e2] at h3 h4
         have h5:=(ag Pv.out 0).trans rfl
         have h6:=(ag Pv.out 1).trans rfl
         have HQ1:=Aside0.mk (lA.prod HF.out hr Bt hc hlt'.out HP.out)
         have Sm:=Aside0.mk (lA.XZ HF'.out hlt'.out Bt)
         rw [e3] at Sm
         have iJ:=Aside0.mk (fun W=>a6v W (Qu.sz (HF.out.any hlt'.out (Nat.le_of_lt hc))) (Qu.sz (HF.out.quot hr Bt (Nat.le_of_lt hc) HP.out)) (by have:=HF.out.d1;have:=Nat.mul_le_mul_left 100000 this;omega) (by have:=HF.out.dd;omega) HQ1.out)
         have nN:=Aside0.mk (fun W=>KR W (Qu.sz (HF.out.any hlt'.out Bt)) (Ok.sz HQ1.out) (by have:=HF.out.d1;omega) (by have:=HF.out.d1;omega) Sm.out)
         have g5:(0:Int)<=(j:Int):=by omega
         have g6:(j:Int)<16:=by have:=HS.out.hN;omega
         have g7:decide ((j:Int)<=(N:Int))=true:=decide_eq_true (by omega)
         have g7n:decide (j<=N)=true:=decide_eq_true (by omega)
         have kC:Aside0 (wrap64 ((j:Int)+1)=((j+1:Nat):Int)):=⟨eD (by have:=HS.out.hN;omega)⟩
         have jc:Aside0 (gD ((Eu.setIfInBounds (i*32+j*2) (.int .i64 (T.cell i j - T.cell i c*(T.cell r j/T.cell r c)).num)).setIfInBounds (i*32+j*2+1) (.int .i64 ((T.cell i j - T.cell i c*(T.cell r j/T.cell r c)).den:Int))) m N K (st T r c i (j+1))):=⟨by rw [<-a9h,e3];exact HS.out.put hlt'.out Bt _⟩
         have Ew:=Aside0.mk Bt
         have hm2:=a6x
         have hm3:=KS
         clear Bt hlt hj3
         go_wp2
         have fW:=Aside0.mk (ak HA.out)
         have gh:=Aside0.mk (ak eV.out)
         have Pw:=Aside0.mk (ak Pv.out)
         have fG:=Aside0.mk (bn bL.out)
         clear HA eV Pv bL h0
         refine eG (n:=23) (S:=fun w'=>w'.cell? ⟨w.heap.size,i*32+j*2,none⟩=some (.int .i64 (T.cell i j).num)/\w'.cell? ⟨w.heap.size,i*32+j*2+1,none⟩=some (.int .i64 ((T.cell i j).den:Int))/\w'.cell? ⟨w.heap.size,r*32+j*2,none⟩=some (.int .i64 (T.cell r j/T.cell r c).num)/\w'.cell? ⟨w.heap.size,r*32+j*2+1,none⟩=some (.int .i64 ((T.cell r j/T.cell r c).den:Int))/\w'.cell? ⟨g,0,none⟩=some (.int .i64 (T.cell i c).num)/\w'.cell? ⟨g,1,none⟩=some (.int .i64 ((T.cell i c).den:Int))) (ds:=[22]) #[false,false,false,false,false,false,false,false,false,false,false,false,false,false,false,false,false,false,false,false,false,false,false] (by kernel_rfl) rfl rfl ⟨h1,h2,h3,h4,h5,h6⟩ (fun hHeld=>?_)
         generalize wr.drew=w6 at*
         refine aI (i:=0) (N:=some 68) ?_
         refine aI (i:=1) (N:=some 69) ?_
         refine aI (i:=2) (N:=some 70) ?_
         refine aI (i:=3) (N:=some 71) ?_
         refine aI (i:=4) (N:=some 72) ?_
         refine aI (i:=5) (N:=some 73) ?_
         refine aI (i:=6) (N:=some 74) ?_
         refine cE (i:=7) (N:=some 75) (v:=?_) (a':=?_) #[true,true,true,true,true,true,true,true,false,false,false,false,false,false,false,false,false,false,false,false,false,false,false] rfl rfl (by kernel_rfl) (fun _ _ _ h=>h) (Or.inl ⟨by rfl,?_⟩) hHeld ?_ ?_
         rotate_left
         ·rintro w' ⟨s0,s1,s2,s3,s4,s5⟩
          go_simp
          with_reducible rfl
         rotate_left
         ·exact dx
         refine aI (i:=8) (N:=some 76) ?_
         refine cE (i:=9) (N:=some 77) (v:=?_) (a':=?_) #[true,true,true,true,true,true,true,true,true,true,false,false,false,false,false,false,false,false,false,false,false,false,false] rfl rfl (by kernel_rfl) (fun _ _ _ h=>h) (Or.inl ⟨by rfl,?_⟩) hHeld ?_ ?_
         rotate_left
         ·rintro w' ⟨s0,s1,s2,s3,s4,s5⟩
          go_simp
          with_reducible rfl
         rotate_left
         ·exact dx
         refine aI (i:=10) (N:=some 78) ?_
         refine aI (i:=11) (N:=some 79) ?_
         refine aI (i:=12) (N:=some 80) ?_
         refine aI (i:=13) (N:=some 81) ?_
         refine aI (i:=14) (N:=some 82) ?_
         refine aI (i:=15) (N:=some 83) ?_
         refine cE (i:=16) (N:=some 84) (v:=?_) (a':=?_) #[true,true,true,true,true,true,true,true,true,true,true,true,true,true,true,true,true,false,false,false,false,false,false] rfl rfl (by kernel_rfl) (fun _ _ _ h=>h) (Or.inl ⟨by rfl,?_⟩) hHeld ?_ ?_
         rotate_left
         ·rintro w' ⟨s0,s1,s2,s3,s4,s5⟩
          go_simp
          with_reducible rfl
         rotate_left
         ·exact dx
         refine aI (i:=19) (N:=some 87) ?_
         refine aI (i:=20) (N:=some 88) ?_
         refine fK (i:=17) (N:=some 85) #[true,true,true,true,true,true,true,true,true,true,true,true,true,true,true,true,true,true,false,true,true,false,false] rfl rfl (by kernel_rfl) (by decide) (fun K hK=>?_)
         refine pY 88 #[V (T.cell i c),V (T.cell r j/T.cell r c)] (by rfl) rfl ?_ ?_
         ·go_simp
         refine (iJ.out _).mono ?_
         rintro e w7 ⟨rfl,wX⟩
         have Sn:=Aside0.mk (ah fW.out wX)
         have a9p:=Aside0.mk (ah gh.out wX)
         have HF7:=Aside0.mk (ah Pw.out wX)
         have Ex:=Aside0.mk (ai fG.out wX)
         clear wX fW gh Pw fG h1 h2 h3 h4 h5 h6 iJ
         have h1:=bz Sn.out (HS.out.num i j hlt'.out Ew.out)
         have h2:=bz Sn.out (HS.out.den i j hlt'.out Ew.out)
         have h3:=bz Sn.out (HS.out.num r j (by omega) Ew.out)
         have h4:=bz Sn.out (HS.out.den r j (by omega) Ew.out)
         rw [e1] at h1 h2
         rw [e2] at h3 h4
         refine ⟨_,rfl,?_⟩
         refine hK.out _ _ ⟨h1,h2,h3,h4,(ag HF7.out 0).trans rfl,(ag HF7.out 1).trans rfl⟩ (fun hHeld=>?_)
         clear hK K hHeld
         refine eP (a':=?_) ?_ ?_
         rotate_left
         ·show Act.put _ (some 85) _=_
          simp only [Act.put,List.setIfInBounds_toArray,List.set_cons_zero,List.set_cons_succ,cZ,eo]
          rfl
         refine fK (i:=18) (N:=some 86) #[true,true,true,true,true,true,true,true,true,true,true,true,true,true,true,true,true,true,true,true,true,false,false] rfl rfl (by kernel_rfl) (by decide) (fun K hK=>?_)
         refine pY 85 #[V (T.cell i j),V (T.cell i c*(T.cell r j/T.cell r c))] (by rfl) rfl ?_ ?_
         ·go_simp
         refine (nN.out _).mono ?_
         rintro e w8 ⟨rfl,mq⟩
         have Mh:=Aside0.mk (ah Sn.out mq)
         have a9q:=Aside0.mk (ah a9p.out mq)
         have Sp:=Aside0.mk (ah HF7.out mq)
         have Cl:=Aside0.mk (ai Ex.out mq)
         clear mq Sn a9p HF7 Ex h1 h2 h3 h4 nN
         have h1:=bz Mh.out (HS.out.num i j hlt'.out Ew.out)
         have h2:=bz Mh.out (HS.out.den i j hlt'.out Ew.out)
         have h3:=bz Mh.out (HS.out.num r j (by omega) Ew.out)
         have h4:=bz Mh.out (HS.out.den r j (by omega) Ew.out)
         rw [e1] at h1 h2
         rw [e2] at h3 h4
         refine ⟨_,rfl,?_⟩
         refine hK.out _ _ ⟨h1,h2,h3,h4,(ag Sp.out 0).trans rfl,(ag Sp.out 1).trans rfl⟩ (fun hHeld=>?_)
         clear hK K hHeld
         refine eP (a':=?_) ?_ ?_
         rotate_left
         ·show Act.put _ (some 86) _=_
          simp only [Act.put,List.setIfInBounds_toArray,List.set_cons_zero,List.set_cons_succ,cZ,eo]
          rfl
         refine aI (i:=21) (N:=some 89) ?_
         refine nu (i:=22) (N:=none) #[true,true,true,true,true,true,true,true,true,true,true,true,true,true,true,true,true,true,true,true,true,true,true] rfl rfl (by kernel_rfl) (by decide) (fun K hK=>?_)
         have mV:=aa Mh.out (i*32+j*2)
         have hf2:=aa Mh.out (i*32+j*2+1)
         refine ku (w1:=?_) (by rfl) rfl ?_ ?_
         rotate_left
         ·go_simp
          rfl
         refine hK.out _ _ ?_
         clear hK K
         refine fl (by kernel_rfl) ?_
         have HA6:Aside0 (((w8.setCell ⟨w.heap.size,i*32+j*2,none⟩ (.int .i64 (T.cell i j - T.cell i c*(T.cell r j/T.cell r c)).num)).setCell ⟨w.heap.size,i*32+j*2+1,none⟩ (.int .i64 ((T.cell i j - T.cell i c*(T.cell r j/T.cell r c)).den:Int))).heap[w.heap.size]? =some (.cells ((Eu.setIfInBounds (i*32+j*2) (.int .i64 (T.cell i j - T.cell i c*(T.cell r j/T.cell r c)).num)).setIfInBounds (i*32+j*2+1) (.int .i64 ((T.cell i j - T.cell i c*(T.cell r j/T.cell r c)).den:Int))) 62 (0,0))):=⟨heap_set (heap_set Mh.out)⟩
         have a1e:Aside0 (((w8.setCell ⟨w.heap.size,i*32+j*2,none⟩ (.int .i64 (T.cell i j - T.cell i c*(T.cell r j/T.cell r c)).num)).setCell ⟨w.heap.size,i*32+j*2+1,none⟩ (.int .i64 ((T.cell i j - T.cell i c*(T.cell r j/T.cell r c)).den:Int))).heap[w.heap.size+1]? =some (.cells Try.zeroCells62 62 (0,0))):=⟨bA (bA a9q.out (by omega)) (by omega)⟩
         have Px:Aside0 (((w8.setCell ⟨w.heap.size,i*32+j*2,none⟩ (.int .i64 (T.cell i j - T.cell i c*(T.cell r j/T.cell r c)).num)).setCell ⟨w.heap.size,i*32+j*2+1,none⟩ (.int .i64 ((T.cell i j - T.cell i c*(T.cell r j/T.cell r c)).den:Int))).heap[g]? =some (.cells #[.int .i64 (T.cell i c).num,.int .i64 ((T.cell i c).den:Int)] 26 (0,0))):=⟨bA (bA Sp.out (by have:=HSZ.out;omega)) (by have:=HSZ.out;omega)⟩
         have Im:Aside0 (Below w.heap.size w ((w8.setCell ⟨w.heap.size,i*32+j*2,none⟩ (.int .i64 (T.cell i j - T.cell i c*(T.cell r j/T.cell r c)).num)).setCell ⟨w.heap.size,i*32+j*2+1,none⟩ (.int .i64 ((T.cell i j - T.cell i c*(T.cell r j/T.cell r c)).den:Int)))):=⟨br (br Cl.out (Nat.le_refl _)) (Nat.le_refl _)⟩
         clear Mh a9q Sp Cl HS h1 h2 h3 h4 mV hf2 e1 e2 e3 HQ1 Sm
         generalize ((w8.setCell ⟨w.heap.size,i*32+j*2,none⟩ (.int .i64 (T.cell i j - T.cell i c*(T.cell r j/T.cell r c)).num)).setCell ⟨w.heap.size,i*32+j*2+1,none⟩ (.int .i64 ((T.cell i j - T.cell i c*(T.cell r j/T.cell r c)).den:Int)))=w9 at*
         generalize ((Eu.setIfInBounds (i*32+j*2) (.int .i64 (T.cell i j - T.cell i c*(T.cell r j/T.cell r c)).num)).setIfInBounds (i*32+j*2+1) (.int .i64 ((T.cell i j - T.cell i c*(T.cell r j/T.cell r c)).den:Int)))=Ck at*
         go_wp2
         go_roundw
         case rel=>exact ⟨j+1,Ck,by first|(rw [kC.out];done)|rfl|(simp;done),by have:=Ew.out;omega,HA6,jc,a1e,Px,Im⟩
         case measure=>(try rw [kC.out]);have:=Ew.out;simp [intOf];omega
        ·have Pt:j=N+1:=by omega
         have g7:decide ((j:Int)<=(N:Int))=false:=decide_eq_false (by omega)
         have g7n:decide (j<=N)=false:=decide_eq_false (by omega)
         rw [Pt] at HS
         have jc:=Aside0.mk (a6y HS.out)
         clear Pt Bt hj3 HS
         go_wp2
         go_roundw
         case rel=>exact ⟨i+1,Eu,by first|(rw [oa.out];done)|rfl|(simp;done),hlt'.out,HA,jc,eV,bL⟩
         case measure=>(try rw [oa.out]);have:=hlt'.out;simp [intOf];omega
    ·have g2:decide ((i:Int)<(mk:Int))=false:=decide_eq_false (by omega)
     have Br:decide (i<mk)=false:=decide_eq_false (by omega)
     have wY:i=m+K:=by omega
     rw [wY] at HS
     have HE:=Aside0.mk (a9i HS.out hr)
     have hb1:512+r<iB.size:=by rw [HS.out.size];omega
     have a1f:=HS.out.fc r hr
     rw [show (st T r c (m+K) 0).basis r=T.basis r from rfl] at a1f
     have h9:=bz HA.out a1f
     have h10:=aa HA.out (512+r)
     have HL:Aside0 ((wr.setCell ⟨w.heap.size,512+r,none⟩ (.int .i64 (c:Int))).heap[w.heap.size]? =some (.cells (iB.setIfInBounds (512+r) (.int .i64 (c:Int))) 62 (0,0))):=⟨heap_set HA.out⟩
     have xT:Aside0 ((wr.setCell ⟨w.heap.size,512+r,none⟩ (.int .i64 (c:Int))).heap[w.heap.size+1]? =some (.cells Try.zeroCells62 62 (0,0))):=⟨bA eV.out (by omega)⟩
     have HBn:Aside0 (Below w.heap.size w (wr.setCell ⟨w.heap.size,512+r,none⟩ (.int .i64 (c:Int)))):=⟨br bL.out (Nat.le_refl _)⟩
     generalize hCS:iB.setIfInBounds (512+r) (.int .i64 (c:Int))=CS at*
     have HI:Aside0 ((Try.prog.info? 62).map (·.size)=some CS.size):=⟨by rw [HE.out.size];kernel_rfl⟩
     have HZ:Aside0 ((Try.zeroCells62).size=CS.size):=⟨by rw [HE.out.size];kernel_rfl⟩
     clear wY hmk hlt hi a1f hCS hb1
     go_wp2_with (first|((with_reducible refine bk (N:=94) rfl ?_);refine wpList_load_row rfl 62 (.tmp 3) rfl w.heap.size rfl 62 CS (0,0) _ HL.out hu (by rfl) HI.out ?_)|((with_reducible refine iX (t:=62) (p:=6) rfl ?_);refine wpList_store_row rfl 62 (.tmp 6) (.tmp 94) rfl (w.heap.size+1) CS rfl rfl 62 Try.zeroCells62 xT.out HI.out HZ.out HE.out.one ?_))
     refine bodyPost_ret (results_cell_row rfl _ _ (w.heap.size+1) 62 CS (0,0) _ rfl (rE xT.out) hu (by rfl) HI.out) rfl ?_
     exact ⟨CS,rfl,HE.out,pM HBn.out (by omega)⟩
def kT (T:bw) (m r a b:Nat):Nat->Nat->Bool
 |_,0=>false
 |k,d+1=>if T.cell (m+k) b/T.cell r b - T.cell (m+k) a/T.cell r a=0 then kT T m r a b (k+1) d else decide (T.cell (m+k) b/T.cell r b - T.cell (m+k) a/T.cell r a<0)
theorem lA.ratio {D C m N K:Nat} {T:bw} (h:lA D C m N K T) {r k j:Nat} (hr:r<m) (hk:k<K) (hj:j<N) (hp:T.cell r j≠0):Qu C D (T.cell (m+k) j/T.cell r j):=by
 obtain ⟨d,h0,h1,h2,h3,_⟩:=h.ex
 obtain ⟨a,e,b⟩:=h3 k hk j hj
 obtain ⟨a',e',b'⟩:=h2 r hr j (Nat.le_of_lt hj)
 have hd:(d:Rat)≠0:=Kw h0
 refine ⟨a,a',?_,?_,b,b'⟩
 ·intro h3;rw [h3] at e';apply hp
  have:T.cell r j*(d:Rat)=0:=e'
  grind
 ·rw [<-e,<-e'];grind
theorem a3V {B m N K r i a:Nat} {T:bw} {cs:Array Value} (HR:gD cs m N K T) (hik:i<m+K) (aN:a<=N) (Ey:r<m+K) (w':World) (h:w'.heap[B]? =some (.cells cs 62 (0,0))):w'.cell? ⟨B,528,none⟩=some (.int .i64 (m:Int))/\w'.cell? ⟨B,i*32+a*2,none⟩=some (.int .i64 (T.cell i a).num)/\w'.cell? ⟨B,i*32+a*2+1,none⟩=some (.int .i64 ((T.cell i a).den:Int))/\w'.cell? ⟨B,r*32+a*2,none⟩=some (.int .i64 (T.cell r a).num)/\w'.cell? ⟨B,r*32+a*2+1,none⟩=some (.int .i64 ((T.cell r a).den:Int)):=
 ⟨bz h HR.rows,bz h (HR.num i a hik aN),bz h (HR.den i a hik aN),bz h (HR.num r a Ey aN),bz h (HR.den r a Ey aN)⟩
theorem zv {q:Rat}:decide (jC q<0)=decide (q<0):=by
 unfold jC
 by_cases h1:q<0
 ·rw [if_pos h1,decide_eq_true h1];rfl
 ·rw [if_neg h1,decide_eq_false h1]
  by_cases h2:0<q
  ·rw [if_pos h2];rfl
  ·rw [if_neg h2];rfl
set_option maxHeartbeats 1600000 in
set_option maxRecDepth 100000 in
theorem Py (D C B m N K r a b:Nat) (T:bw) (w:World) (hT:ug w B m N K T) (hF:lA D C m N K T) (hcd:C*D+C*D<=1000000) (hr:r<m) (ha:a<N) (hb:b<N) (hpa:T.cell r a≠0) (hpb:T.cell r b≠0):
 Calls Try.prog 56 #[.pointer (some ⟨B,0,none⟩),.int .i64 (r:Int),.int .i64 (a:Int),.int .i64 (b:Int)] w fun e w'=>e= .returned (.bool (kT T m r a b 0 K))/\Below w.heap.size w w':=by
 obtain ⟨cs,hB,hR⟩:=hT
 have hu:=Try.underlying62
 have hrows:=bz hB hR.rows
 have Pr:=bz hB hR.costs
 have HR:=Aside0.mk hR
 have HB:=Aside0.mk hB
 clear hR hB
 go_enter Try.func56,Try.ntmps56
 go_wp2
 repeat (go_quiet (fail);try go_wp2)
 go_loopw [17] (fun kv wr=>∃k:Nat,kv= .int .i64 (k:Int)/\k<=K/\Aside0 (kT T m r a b 0 K=kT T m r a b k (K - k))/\Below w.heap.size w wr) (fun kv _=>K -(intOf kv).toNat)
 case atStart=>exact ⟨0,rfl,Nat.zero_le _,⟨rfl⟩,by repeat (first|exact Below.refl _ _|apply bn)⟩
 case round=>
  obtain ⟨k,rfl,hk,HE,hbl⟩:=hrel
  have Et:wr.heap[B]? =some (.cells cs 62 (0,0)):=(hbl.block _ (Array.getElem?_eq_some_iff.1 HB.out).1).trans HB.out
  by_cases hlt:k<K
  ·obtain ⟨i,hi⟩:∃i,i=m+k:=⟨_,rfl⟩
   have hik:i<m+K:=by omega
   have aN:a<=N:=Nat.le_of_lt ha
   have bN:b<=N:=Nat.le_of_lt hb
   have Ey:r<m+K:=by omega
   have hw:IntKind.i64.wrap ((m:Int)+(k:Int))=(i:Int):=by rw [hi];have:=HR.out.hm;rw [cZ,cL (by omega) (by omega)];rfl
   have hra:Qu C D (T.cell i a/T.cell r a):=by rw [hi];exact hF.ratio hr hlt ha hpa
   have hrb:Qu C D (T.cell i b/T.cell r b):=by rw [hi];exact hF.ratio hr hlt hb hpb
   have hD1:=hF.d1
   have qI:=hF.c1
   have hDD:=hF.dd
   have hX:∀n,n<=100000->n*D<=100000000:=fun n hn=>Nat.le_trans (Nat.mul_le_mul hn hD1) (by decide)
   have hY:∀n,n<=100000->D*n<=100000000:=fun n hn=>by rw [Nat.mul_comm];exact hX n hn
   have b7F:=hX 100000 (by omega)
   have b7G:=hY 100000 (by omega)
   have iJ:=Aside0.mk (fun W=>Ci W (Qu.sz (hF.any hik aN)) (Qu.sz (hF.any Ey aN)) (by omega) (by omega) hpa (Qu.ok hra (by omega) (by omega)))
   have nN:=Aside0.mk (fun W=>Ci W (Qu.sz (hF.any hik bN)) (Qu.sz (hF.any Ey bN)) (by omega) (by omega) hpb (Qu.ok hrb (by omega) (by omega)))
   have Bu:=Aside0.mk (fun W=>KR W (Qu.sz hrb) (Qu.sz hra) (by omega) (by omega) (Qu.ok (Qu.sub hrb hra) hcd hDD))
   have Yc:=Aside0.mk (fun W=>wV (T.cell i b/T.cell r b - T.cell i a/T.cell r a) W)
   have Ik:Aside0 (kT T m r a b 0 K=if T.cell i b/T.cell r b - T.cell i a/T.cell r a=0 then kT T m r a b (k+1) (K -(k+1)) else decide (T.cell i b/T.cell r b - T.cell i a/T.cell r a<0)):=⟨by
    rw [HE.out,show K - k=(K -(k+1))+1 by omega,hi];rfl⟩
   have oa:Aside0 (wrap64 ((k:Int)+1)=((k+1:Nat):Int)):=⟨eD (by have:=HR.out.hm;omega)⟩
   have b0:(0:Int)<=(i:Int):=by omega
   have b1:(i:Int)<16:=by have:=HR.out.hm;omega
   have b2:(0:Int)<=(a:Int):=by omega
   have b3:(a:Int)<16:=by have:=HR.out.hN;omega
   have b4:(0:Int)<=(b:Int):=by omega
   have b5:(b:Int)<16:=by have:=HR.out.hN;omega
   have b6:(0:Int)<=(r:Int):=by omega
   have b7:(r:Int)<16:=by have:=HR.out.hm;omega
   have bL:=Aside0.mk Et
   have qx:=Aside0.mk hbl
   clear hbl Et hrows Pr hi HE hra hrb hD1 qI hDD hF hcd hpa hpb ha hb hX hY b7F b7G
   have hm:=Pq
   have hm2:=KS
   have hm3:=zq
   go_wp2
   go_cut [10] from 20 to 42 (fun s_ wx=>∃g,s_= .pointer (some ⟨g,0,none⟩)/\Aside0 (wx.heap[B]? =some (.cells cs 62 (0,0)))/\Aside0 (wx.heap[g]? =some (.cells #[.int .i64 (T.cell i a/T.cell r a).num,.int .i64 ((T.cell i a/T.cell r a).den:Int)] 26 (0,0)))/\Aside0 (Below w.heap.size w wx))
   case first=>
    have HG:Aside0 (B<wr.heap.size):=⟨aY bL.out⟩
    have HS:=Aside0.mk (a3V (B:=B) HR.out hik aN Ey)
    go_region_held3 (fun w'=>w'.cell? ⟨B,528,none⟩=some (.int .i64 (m:Int))/\w'.cell? ⟨B,i*32+a*2,none⟩=some (.int .i64 (T.cell i a).num)/\w'.cell? ⟨B,i*32+a*2+1,none⟩=some (.int .i64 ((T.cell i a).den:Int))/\w'.cell? ⟨B,r*32+a*2,none⟩=some (.int .i64 (T.cell r a).num)/\w'.cell? ⟨B,r*32+a*2+1,none⟩=some (.int .i64 ((T.cell r a).den:Int))) (first|(with_reducible exact Ez.out)|exact HS.out _ (by repeat (first|exact bL.out|exact dG.out|refine ak ?_|refine aq ?_ _|refine bA ?_ (Nat.ne_of_lt HG.out)))) (first|(go_at_call 86;(with_reducible refine (iJ.out _).mono ?_);rintro e w1 ⟨rfl,hb1⟩;(first|(have HZ:Aside0 (w1.heap[wr.heap.size]? =some (.cells #[.int .i64 0,.int .i64 0] 26 (0,0))):=⟨ah (bW wr.drew (.cells #[.int .i64 0,.int .i64 0] 26)) hb1⟩;have hz0:w1.cell? ⟨wr.heap.size,0,none⟩=some (.int .i64 0):=(ag HZ.out 0).trans rfl;have hz1:w1.cell? ⟨wr.heap.size,1,none⟩=some (.int .i64 0):=(ag HZ.out 1).trans rfl;have hz2:=aa HZ.out 0;have hz3:=aa HZ.out 1;have hb2:Below wr.heap.size wr w1:=ai (aK (bn (Below.refl _ _)) _) hb1)|(have hb2:Below wr.heap.size wr w1:=ai (bn (Below.refl _ _)) hb1));have dG:=Aside0.mk (ah bL.out hb2);have xT:=Aside0.mk (ai qx.out hb2);have Ez:=Aside0.mk (HS.out _ dG.out);have Yd:Aside0 (w.heap.size<=wr.heap.size):=⟨qx.out.size⟩;have HW2:Aside0 (wr.heap.size<=w1.heap.size):=⟨hb2.size⟩;clear hb2 hb1))
    all_goals
     go_wp2_with fail
     go_meet
     case rel=>first|exact ⟨_,rfl,⟨aq dG.out _⟩,⟨bW _ _⟩,⟨aK xT.out _⟩⟩|exact ⟨_,rfl,⟨bA (bA dG.out (Nat.ne_of_lt HG.out)) (Nat.ne_of_lt HG.out)⟩,⟨aX (aX HZ.out 0 (.int .i64 (T.cell i a/T.cell r a).num) (cs':= #[.int .i64 (T.cell i a/T.cell r a).num,.int .i64 0]) rfl) 1 (.int .i64 ((T.cell i a/T.cell r a).den:Int)) (cs':= #[.int .i64 (T.cell i a/T.cell r a).num,.int .i64 ((T.cell i a/T.cell r a).den:Int)]) rfl⟩,⟨br (br xT.out Yd.out) Yd.out⟩⟩
   case rest=>
   obtain ⟨g10,rfl,KT,Io,a1g⟩:=hcut
   generalize wc=lO at*
   clear bL qx iJ
   go_wp2
   go_cut [11] from 43 to 65 (fun s_ wx=>∃g,s_= .pointer (some ⟨g,0,none⟩)/\Aside0 (wx.heap[B]? =some (.cells cs 62 (0,0)))/\Aside0 (wx.heap[g]? =some (.cells #[.int .i64 (T.cell i b/T.cell r b).num,.int .i64 ((T.cell i b/T.cell r b).den:Int)] 26 (0,0)))/\Aside0 (Below w.heap.size w wx)/\Aside0 (wx.heap[g10]? =some (.cells #[.int .i64 (T.cell i a/T.cell r a).num,.int .i64 ((T.cell i a/T.cell r a).den:Int)] 26 (0,0))))
   case first=>
    have HG:Aside0 (B<lO.heap.size):=⟨aY KT.out⟩
    have HS:=Aside0.mk (a3V (B:=B) HR.out hik bN Ey)
    go_region_held3 (fun w'=>w'.cell? ⟨B,528,none⟩=some (.int .i64 (m:Int))/\w'.cell? ⟨B,i*32+b*2,none⟩=some (.int .i64 (T.cell i b).num)/\w'.cell? ⟨B,i*32+b*2+1,none⟩=some (.int .i64 ((T.cell i b).den:Int))/\w'.cell? ⟨B,r*32+b*2,none⟩=some (.int .i64 (T.cell r b).num)/\w'.cell? ⟨B,r*32+b*2+1,none⟩=some (.int .i64 ((T.cell r b).den:Int))) (first|(with_reducible exact Ez.out)|exact HS.out _ (by repeat (first|exact KT.out|exact dG.out|refine ak ?_|refine aq ?_ _|refine bA ?_ (Nat.ne_of_lt HG.out)))) (first|(go_at_call 86;(with_reducible refine (nN.out _).mono ?_);rintro e w1 ⟨rfl,hb1⟩;(first|(have HZ:Aside0 (w1.heap[lO.heap.size]? =some (.cells #[.int .i64 0,.int .i64 0] 26 (0,0))):=⟨ah (bW lO.drew (.cells #[.int .i64 0,.int .i64 0] 26)) hb1⟩;have hz0:w1.cell? ⟨lO.heap.size,0,none⟩=some (.int .i64 0):=(ag HZ.out 0).trans rfl;have hz1:w1.cell? ⟨lO.heap.size,1,none⟩=some (.int .i64 0):=(ag HZ.out 1).trans rfl;have hz2:=aa HZ.out 0;have hz3:=aa HZ.out 1;have hb2:Below lO.heap.size lO w1:=ai (aK (bn (Below.refl _ _)) _) hb1)|(have hb2:Below lO.heap.size lO w1:=ai (bn (Below.refl _ _)) hb1));have dG:=Aside0.mk (ah KT.out hb2);have xT:=Aside0.mk (ai a1g.out hb2);have Ez:=Aside0.mk (HS.out _ dG.out);have Yd:Aside0 (w.heap.size<=lO.heap.size):=⟨a1g.out.size⟩;have HW2:Aside0 (lO.heap.size<=w1.heap.size):=⟨hb2.size⟩;have a3Y:=Aside0.mk (ah Io.out hb2);have a3Z:Aside0 (g10<lO.heap.size):=⟨aY Io.out⟩;clear hb2 hb1))
    all_goals
     go_wp2_with fail
     go_meet
     case rel=>first|exact ⟨_,rfl,⟨aq dG.out _⟩,⟨bW _ _⟩,⟨aK xT.out _⟩,⟨aq a3Y.out _⟩⟩|exact ⟨_,rfl,⟨bA (bA dG.out (Nat.ne_of_lt HG.out)) (Nat.ne_of_lt HG.out)⟩,⟨aX (aX HZ.out 0 (.int .i64 (T.cell i b/T.cell r b).num) (cs':= #[.int .i64 (T.cell i b/T.cell r b).num,.int .i64 0]) rfl) 1 (.int .i64 ((T.cell i b/T.cell r b).den:Int)) (cs':= #[.int .i64 (T.cell i b/T.cell r b).num,.int .i64 ((T.cell i b/T.cell r b).den:Int)]) rfl⟩,⟨br (br xT.out Yd.out) Yd.out⟩,⟨bA (bA a3Y.out (Nat.ne_of_lt a3Z.out)) (Nat.ne_of_lt a3Z.out)⟩⟩
   case rest=>
   obtain ⟨g11,rfl,HB11,a9r,a9s,Io⟩:=hcut
   generalize wc=fk at*
   have hx1:=(ag a9r.out 0).trans rfl
   have hx2:=(ag a9r.out 1).trans rfl
   have hx3:=(ag Io.out 0).trans rfl
   have zw:=(ag Io.out 1).trans rfl
   clear KT a1g nN
   by_cases hz:T.cell i b/T.cell r b - T.cell i a/T.cell r a=0
   ·have g4:(jC (T.cell i b/T.cell r b - T.cell i a/T.cell r a) !=0)=false:=by rw [rD.2 hz];rfl
    have Cj:Aside0 (kT T m r a b 0 K=kT T m r a b (k+1) (K -(k+1))):=⟨by rw [Ik.out,if_pos hz]⟩
    clear hz Ik
    go_wp2_with (first|(go_at_call 85;(with_reducible refine (Bu.out _).mono ?_);rintro e w2 ⟨rfl,hb2⟩;have Mi:=Aside0.mk (ai a9s.out hb2);clear hb2)|(go_at_call 87;(with_reducible refine (Yc.out _).mono ?_);rintro e w3 ⟨rfl,hb3⟩;have Pz:=Aside0.mk (ai Mi.out hb3);clear hb3))
    go_roundw
    case rel=>exact ⟨k+1,by first|(rw [oa.out];done)|rfl|(simp;done),by omega,Cj,Pz.out⟩
    case measure=>(try rw [oa.out]);simp [intOf];omega
   ·have g4:(jC (T.cell i b/T.cell r b - T.cell i a/T.cell r a) !=0)=true:=bne_iff_ne.mpr (fun h=>hz (rD.1 h))
    have Cj:Aside0 (kT T m r a b 0 K=decide (jC (T.cell i b/T.cell r b - T.cell i a/T.cell r a)<0)):=⟨by rw [Ik.out,if_neg hz,zv]⟩
    clear hz Ik
    go_wp2_with (first|(go_at_call 85;(with_reducible refine (Bu.out _).mono ?_);rintro e w2 ⟨rfl,hb2⟩;have Mi:=Aside0.mk (ai a9s.out hb2);clear hb2)|(go_at_call 87;(with_reducible refine (Yc.out _).mono ?_);rintro e w3 ⟨rfl,hb3⟩;have Pz:=Aside0.mk (ai Mi.out hb3);clear hb3))
    go_ret
    exact ⟨by rw [Cj.out];first|done|rfl,Pz.out⟩
  ·have XY:k=K:=by omega
   have Cj:Aside0 (kT T m r a b 0 K=false):=⟨by rw [HE.out,XY,Nat.sub_self];rfl⟩
   subst XY
   have qx:=Aside0.mk hbl
   clear HE hbl Et hF hcd hpa hpb
   go_wp2
   go_ret
   exact ⟨by rw [Cj.out];first|done|rfl,qx.out⟩
theorem Ip (T:bw) (m c:Nat):∀d k,(mm T m c k d<0↔∃i,k<=i/\i<k+d/\(∀j,k<=j->j<i->T.cell (m+j) c=0)/\T.cell (m+i) c<0)
 |0,k=>by simp only [mm];constructor
          ·intro h;omega
          ·rintro ⟨i,h1,h2,_⟩;omega
 |d+1,k=>by
  simp only [mm]
  by_cases h:T.cell (m+k) c=0
  ·rw [if_pos h,Ip T m c d (k+1)]
   constructor
   ·rintro ⟨i,h1,h2,h3,h4⟩
    exact ⟨i,by omega,by omega,fun j hj hji=>by
     by_cases e:j=k
     ·rw [e];exact h
     ·exact h3 j (by omega) hji,h4⟩
   ·rintro ⟨i,h1,h2,h3,h4⟩
    have:i≠k:=fun e=>by rw [e,h] at h4;grind
    exact ⟨i,by omega,by omega,fun j hj hji=>h3 j (by omega) hji,h4⟩
  ·rw [if_neg h]
   constructor
   ·intro hs
    refine ⟨k,Nat.le_refl _,by omega,fun j _ _=>by omega,?_⟩
    unfold jC at hs
    by_cases h1:T.cell (m+k) c<0
    ·exact h1
    ·rw [if_neg h1] at hs;split at hs<;>omega
   ·rintro ⟨i,h1,h2,h3,h4⟩
    have e:i=k:=by
     by_cases e:i=k
     ·exact e
     ·exact absurd (h3 k (Nat.le_refl _) (by omega)) h
    rw [e] at h4
    unfold jC;rw [if_pos h4];omega
theorem Mj {T:bw} {m c K:Nat}:mm T m c 0 K<0↔eW K (T.cost m c):=by
 rw [Ip]
 unfold eW bw.cost
 constructor
 ·rintro ⟨i,_,h2,h3,h4⟩;exact ⟨i,by omega,fun j hj=>h3 j (Nat.zero_le _) hj,h4⟩
 ·rintro ⟨i,h2,h3,h4⟩;exact ⟨i,Nat.zero_le _,by omega,fun j _ hj=>h3 j hj,h4⟩
theorem Iq (T:bw) (m r a b:Nat):∀d k,(kT T m r a b k d=true↔∃i,k<=i/\i<k+d/\(∀j,k<=j->j<i->T.cell (m+j) b/T.cell r b - T.cell (m+j) a/T.cell r a=0)/\T.cell (m+i) b/T.cell r b - T.cell (m+i) a/T.cell r a<0)
 |0,k=>by simp only [kT];constructor
          ·intro h;exact absurd h (by decide)
          ·rintro ⟨i,h1,h2,_⟩;omega
 |d+1,k=>by
  simp only [kT]
  by_cases h:T.cell (m+k) b/T.cell r b - T.cell (m+k) a/T.cell r a=0
  ·rw [if_pos h,Iq T m r a b d (k+1)]
   constructor
   ·rintro ⟨i,h1,h2,h3,h4⟩
    exact ⟨i,by omega,by omega,fun j hj hji=>by
     by_cases e:j=k
     ·rw [e];exact h
     ·exact h3 j (by omega) hji,h4⟩
   ·rintro ⟨i,h1,h2,h3,h4⟩
    have:i≠k:=fun e=>by rw [e,h] at h4;grind
    exact ⟨i,by omega,by omega,fun j hj hji=>h3 j (by omega) hji,h4⟩
  ·rw [if_neg h]
   constructor
   ·intro hs
    exact ⟨k,Nat.le_refl _,by omega,fun j _ _=>by omega,of_decide_eq_true hs⟩
   ·rintro ⟨i,h1,h2,h3,h4⟩
    have e:i=k:=by
     by_cases e:i=k
     ·exact e
     ·exact absurd (h3 k (Nat.le_refl _) (by omega)) h
    rw [e] at h4
    exact decide_eq_true h4
def rat (T:bw) (m r j:Nat):Nat->Rat:=fun k=>T.cell (m+k) j/T.cell r j
theorem Mk {T:bw} {m r a b K:Nat}:kT T m r a b 0 K=true↔eW K (fun k=>rat T m r b k - rat T m r a k):=by
 rw [Iq]
 unfold eW rat
 constructor
 ·rintro ⟨i,_,h2,h3,h4⟩;exact ⟨i,by omega,fun j hj=>h3 j (Nat.zero_le _) hj,h4⟩
 ·rintro ⟨i,h2,h3,h4⟩;exact ⟨i,Nat.zero_le _,by omega,fun j _ hj=>h3 j hj,h4⟩
def Reach (St:bw->bw->Prop) (T0:bw) (n:Nat) (T:bw):Prop:=∃seq:Nat->bw,seq 0=T0/\seq n=T/\∀i,i<n->St (seq i) (seq (i+1))
theorem Reach.zero (St:bw->bw->Prop) (T0:bw):Reach St T0 0 T0:=⟨fun _=>T0,rfl,rfl,fun i hi=>by omega⟩
theorem Reach.next {St:bw->bw->Prop} {T0 T T':bw} {n:Nat} (h:Reach St T0 n T) (s:St T T'):Reach St T0 (n+1) T':=by
 obtain ⟨seq,h0,hn,hs⟩:=h
 refine ⟨fun i=>if i=n+1 then T' else seq i,by show (if 0=n+1 then _ else _)=_;rw [if_neg (by omega)];exact h0,by show (if n+1=n+1 then _ else _)=_;rw [if_pos rfl],fun i hi=>?_⟩
 show St (if i=n+1 then _ else _) (if i+1=n+1 then _ else _)
 rw [if_neg (by omega)]
 by_cases e:i=n
 ·rw [if_pos (by omega),e,hn];exact s
 ·rw [if_neg (by omega)];exact hs i (by omega)
structure Road (D C L m N K:Nat) (St:bw->bw->Prop) (Inv:bw->Prop) (T0:bw):Prop where
 start:Inv T0
 step:∀T T',Inv T->St T T'->Inv T'
 fine:∀T,Inv T->lA D C m N K T
 ends:∀seq:Nat->bw,seq 0=T0->(∀i,i<L->St (seq i) (seq (i+1)))->False
theorem Road.few {D C L m N K n:Nat} {St:bw->bw->Prop} {Inv:bw->Prop} {T0 T:bw} (h:Road D C L m N K St Inv T0) (hr:Reach St T0 n T):n<L:=by
 obtain ⟨seq,h0,_,hs⟩:=hr
 by_cases hn:n<L
 ·exact hn
 ·exact (h.ends seq h0 (fun i hi=>hs i (by omega))).elim
def jA (T:bw) (N c r:Nat) (bv:Int):Prop:=
 (bv= -1/\∀i,i<r->¬0<T.cell i c)∨∃b:Nat,bv=b/\b<r/\0<T.cell b c/\∀i,i<r->0<T.cell i c->(T.cell b N/T.cell b c<T.cell i N/T.cell i c∨(T.cell b N/T.cell b c=T.cell i N/T.cell i c/\T.basis b<=T.basis i))
theorem jA.zero (T:bw) (N c:Nat):jA T N c 0 (-1):= .inl ⟨rfl,fun i hi=>by omega⟩
theorem jA.skip {T:bw} {N c r:Nat} {bv:Int} (h:jA T N c r bv) (hp:¬0<T.cell r c):jA T N c (r+1) bv:=by
 rcases h with ⟨e,h⟩|⟨b,e,hb,h1,h2⟩
 ·refine .inl ⟨e,fun i hi=>?_⟩
  by_cases e2:i=r
  ·rw [e2];exact hp
  ·exact h i (by omega)
 ·refine .inr ⟨b,e,by omega,h1,fun i hi pO=>?_⟩
  by_cases e2:i=r
  ·rw [e2] at pO;exact absurd pO hp
  ·exact h2 i (by omega) pO
theorem jA.first {T:bw} {N c r:Nat} (h:jA T N c r (-1)) (hp:0<T.cell r c):jA T N c (r+1) (r:Int):=by
 rcases h with ⟨e,h⟩|⟨b,e,hb,h1,h2⟩
 ·refine .inr ⟨r,rfl,by omega,hp,fun i hi pO=>?_⟩
  by_cases e2:i=r
  ·rw [e2];exact .inr ⟨rfl,Nat.le_refl _⟩
  ·exact absurd pO (h i (by omega))
 ·omega
theorem jA.keep {T:bw} {N c r b:Nat} (h:jA T N c r (b:Int)) (hk:T.cell b N/T.cell b c<T.cell r N/T.cell r c∨(T.cell b N/T.cell b c=T.cell r N/T.cell r c/\T.basis b<=T.basis r)):jA T N c (r+1) (b:Int):=by
 rcases h with ⟨e,h⟩|⟨b',e,hb,h1,h2⟩
 ·omega
 ·have e2:b'=b:=by omega
  subst e2
  refine .inr ⟨b',e,by omega,h1,fun i hi pO=>?_⟩
  by_cases e2:i=r
  ·rw [e2];exact hk
  ·exact h2 i (by omega) pO
theorem jA.take {T:bw} {N c r b:Nat} (h:jA T N c r (b:Int)) (hp:0<T.cell r c) (hk:T.cell r N/T.cell r c<T.cell b N/T.cell b c∨(T.cell r N/T.cell r c=T.cell b N/T.cell b c/\T.basis r<=T.basis b)):jA T N c (r+1) (r:Int):=by
 rcases h with ⟨e,h⟩|⟨b',e,hb,h1,h2⟩
 ·omega
 ·have e2:b'=b:=by omega
  subst e2
  refine .inr ⟨r,rfl,by omega,hp,fun i hi pO=>?_⟩
  by_cases e2:i=r
  ·rw [e2];exact .inr ⟨rfl,Nat.le_refl _⟩
  ·have h3:=h2 i (by omega) pO
   rcases hk with hk|⟨hk,hk2⟩
   ·rcases h3 with h3|⟨h3,h4⟩
    ·exact .inl (Std.lt_trans hk h3)
    ·exact .inl (by rw [<-h3];exact hk)
   ·rcases h3 with h3|⟨h3,h4⟩
    ·exact .inl (by rw [hk];exact h3)
    ·exact .inr ⟨hk.trans h3,Nat.le_trans hk2 h4⟩
theorem jA.index {T:bw} {N c r:Nat} {bv:Int} (h:jA T N c r bv) (hne:bv≠ -1):∃b:Nat,bv=b/\b<r/\0<T.cell b c:=by
 rcases h with ⟨e,h⟩|⟨b',e,hb,h1,h2⟩
 ·exact absurd e hne
 ·exact ⟨b',e,hb,h1⟩
def Vb (T:bw) (N i:Nat) (rv:Int):Prop:=
 (rv= -1/\∀j,j<i->¬T.cell j N<0)∨∃r:Nat,rv=r/\r<i/\T.cell r N<0
def gZ (T:bw) (m K r c:Nat) (bv:Int):Prop:=
 (bv= -1/\∀j,j<c->¬T.cell r j<0)∨∃b:Nat,bv=b/\b<c/\T.cell r b<0/\∀j,j<c->T.cell r j<0->¬eW K (fun k=>rat T m r b k - rat T m r j k)
theorem gZ.zero (T:bw) (m K r:Nat):gZ T m K r 0 (-1):= .inl ⟨rfl,fun i hi=>by omega⟩
theorem gZ.skip {T:bw} {m K r c:Nat} {bv:Int} (h:gZ T m K r c bv) (hp:¬T.cell r c<0):gZ T m K r (c+1) bv:=by
 rcases h with ⟨e,h⟩|⟨b,e,hb,h1,h2⟩
 ·refine .inl ⟨e,fun i hi=>?_⟩
  by_cases e2:i=c
  ·rw [e2];exact hp
  ·exact h i (by omega)
 ·refine .inr ⟨b,e,by omega,h1,fun i hi pO=>?_⟩
  by_cases e2:i=c
  ·rw [e2] at pO;exact absurd pO hp
  ·exact h2 i (by omega) pO
theorem gZ.first {T:bw} {m K r c:Nat} (h:gZ T m K r c (-1)) (hp:T.cell r c<0):gZ T m K r (c+1) (c:Int):=by
 rcases h with ⟨e,h⟩|⟨b,e,hb,h1,h2⟩
 ·refine .inr ⟨c,rfl,by omega,hp,fun i hi pO=>?_⟩
  by_cases e2:i=c
  ·rw [e2];exact NN.congr NN.zero (fun k _=>by show (0:Rat)=_;grind)
  ·exact absurd pO (h i (by omega))
 ·omega
theorem gZ.keep {T:bw} {m K r c b:Nat} (h:gZ T m K r c (b:Int)) (hk:kT T m r c b 0 K=false):gZ T m K r (c+1) (b:Int):=by
 have hk':¬eW K (fun k=>rat T m r b k - rat T m r c k):=fun hn=>by rw [Mk.2 hn] at hk;exact absurd hk (by decide)
 rcases h with ⟨e,h⟩|⟨b',e,hb,h1,h2⟩
 ·omega
 ·have e2:b'=b:=by omega
  subst e2
  refine .inr ⟨b',e,by omega,h1,fun i hi pO=>?_⟩
  by_cases e2:i=c
  ·rw [e2];exact hk'
  ·exact h2 i (by omega) pO
theorem gZ.take {T:bw} {m K r c b:Nat} (h:gZ T m K r c (b:Int)) (hp:T.cell r c<0) (hk:kT T m r c b 0 K=true):gZ T m K r (c+1) (c:Int):=by
 have hk':=Mk.1 hk
 rcases h with ⟨e,h⟩|⟨b',e,hb,h1,h2⟩
 ·omega
 ·have e2:b'=b:=by omega
  subst e2
  refine .inr ⟨c,rfl,by omega,hp,fun i hi pO=>?_⟩
  by_cases e2:i=c
  ·rw [e2];exact NN.congr NN.zero (fun k _=>by show (0:Rat)=_;grind)
  ·have h3:=h2 i (by omega) pO
   exact gY.2 (.inr ((hk'.neg.add h3).congr (fun k _=>by grind)))
theorem gZ.index {T:bw} {m K r c:Nat} {bv:Int} (h:gZ T m K r c bv) (hne:bv≠ -1):∃b:Nat,bv=b/\b<c/\T.cell r b<0:=by
 rcases h with ⟨e,h⟩|⟨b',e,hb,h1,h2⟩
 ·exact absurd e hne
 ·exact ⟨b',e,hb,h1⟩
end Go.Proofs.Ytnhknojfpjheoaa.PT
