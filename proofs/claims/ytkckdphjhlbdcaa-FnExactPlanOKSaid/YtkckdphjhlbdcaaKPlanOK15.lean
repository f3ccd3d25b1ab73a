/-
  The law FnExactPlanOK answers true at every argument.
-/
import Derived.Test.YtkckdphjhlbdcaaRows
import Derived.Test.YtkckdphjhlbdcaaKPlanOK2
import Derived.Test.YtkckdphjhlbdcaaKPlanOK9
import Derived.Test.YtkckdphjhlbdcaaKPlanOK10
import Derived.Test.YtkckdphjhlbdcaaKPlanOK14
import Derived.Deep.RegionHeld3
import Derived.WalkKit
import Derived.ProofKit
import Derived.OpenShut
import Derived.ShutString
import Derived.ChangeOld
import Derived.Below
import Derived.SizedLaws
import Derived.Lib.SmallJoins
namespace Go.Proofs.Ytkckdphjhlbdcaa.P
open Go.RowKit Go.Proofs.YtkckdphjhlbdcaaW.PrintWords Go.Proofs.YtkckdphjhlbdcaaW.PrintLast Go.Proofs.YtkckdphjhlbdcaaW.PrintMore
attribute [local go_sem] max2_int min2_int max_two min_two max_three min_three max_four min_four
set_option linter.all false
def lp.f (k:Nat) (eT:List (List Int)) (eU:List Int) (eV:List Int) (eW:List (rS)) (gQ:Int) (gS:Int):Option ((List (List Int))×List Int×List Int×(List (dm))×Int×Int):=(cM.f k eT).bind fun jB=>((ct.f k eU).bind fun jH=>((ct.f k eV).bind fun kQ=>((cQ.f k eW).bind fun lN=>((jF.f gQ gS).bind fun nZ=>(some (jB,jH,kQ,lN,nZ.1,nZ.2))))))
theorem lp.mono:∀a0 a1 a2 a3 a4 a5 k,aR (lp.f k a0 a1 a2 a3 a4 a5) (lp.f (k+1) a0 a1 a2 a3 a4 a5):=by
 intro a0 a1 a2 a3 a4 a5 k
 unfold lp.f
 repeat' first
  |(with_reducible exact ct.mono _ _)
  |(with_reducible exact cM.mono _ _)
  |(with_reducible exact cQ.mono _ _)
  |(with_reducible exact aR.refl _)
  |(with_reducible exact aR.none _)
  |(with_reducible refine aR.ite ?_ ?_)
  |(with_reducible refine aR.bind ?_ (fun _=>?_))
set_option maxHeartbeats 8000000 in
set_option maxRecDepth 100000 in
theorem lp.calls (k:Nat) (iC:Option Addr) (iD:Nat) (eT:List (List Int)) (iM:Option Addr) (iN:Nat) (eU:List Int) (iX:Option Addr) (iY:Nat) (eV:List Int) (jg:Option Addr) (jh:Nat) (eW:List (rS)) (gQ:Int) (gS:Int) (r1:List (List Int)) (r2:List Int) (r3:List Int) (r4:List (dm)) (r5:Int) (r6:Int) (w:World) (Kb:Kd.C (Kd.slice 3 (Kd.int .i64)) w iC eT.length eT) (Ke:eT.length<=iD) (Kf:Kd.C (Kd.int .i64) w iM eU.length eU) (Kg:eU.length<=iN) (Kh:Kd.C (Kd.int .i64) w iX eV.length eV) (Ki:eV.length<=iY) (Kj:Kd.C BG w jg eW.length eW) (Kk:eW.length<=jh) (h:lp.f k eT eU eV eW gQ gS=some (r1,r2,r3,r4,r5,r6)):
 Calls Try.prog 9 #[.agg #[.slice iC eT.length iD,.slice iM eU.length iN,.slice iX eV.length iY,.slice jg eW.length jh,.int .i64 gQ,.int .i64 gS]] w fun e w'=>∃lH v1_ v2_ v3_:Value,e= .returned (.agg #[lH,v1_,v2_,v3_,.int .i64 r5,.int .i64 r6])/\Kd.S (Kd.slice 3 (Kd.int .i64)) 23 w' w.heap.size (fun k_=>some k_≠(v1_:Value).ownBlock/\some k_≠(v2_:Value).ownBlock) lH r1/\Kd.R (Kd.int .i64) 3 w' w.heap.size (fun k_=>some k_≠(v2_:Value).ownBlock) v1_ r2/\Kd.R (Kd.int .i64) 3 w' w.heap.size (fun k_=>some k_≠(v1_:Value).ownBlock) v2_ r3/\Kd.R gY 34 w' w.heap.size (fun _=>True) v3_ r4/\Below w.heap.size w w':=by
 have b8D:=Try.underlying28
 have hu36:=Try.underlying36
 have b1W:=Try.underlying26
 have lB:=Try.underlying34
 have BB:=Aside0.mk Kb
 have BC:=Aside0.mk Ke
 clear Kb Ke
 have EF:=Aside0.mk Kf
 have EG:=Aside0.mk Kg
 clear Kf Kg
 have Kl:=Aside0.mk Kh
 have Km:=Aside0.mk Ki
 clear Kh Ki
 have OZ:=Aside0.mk Kj
 have Pa:=Aside0.mk Kk
 clear Kj Kk
 have HB:=Aside0.mk (Below.refl w.heap.size w)
 have H:((cM.f k eT).bind fun jB=>((ct.f k eU).bind fun jH=>((ct.f k eV).bind fun kQ=>((cQ.f k eW).bind fun lN=>((jF.f gQ gS).bind fun nZ=>(some (jB,jH,kQ,lN,nZ.1,nZ.2)))))))=some (r1,r2,r3,r4,r5,r6):=h
 clear h
 replace H:=Option.bind_eq_some_iff.mp H
 obtain ⟨jB,zE,H⟩:=H
 replace H:((ct.f k eU).bind fun jH=>((ct.f k eV).bind fun kQ=>((cQ.f k eW).bind fun lN=>((jF.f gQ gS).bind fun nZ=>(some (jB,jH,kQ,lN,nZ.1,nZ.2))))))=some (r1,r2,r3,r4,r5,r6):=H
 have A2:=Aside0.mk zE
 clear zE
 replace H:=Option.bind_eq_some_iff.mp H
 obtain ⟨jH,jx,H⟩:=H
 replace H:((ct.f k eV).bind fun kQ=>((cQ.f k eW).bind fun lN=>((jF.f gQ gS).bind fun nZ=>(some (jB,jH,kQ,lN,nZ.1,nZ.2)))))=some (r1,r2,r3,r4,r5,r6):=H
 have A3:=Aside0.mk jx
 clear jx
 replace H:=Option.bind_eq_some_iff.mp H
 obtain ⟨kQ,vE,H⟩:=H
 replace H:((cQ.f k eW).bind fun lN=>((jF.f gQ gS).bind fun nZ=>(some (jB,jH,kQ,lN,nZ.1,nZ.2))))=some (r1,r2,r3,r4,r5,r6):=H
 have A4:=Aside0.mk vE
 clear vE
 replace H:=Option.bind_eq_some_iff.mp H
 obtain ⟨lN,yz,H⟩:=H
 replace H:((jF.f gQ gS).bind fun nZ=>(some (jB,jH,kQ,lN,nZ.1,nZ.2)))=some (r1,r2,r3,r4,r5,r6):=H
 have A5:=Aside0.mk yz
 clear yz
 replace H:=Option.bind_eq_some_iff.mp H
 obtain ⟨⟨wN,yl⟩,sW,H⟩:=H
 replace H:(some (jB,jH,kQ,lN,wN,yl))=some (r1,r2,r3,r4,r5,r6):=H
 have A6:=Aside0.mk sW
 clear sW
 simp only [Option.some.injEq,Prod.mk.injEq] at H
 obtain ⟨rfl,rfl,rfl,rfl,rfl,rfl⟩:=H
 go_enter Try.func9,Try.ntmps9
 go_wp2_with (first|((with_reducible refine bn (N:=1) rfl ?_);refine bq ?hg (N:=1) ?hd (cs:= #[.slice iC eT.length iD,.slice iM eU.length iN,.slice iX eV.length iY,.slice jg eW.length jh,.int .i64 gQ,.int .i64 gS]) (t:=28) ?hr ?_;(case hd=>rfl);(case hg=>rfl);(case hr=>first|(go_simp;done)|(go_simp;rfl));intro eH hg w7 aU hb;have aA:=Aside0.mk (ah ay hb);have aC:=Aside0.mk (aU);have aD:=Aside0.mk ((by rw [hg];exact (ax ay):w.heap.size<=eH));have aK:=Aside0.mk ((by rw [hg];exact (ax ay):w.heap.size<=eH));clear HB;have HB:=aA;have cF:=aC;have GW333:=aD;have GE333:=aK;clear aA aC aD aK;clear hb aU hg)|((with_reducible refine bn (N:=2) rfl ?_);refine bq ?hg (N:=2) ?hd (cs:= #[.slice none 0 0,.slice none 0 0,.slice none 0 0,.slice none 0 0,.int .i64 0,.int .i64 0]) (t:=36) ?hr ?_;(case hd=>rfl);(case hg=>rfl);(case hr=>first|(go_simp;done)|(go_simp;rfl));intro eP hg w8 aU hb;have aA:=Aside0.mk (aj (g:=eH) (o:= .cells #[.slice iC eT.length iD,.slice iM eU.length iN,.slice iX eV.length iY,.slice jg eW.length jh,.int .i64 gQ,.int .i64 gS] 28 (0,0)) (aH cF) hb);have aC:=Aside0.mk (ah ay hb);have aD:=Aside0.mk (aU);have aK:=Aside0.mk ((by rw [hg];exact (ax ay):w.heap.size<=eP));have bF:=Aside0.mk ((by rw [hg];exact (ax ay):w.heap.size<=eP));have bS:=Aside0.mk ((by rw [hg];exact Nat.ne_of_lt (bf (g:=eH) (o:= .cells #[.slice iC eT.length iD,.slice iM eU.length iN,.slice iX eV.length iY,.slice jg eW.length jh,.int .i64 gQ,.int .i64 gS] 28 (0,0)) (aH cF)):eH≠eP));have bY:=Aside0.mk ((by rw [hg];exact Nat.ne_of_gt (bf (g:=eH) (o:= .cells #[.slice iC eT.length iD,.slice iM eU.length iN,.slice iX eV.length iY,.slice jg eW.length jh,.int .i64 gQ,.int .i64 gS] 28 (0,0)) (aH cF)):eP≠eH));clear cF;clear HB;have cF:=aA;have HB:=aC;have fX:=aD;have GW334:=aK;have GE334:=bF;have a0W:=bS;have a0X:=bY;clear aA aC aD aK bF bS bY;clear hb aU hg)|((with_reducible refine bn (N:=3) rfl ?_);refine bq ?hg (N:=3) ?hd (cs:= #[.slice none 0 0,.slice none 0 0,.slice none 0 0,.slice none 0 0,.int .i64 0,.int .i64 0]) (t:=36) ?hr ?_;(case hd=>rfl);(case hg=>rfl);(case hr=>first|(go_simp;done)|(go_simp;rfl));intro dO hg w9 aU hb;have aA:=Aside0.mk (aj (g:=eH) (o:= .cells #[.slice iC eT.length iD,.slice iM eU.length iN,.slice iX eV.length iY,.slice jg eW.length jh,.int .i64 gQ,.int .i64 gS] 28 (0,0)) (aH cF) hb);have aC:=Aside0.mk (aj (g:=eP) (o:= .cells #[.slice none 0 0,.slice none 0 0,.slice none 0 0,.slice none 0 0,.int .i64 0,.int .i64 0] 36 (0,0)) (aH fX) hb);have aD:=Aside0.mk (ah ay hb);have aK:=Aside0.mk (aU);have bF:=Aside0.mk ((by rw [hg];exact (ax ay):w.heap.size<=dO));have bS:=Aside0.mk ((by rw [hg];exact (ax ay):w.heap.size<=dO));have bY:=Aside0.mk ((by rw [hg];exact Nat.ne_of_lt (bf (g:=eH) (o:= .cells #[.slice iC eT.length iD,.slice iM eU.length iN,.slice iX eV.length iY,.slice jg eW.length jh,.int .i64 gQ,.int .i64 gS] 28 (0,0)) (aH cF)):eH≠dO));have eX:=Aside0.mk ((by rw [hg];exact Nat.ne_of_gt (bf (g:=eH) (o:= .cells #[.slice iC eT.length iD,.slice iM eU.length iN,.slice iX eV.length iY,.slice jg eW.length jh,.int .i64 gQ,.int .i64 gS] 28 (0,0)) (aH cF)):dO≠eH));have fY:=Aside0.mk ((by rw [hg];exact Nat.ne_of_lt (bf (g:=eP) (o:= .cells #[.slice none 0 0,.slice none 0 0,.slice none 0 0,.slice none 0 0,.int .i64 0,.int .i64 0] 36 (0,0)) (aH fX)):eP≠dO));have gT:=Aside0.mk ((by rw [hg];exact Nat.ne_of_gt (bf (g:=eP) (o:= .cells #[.slice none 0 0,.slice none 0 0,.slice none 0 0,.slice none 0 0,.int .i64 0,.int .i64 0] 36 (0,0)) (aH fX)):dO≠eP));clear cF;clear fX;clear HB;have cF:=aA;have fX:=aC;have HB:=aD;have cu:=aK;have GW335:=bF;have GE335:=bS;have wC:=bY;have a0Y:=eX;have qZ:=fY;have a0Z:=gT;clear aA aC aD aK bF bS bY eX fY gT;clear hb aU hg;have Bc:=a0W.out;have Be:=a0X.out;have Wf:=wC.out;have Wh:=a0Y.out;have a7Q:w9.cell? ⟨eH,0,none⟩=some (.slice iC eT.length iD):=(ag cF.out 0).trans rfl;have a7R:w9.cell? ⟨eH,1,none⟩=some (.slice iM eU.length iN):=(ag cF.out 1).trans rfl;have hcz12_2:w9.cell? ⟨eH,2,none⟩=some (.slice iX eV.length iY):=(ag cF.out 2).trans rfl;have hcz12_3:w9.cell? ⟨eH,3,none⟩=some (.slice jg eW.length jh):=(ag cF.out 3).trans rfl;have hcz12_4:w9.cell? ⟨eH,4,none⟩=some (.int .i64 gQ):=(ag cF.out 4).trans rfl;have hcz12_5:w9.cell? ⟨eH,5,none⟩=some (.int .i64 gS):=(ag cF.out 5).trans rfl;have a7S:=af cF.out 0;have a7T:=af cF.out 1;have hfz12_2:=af cF.out 2;have hfz12_3:=af cF.out 3;have hfz12_4:=af cF.out 4;have hfz12_5:=af cF.out 5)|((with_reducible refine aV (f:=8) rfl ?_);refine bH (some 6) rfl rfl Try.func8 (by kernel_rfl) rfl #[.slice iC eT.length iD] rfl (by (try simp only [List.map_toArray,List.map_cons,List.map_nil]);first|done|rfl|(simp only [List.length_drop,List.length_take];rfl)) ?_;(with_reducible refine (cM.calls k _ _ eT jB _ ?bO ?bP A2.out).mono ?_);(case bO=>repeat (first|exact (Kd.bp BB.out HB.out)|(with_reducible refine Kd.bV ?_ _)|(with_reducible refine Kd.bW ?_ _)|(with_reducible refine Kd.cy ?_)));(case bP=>exact BC.out);rintro e iZ ⟨v337,rfl,gG,hb⟩;refine ⟨_,rfl,?_⟩;have aA:=Aside0.mk (Kd.DO gG (ax ay));have aC:=Aside0.mk (aj (g:=eH) (o:= .cells #[.slice iC eT.length iD,.slice iM eU.length iN,.slice iX eV.length iY,.slice jg eW.length jh,.int .i64 gQ,.int .i64 gS] 28 (0,0)) (aH cF) hb);have aD:=Aside0.mk (aj (g:=eP) (o:= .cells #[.slice none 0 0,.slice none 0 0,.slice none 0 0,.slice none 0 0,.int .i64 0,.int .i64 0] 36 (0,0)) (aH fX) hb);have aK:=Aside0.mk (aj (g:=dO) (o:= .cells #[.slice none 0 0,.slice none 0 0,.slice none 0 0,.slice none 0 0,.int .i64 0,.int .i64 0] 36 (0,0)) (aH cu) hb);have bF:=Aside0.mk (ah ay hb);clear cF;clear fX;clear cu;clear HB;have qy:=aA;have cF:=aC;have fX:=aD;have cu:=aK;have HB:=bF;clear aA aC aD aK bF;(try clear hb);(try clear hb2);(try clear hk);(try clear hi);(try clear gG);obtain ⟨nt,nu,b8E⟩:=Kd.ri qy.out;subst b8E;have a4p:=a0Z.out;have a4q:=qZ.out;have KY:iZ.cell? ⟨dO,0,none⟩=some (.slice none 0 0):=(ag cu.out 0).trans rfl;have KZ:iZ.cell? ⟨dO,1,none⟩=some (.slice none 0 0):=(ag cu.out 1).trans rfl;have hcz16_2:iZ.cell? ⟨dO,2,none⟩=some (.slice none 0 0):=(ag cu.out 2).trans rfl;have hcz16_3:iZ.cell? ⟨dO,3,none⟩=some (.slice none 0 0):=(ag cu.out 3).trans rfl;have hcz16_4:iZ.cell? ⟨dO,4,none⟩=some (.int .i64 0):=(ag cu.out 4).trans rfl;have hcz16_5:iZ.cell? ⟨dO,5,none⟩=some (.int .i64 0):=(ag cu.out 5).trans rfl;have La:=af cu.out 0;have Lb:=af cu.out 1;have hfz16_2:=af cu.out 2;have hfz16_3:=af cu.out 3;have hfz16_4:=af cu.out 4;have hfz16_5:=af cu.out 5;have KP:iZ.cell? ⟨eH,0,none⟩=some (.slice iC eT.length iD):=(ag cF.out 0).trans rfl;have KQ:iZ.cell? ⟨eH,1,none⟩=some (.slice iM eU.length iN):=(ag cF.out 1).trans rfl;have hcz17_2:iZ.cell? ⟨eH,2,none⟩=some (.slice iX eV.length iY):=(ag cF.out 2).trans rfl;have hcz17_3:iZ.cell? ⟨eH,3,none⟩=some (.slice jg eW.length jh):=(ag cF.out 3).trans rfl;have hcz17_4:iZ.cell? ⟨eH,4,none⟩=some (.int .i64 gQ):=(ag cF.out 4).trans rfl;have hcz17_5:iZ.cell? ⟨eH,5,none⟩=some (.int .i64 gS):=(ag cF.out 5).trans rfl;have KR:=af cF.out 0;have KS:=af cF.out 1;have hfz17_2:=af cF.out 2;have hfz17_3:=af cF.out 3;have hfz17_4:=af cF.out 4;have hfz17_5:=af cF.out 5)|((with_reducible refine aV (f:=14) rfl ?_);refine bH (some 10) rfl rfl Try.func14 (by kernel_rfl) rfl #[.slice iM eU.length iN] rfl (by (try simp only [List.map_toArray,List.map_cons,List.map_nil]);first|done|rfl|(simp only [List.length_drop,List.length_take];rfl)) ?_;(with_reducible refine (ct.calls k _ _ eU jH _ ?bO ?bP A3.out).mono ?_);(case bO=>exact Kd.bp EF.out ay);(case bP=>exact EG.out);rintro e tq ⟨v340,rfl,gG,hb⟩;refine ⟨_,rfl,?_⟩;have aA:=Aside0.mk (Kd.jd (by (with_reducible repeat (first|apply Kd.bK|apply Kd.bL|apply Kd.bX));exact (Kd.ey (Kd.jU (p:=⟨dO,0,none⟩) (Kd.pY qy.out cu.out (by decide)) (fun _ hk=>hk.2) (.slice nt jB.length nu)) (fun _ h_=>h_.1))) (Kd.jc gG) hb);have aC:=Aside0.mk (Kd.ie gG (ax ay));have aD:=Aside0.mk (aj (g:=eH) (o:= .cells #[.slice iC eT.length iD,.slice iM eU.length iN,.slice iX eV.length iY,.slice jg eW.length jh,.int .i64 gQ,.int .i64 gS] 28 (0,0)) (by (with_reducible repeat (first|refine aq ?_ _|refine ak ?_|refine ai ?_ _));refine bM ?_ wC.out _;(with_reducible repeat (first|refine aq ?_ _|refine ak ?_|refine ai ?_ _));exact cF.out) hb);have aK:=Aside0.mk (aj (g:=eP) (o:= .cells #[.slice none 0 0,.slice none 0 0,.slice none 0 0,.slice none 0 0,.int .i64 0,.int .i64 0] 36 (0,0)) (by (with_reducible repeat (first|refine aq ?_ _|refine ak ?_|refine ai ?_ _));refine bM ?_ qZ.out _;(with_reducible repeat (first|refine aq ?_ _|refine ak ?_|refine ai ?_ _));exact fX.out) hb);have bF:=Aside0.mk (aj (g:=dO) (o:= .cells #[.slice nt jB.length nu,.slice none 0 0,.slice none 0 0,.slice none 0 0,.int .i64 0,.int .i64 0] 36 (0,0)) (by (with_reducible repeat (first|refine aq ?_ _|refine ak ?_|refine ai ?_ _));refine bh (cs:= #[.slice none 0 0,.slice none 0 0,.slice none 0 0,.slice none 0 0,.int .i64 0,.int .i64 0]) ?_ 0 _ rfl;(with_reducible repeat (first|refine aq ?_ _|refine ak ?_|refine ai ?_ _));exact cu.out) hb);have bS:=Aside0.mk (ah ay hb);clear qy;clear cF;clear fX;clear cu;clear HB;have qy:=aA;have sI:=aC;have cF:=aD;have fX:=aK;have cu:=bF;have HB:=bS;clear aA aC aD aK bF bS;(try clear hb);(try clear hb2);(try clear hk);(try clear hi);(try clear gG);obtain ⟨oT,oU,b8F⟩:=Kd.gJ sI.out;subst b8F;have Lt:tq.cell? ⟨dO,0,none⟩=some (.slice nt jB.length nu):=(ag cu.out 0).trans rfl;have Lu:tq.cell? ⟨dO,1,none⟩=some (.slice none 0 0):=(ag cu.out 1).trans rfl;have a7V:tq.cell? ⟨dO,2,none⟩=some (.slice none 0 0):=(ag cu.out 2).trans rfl;have a7W:tq.cell? ⟨dO,3,none⟩=some (.slice none 0 0):=(ag cu.out 3).trans rfl;have a7X:tq.cell? ⟨dO,4,none⟩=some (.int .i64 0):=(ag cu.out 4).trans rfl;have a7Y:tq.cell? ⟨dO,5,none⟩=some (.int .i64 0):=(ag cu.out 5).trans rfl;have Lv:=af cu.out 0;have Lx:=af cu.out 1;have a7Z:=af cu.out 2;have a8a:=af cu.out 3;have a8b:=af cu.out 4;have a8c:=af cu.out 5;have zJ:tq.cell? ⟨eH,0,none⟩=some (.slice iC eT.length iD):=(ag cF.out 0).trans rfl;have zK:tq.cell? ⟨eH,1,none⟩=some (.slice iM eU.length iN):=(ag cF.out 1).trans rfl;have a6G:tq.cell? ⟨eH,2,none⟩=some (.slice iX eV.length iY):=(ag cF.out 2).trans rfl;have hcz21_3:tq.cell? ⟨eH,3,none⟩=some (.slice jg eW.length jh):=(ag cF.out 3).trans rfl;have hcz21_4:tq.cell? ⟨eH,4,none⟩=some (.int .i64 gQ):=(ag cF.out 4).trans rfl;have hcz21_5:tq.cell? ⟨eH,5,none⟩=some (.int .i64 gS):=(ag cF.out 5).trans rfl;have zL:=af cF.out 0;have zM:=af cF.out 1;have a6H:=af cF.out 2;have hfz21_3:=af cF.out 3;have hfz21_4:=af cF.out 4;have hfz21_5:=af cF.out 5)|((with_reducible refine aV (f:=14) rfl ?_);refine bH (some 14) rfl rfl Try.func14 (by kernel_rfl) rfl #[.slice iX eV.length iY] rfl (by (try simp only [List.map_toArray,List.map_cons,List.map_nil]);first|done|rfl|(simp only [List.length_drop,List.length_take];rfl)) ?_;(with_reducible refine (ct.calls k _ _ eV kQ _ ?bO ?bP A4.out).mono ?_);(case bO=>exact Kd.bp Kl.out ay);(case bP=>exact Km.out);rintro e nh ⟨v343,rfl,gG,hb⟩;refine ⟨_,rfl,?_⟩;have aA:=Aside0.mk (Kd.jd (by (with_reducible repeat (first|apply Kd.bK|apply Kd.bL|apply Kd.bX));exact (Kd.ey (Kd.jU (p:=⟨dO,1,none⟩) (Kd.pY qy.out cu.out (by decide)) (fun _ hk=>hk.2) (.slice oT jH.length oU)) (fun _ h_=>h_.1))) (Kd.jc gG) hb);have aC:=Aside0.mk (Kd.sJ (by (with_reducible repeat (first|apply Kd.ck|apply Kd.cn|apply Kd.cK));exact (Kd.dh (Kd.fD (p:=⟨dO,1,none⟩) (Kd.jJ sI.out cu.out (by decide)) (fun _ hk=>hk.2) (.slice oT jH.length oU)) (fun _ h_=>h_.1))) (Kd.jc gG) hb);have aD:=Aside0.mk (Kd.ie (Kd.zu gG (Kd.Kr (by (with_reducible repeat (first|apply Kd.ck|apply Kd.cn|apply Kd.cK));exact (Kd.dh (Kd.fD (p:=⟨dO,1,none⟩) (Kd.jJ sI.out cu.out (by decide)) (fun _ hk=>hk.2) (.slice oT jH.length oU)) (fun _ h_=>h_.1))))) (ax ay));have aK:=Aside0.mk (aj (g:=eH) (o:= .cells #[.slice iC eT.length iD,.slice iM eU.length iN,.slice iX eV.length iY,.slice jg eW.length jh,.int .i64 gQ,.int .i64 gS] 28 (0,0)) (by (with_reducible repeat (first|refine aq ?_ _|refine ak ?_|refine ai ?_ _));refine bM ?_ wC.out _;(with_reducible repeat (first|refine aq ?_ _|refine ak ?_|refine ai ?_ _));exact cF.out) hb);have bF:=Aside0.mk (aj (g:=eP) (o:= .cells #[.slice none 0 0,.slice none 0 0,.slice none 0 0,.slice none 0 0,.int .i64 0,.int .i64 0] 36 (0,0)) (by (with_reducible repeat (first|refine aq ?_ _|refine ak ?_|refine ai ?_ _));refine bM ?_ qZ.out _;(with_reducible repeat (first|refine aq ?_ _|refine ak ?_|refine ai ?_ _));exact fX.out) hb);have bS:=Aside0.mk (aj (g:=dO) (o:= .cells #[.slice nt jB.length nu,.slice oT jH.length oU,.slice none 0 0,.slice none 0 0,.int .i64 0,.int .i64 0] 36 (0,0)) (by (with_reducible repeat (first|refine aq ?_ _|refine ak ?_|refine ai ?_ _));refine bh (cs:= #[.slice nt jB.length nu,.slice none 0 0,.slice none 0 0,.slice none 0 0,.int .i64 0,.int .i64 0]) ?_ 1 _ rfl;(with_reducible repeat (first|refine aq ?_ _|refine ak ?_|refine ai ?_ _));exact cu.out) hb);have bY:=Aside0.mk (ah ay hb);clear qy;clear sI;clear cF;clear fX;clear cu;clear HB;have qy:=aA;have sI:=aC;have yV:=aD;have cF:=aK;have fX:=bF;have cu:=bS;have HB:=bY;clear aA aC aD aK bF bS bY;(try clear hb);(try clear hb2);(try clear hk);(try clear hi);(try clear gG);obtain ⟨rQ,rR,b8G⟩:=Kd.gJ yV.out;subst b8G;have a7M:nh.cell? ⟨dO,0,none⟩=some (.slice nt jB.length nu):=(ag cu.out 0).trans rfl;have a7N:nh.cell? ⟨dO,1,none⟩=some (.slice oT jH.length oU):=(ag cu.out 1).trans rfl;have hcz24_2:nh.cell? ⟨dO,2,none⟩=some (.slice none 0 0):=(ag cu.out 2).trans rfl;have hcz24_3:nh.cell? ⟨dO,3,none⟩=some (.slice none 0 0):=(ag cu.out 3).trans rfl;have hcz24_4:nh.cell? ⟨dO,4,none⟩=some (.int .i64 0):=(ag cu.out 4).trans rfl;have hcz24_5:nh.cell? ⟨dO,5,none⟩=some (.int .i64 0):=(ag cu.out 5).trans rfl;have a7O:=af cu.out 0;have a7P:=af cu.out 1;have hfz24_2:=af cu.out 2;have hfz24_3:=af cu.out 3;have hfz24_4:=af cu.out 4;have hfz24_5:=af cu.out 5;have Eh:nh.cell? ⟨eH,0,none⟩=some (.slice iC eT.length iD):=(ag cF.out 0).trans rfl;have Ei:nh.cell? ⟨eH,1,none⟩=some (.slice iM eU.length iN):=(ag cF.out 1).trans rfl;have hcz25_2:nh.cell? ⟨eH,2,none⟩=some (.slice iX eV.length iY):=(ag cF.out 2).trans rfl;have hcz25_3:nh.cell? ⟨eH,3,none⟩=some (.slice jg eW.length jh):=(ag cF.out 3).trans rfl;have hcz25_4:nh.cell? ⟨eH,4,none⟩=some (.int .i64 gQ):=(ag cF.out 4).trans rfl;have hcz25_5:nh.cell? ⟨eH,5,none⟩=some (.int .i64 gS):=(ag cF.out 5).trans rfl;have Ej:=af cF.out 0;have Ek:=af cF.out 1;have hfz25_2:=af cF.out 2;have hfz25_3:=af cF.out 3;have hfz25_4:=af cF.out 4;have hfz25_5:=af cF.out 5)|((with_reducible refine aV (f:=29) rfl ?_);refine bH (some 18) rfl rfl Try.func29 (by kernel_rfl) rfl #[.slice jg eW.length jh] rfl (by (try simp only [List.map_toArray,List.map_cons,List.map_nil]);first|done|rfl|(simp only [List.length_drop,List.length_take];rfl)) ?_;(with_reducible refine (cQ.calls k _ _ eW lN _ ?bO ?bP A5.out).mono ?_);(case bO=>exact Kd.bp OZ.out ay);(case bP=>exact Pa.out);rintro e wh ⟨v346,rfl,gG,hb⟩;refine ⟨_,rfl,?_⟩;have aA:=Aside0.mk (Kd.ny (by (with_reducible repeat (first|apply Kd.bK|apply Kd.bL|apply Kd.bX));exact (Kd.ey (Kd.jU (p:=⟨dO,2,none⟩) (Kd.pY qy.out cu.out (by decide)) (fun _ hk=>hk.2) (.slice rQ kQ.length rR)) (fun _ h_=>h_.1))) hb);have aC:=Aside0.mk (Kd.ig (by (with_reducible repeat (first|apply Kd.ck|apply Kd.cn|apply Kd.cK));exact (Kd.dh (Kd.fD (p:=⟨dO,2,none⟩) (Kd.jJ sI.out cu.out (by decide)) (fun _ hk=>hk.2) (.slice rQ kQ.length rR)) (fun _ h_=>h_.1))) hb);have aD:=Aside0.mk (Kd.ig (by (with_reducible repeat (first|apply Kd.ck|apply Kd.cn|apply Kd.cK));exact (Kd.dh (Kd.fD (p:=⟨dO,2,none⟩) (Kd.jJ yV.out cu.out (by decide)) (fun _ hk=>hk.2) (.slice rQ kQ.length rR)) (fun _ h_=>h_.1))) hb);have aK:=Aside0.mk (Kd.ie gG (ax ay));have bF:=Aside0.mk (aj (g:=eH) (o:= .cells #[.slice iC eT.length iD,.slice iM eU.length iN,.slice iX eV.length iY,.slice jg eW.length jh,.int .i64 gQ,.int .i64 gS] 28 (0,0)) (by (with_reducible repeat (first|refine aq ?_ _|refine ak ?_|refine ai ?_ _));refine bM ?_ wC.out _;(with_reducible repeat (first|refine aq ?_ _|refine ak ?_|refine ai ?_ _));exact cF.out) hb);have bS:=Aside0.mk (aj (g:=eP) (o:= .cells #[.slice none 0 0,.slice none 0 0,.slice none 0 0,.slice none 0 0,.int .i64 0,.int .i64 0] 36 (0,0)) (by (with_reducible repeat (first|refine aq ?_ _|refine ak ?_|refine ai ?_ _));refine bM ?_ qZ.out _;(with_reducible repeat (first|refine aq ?_ _|refine ak ?_|refine ai ?_ _));exact fX.out) hb);have bY:=Aside0.mk (aj (g:=dO) (o:= .cells #[.slice nt jB.length nu,.slice oT jH.length oU,.slice rQ kQ.length rR,.slice none 0 0,.int .i64 0,.int .i64 0] 36 (0,0)) (by (with_reducible repeat (first|refine aq ?_ _|refine ak ?_|refine ai ?_ _));refine bh (cs:= #[.slice nt jB.length nu,.slice oT jH.length oU,.slice none 0 0,.slice none 0 0,.int .i64 0,.int .i64 0]) ?_ 2 _ rfl;(with_reducible repeat (first|refine aq ?_ _|refine ak ?_|refine ai ?_ _));exact cu.out) hb);have eX:=Aside0.mk (ah ay hb);clear qy;clear sI;clear yV;clear cF;clear fX;clear cu;clear HB;have qy:=aA;have sI:=aC;have yV:=aD;have Kn:=aK;have cF:=bF;have fX:=bS;have cu:=bY;have HB:=eX;clear aA aC aD aK bF bS bY eX;(try clear hb);(try clear hb2);(try clear hk);(try clear hi);(try clear gG);obtain ⟨tW,tX,a3z⟩:=Kd.gJ Kn.out;subst a3z;have zF:wh.cell? ⟨dO,0,none⟩=some (.slice nt jB.length nu):=(ag cu.out 0).trans rfl;have zG:wh.cell? ⟨dO,1,none⟩=some (.slice oT jH.length oU):=(ag cu.out 1).trans rfl;have hcz28_2:wh.cell? ⟨dO,2,none⟩=some (.slice rQ kQ.length rR):=(ag cu.out 2).trans rfl;have hcz28_3:wh.cell? ⟨dO,3,none⟩=some (.slice none 0 0):=(ag cu.out 3).trans rfl;have hcz28_4:wh.cell? ⟨dO,4,none⟩=some (.int .i64 0):=(ag cu.out 4).trans rfl;have hcz28_5:wh.cell? ⟨dO,5,none⟩=some (.int .i64 0):=(ag cu.out 5).trans rfl;have zH:=af cu.out 0;have zI:=af cu.out 1;have hfz28_2:=af cu.out 2;have hfz28_3:=af cu.out 3;have hfz28_4:=af cu.out 4;have hfz28_5:=af cu.out 5;have LD:wh.cell? ⟨eH,0,none⟩=some (.slice iC eT.length iD):=(ag cF.out 0).trans rfl;have LF:wh.cell? ⟨eH,1,none⟩=some (.slice iM eU.length iN):=(ag cF.out 1).trans rfl;have hcz29_2:wh.cell? ⟨eH,2,none⟩=some (.slice iX eV.length iY):=(ag cF.out 2).trans rfl;have hcz29_3:wh.cell? ⟨eH,3,none⟩=some (.slice jg eW.length jh):=(ag cF.out 3).trans rfl;have hcz29_4:wh.cell? ⟨eH,4,none⟩=some (.int .i64 gQ):=(ag cF.out 4).trans rfl;have hcz29_5:wh.cell? ⟨eH,5,none⟩=some (.int .i64 gS):=(ag cF.out 5).trans rfl;have LG:=af cF.out 0;have LH:=af cF.out 1;have hfz29_2:=af cF.out 2;have hfz29_3:=af cF.out 3;have hfz29_4:=af cF.out 4;have hfz29_5:=af cF.out 5)|((with_reducible refine aV (f:=30) rfl ?_);refine bH (some 22) rfl rfl Try.func30 (by kernel_rfl) rfl #[.agg #[.int .i64 gQ,.int .i64 gS]] rfl (by (try simp only [List.map_toArray,List.map_cons,List.map_nil]);first|done|rfl|(simp only [List.length_drop,List.length_take];rfl)) ?_;(with_reducible refine (jF.calls gQ gS wN yl _ A6.out).mono ?_);rintro e yM ⟨rfl,hb⟩;refine ⟨_,rfl,?_⟩;have aA:=Aside0.mk (Kd.ny (by (with_reducible repeat (first|apply Kd.bK|apply Kd.bL|apply Kd.bX));exact (Kd.ey (Kd.jU (p:=⟨dO,3,none⟩) (Kd.pY qy.out cu.out (by decide)) (fun _ hk=>hk.2) (.slice tW lN.length tX)) (fun _ h_=>h_.1))) hb);have aC:=Aside0.mk (Kd.ig (by (with_reducible repeat (first|apply Kd.ck|apply Kd.cn|apply Kd.cK));exact (Kd.dh (Kd.fD (p:=⟨dO,3,none⟩) (Kd.jJ sI.out cu.out (by decide)) (fun _ hk=>hk.2) (.slice tW lN.length tX)) (fun _ h_=>h_.1))) hb);have aD:=Aside0.mk (Kd.ig (by (with_reducible repeat (first|apply Kd.ck|apply Kd.cn|apply Kd.cK));exact (Kd.dh (Kd.fD (p:=⟨dO,3,none⟩) (Kd.jJ yV.out cu.out (by decide)) (fun _ hk=>hk.2) (.slice tW lN.length tX)) (fun _ h_=>h_.1))) hb);have aK:=Aside0.mk (Kd.ig (by (with_reducible repeat (first|apply Kd.ck|apply Kd.cn|apply Kd.cK));exact (Kd.dh (Kd.fD (p:=⟨dO,3,none⟩) (Kd.jJ Kn.out cu.out (by decide)) (fun _ hk=>hk.2) (.slice tW lN.length tX)) (fun _ h_=>h_.1))) hb);have bF:=Aside0.mk (aj (g:=eH) (o:= .cells #[.slice iC eT.length iD,.slice iM eU.length iN,.slice iX eV.length iY,.slice jg eW.length jh,.int .i64 gQ,.int .i64 gS] 28 (0,0)) (by (with_reducible repeat (first|refine aq ?_ _|refine ak ?_|refine ai ?_ _));refine bM ?_ wC.out _;(with_reducible repeat (first|refine aq ?_ _|refine ak ?_|refine ai ?_ _));exact cF.out) hb);have bS:=Aside0.mk (aj (g:=eP) (o:= .cells #[.slice none 0 0,.slice none 0 0,.slice none 0 0,.slice none 0 0,.int .i64 0,.int .i64 0] 36 (0,0)) (by (with_reducible repeat (first|refine aq ?_ _|refine ak ?_|refine ai ?_ _));refine bM ?_ qZ.out _;(with_reducible repeat (first|refine aq ?_ _|refine ak ?_|refine ai ?_ _));exact fX.out) hb);have bY:=Aside0.mk (aj (g:=dO) (o:= .cells #[.slice nt jB.length nu,.slice oT jH.length oU,.slice rQ kQ.length rR,.slice tW lN.length tX,.int .i64 0,.int .i64 0] 36 (0,0)) (by (with_reducible repeat (first|refine aq ?_ _|refine ak ?_|refine ai ?_ _));refine bh (cs:= #[.slice nt jB.length nu,.slice oT jH.length oU,.slice rQ kQ.length rR,.slice none 0 0,.int .i64 0,.int .i64 0]) ?_ 3 _ rfl;(with_reducible repeat (first|refine aq ?_ _|refine ak ?_|refine ai ?_ _));exact cu.out) hb);have eX:=Aside0.mk (ah ay hb);clear qy;clear sI;clear yV;clear Kn;clear cF;clear fX;clear cu;clear HB;have qy:=aA;have sI:=aC;have yV:=aD;have Kn:=aK;have cF:=bF;have fX:=bS;have cu:=bY;have HB:=eX;clear aA aC aD aK bF bS bY eX;(try clear hb);(try clear hb2);(try clear hk);(try clear hi);have a6I:yM.cell? ⟨dO,0,none⟩=some (.slice nt jB.length nu):=(ag cu.out 0).trans rfl;have a6J:yM.cell? ⟨dO,1,none⟩=some (.slice oT jH.length oU):=(ag cu.out 1).trans rfl;have a6K:yM.cell? ⟨dO,2,none⟩=some (.slice rQ kQ.length rR):=(ag cu.out 2).trans rfl;have hcz31_3:yM.cell? ⟨dO,3,none⟩=some (.slice tW lN.length tX):=(ag cu.out 3).trans rfl;have hcz31_4:yM.cell? ⟨dO,4,none⟩=some (.int .i64 0):=(ag cu.out 4).trans rfl;have hcz31_5:yM.cell? ⟨dO,5,none⟩=some (.int .i64 0):=(ag cu.out 5).trans rfl;have a6L:=af cu.out 0;have a6M:=af cu.out 1;have a6N:=af cu.out 2;have hfz31_3:=af cu.out 3;have hfz31_4:=af cu.out 4;have hfz31_5:=af cu.out 5;have TP:yM.cell? ⟨eP,0,none⟩=some (.slice none 0 0):=(ag fX.out 0).trans rfl;have TQ:yM.cell? ⟨eP,1,none⟩=some (.slice none 0 0):=(ag fX.out 1).trans rfl;have hcz32_2:yM.cell? ⟨eP,2,none⟩=some (.slice none 0 0):=(ag fX.out 2).trans rfl;have hcz32_3:yM.cell? ⟨eP,3,none⟩=some (.slice none 0 0):=(ag fX.out 3).trans rfl;have hcz32_4:yM.cell? ⟨eP,4,none⟩=some (.int .i64 0):=(ag fX.out 4).trans rfl;have hcz32_5:yM.cell? ⟨eP,5,none⟩=some (.int .i64 0):=(ag fX.out 5).trans rfl;have TR:=af fX.out 0;have TS:=af fX.out 1;have hfz32_2:=af fX.out 2;have hfz32_3:=af fX.out 3;have hfz32_4:=af fX.out 4;have hfz32_5:=af fX.out 5))
 refine bodyPost_ret (results_cell_row rfl _ _ eP 36 #[.slice nt jB.length nu,.slice oT jH.length oU,.slice rQ kQ.length rR,.slice tW lN.length tX,.int .i64 wN,.int .i64 yl] (0,0) _ rfl (by (with_reducible repeat (first|refine aq ?_ _|refine ak ?_|refine ai ?_ _));refine bh (cs:= #[.slice nt jB.length nu,.slice oT jH.length oU,.slice rQ kQ.length rR,.slice tW lN.length tX,.int .i64 wN,.int .i64 0]) ?_ 5 _ rfl;(with_reducible repeat (first|refine aq ?_ _|refine ak ?_|refine ai ?_ _));refine bh (cs:= #[.slice nt jB.length nu,.slice oT jH.length oU,.slice rQ kQ.length rR,.slice tW lN.length tX,.int .i64 0,.int .i64 0]) ?_ 4 _ rfl;(with_reducible repeat (first|refine aq ?_ _|refine ak ?_|refine ai ?_ _));refine bh (cs:= #[.slice nt jB.length nu,.slice oT jH.length oU,.slice rQ kQ.length rR,.slice none 0 0,.int .i64 0,.int .i64 0]) ?_ 3 _ rfl;(with_reducible repeat (first|refine aq ?_ _|refine ak ?_|refine ai ?_ _));refine bh (cs:= #[.slice nt jB.length nu,.slice oT jH.length oU,.slice none 0 0,.slice none 0 0,.int .i64 0,.int .i64 0]) ?_ 2 _ rfl;(with_reducible repeat (first|refine aq ?_ _|refine ak ?_|refine ai ?_ _));refine bh (cs:= #[.slice nt jB.length nu,.slice none 0 0,.slice none 0 0,.slice none 0 0,.int .i64 0,.int .i64 0]) ?_ 1 _ rfl;(with_reducible repeat (first|refine aq ?_ _|refine ak ?_|refine ai ?_ _));refine bh (cs:= #[.slice none 0 0,.slice none 0 0,.slice none 0 0,.slice none 0 0,.int .i64 0,.int .i64 0]) ?_ 0 _ rfl;(with_reducible repeat (first|refine aq ?_ _|refine ak ?_|refine ai ?_ _));refine bM ?_ qZ.out _;(with_reducible repeat (first|refine aq ?_ _|refine ak ?_|refine ai ?_ _));refine bM ?_ qZ.out _;(with_reducible repeat (first|refine aq ?_ _|refine ak ?_|refine ai ?_ _));exact fX.out) Try.underlying36 rfl (by kernel_rfl)) rfl ?_
 exact ⟨_,_,_,_,by first|rfl|(simp [aX,aY]<;>rfl)|(simp [*,aX,aY]<;>rfl),by (with_reducible repeat (first|apply Kd.bK|apply Kd.bL|apply Kd.bX));exact Kd.ey (Kd.jU (p:=⟨eP,5,none⟩) (Kd.jU (p:=⟨eP,4,none⟩) (Kd.jU (p:=⟨eP,3,none⟩) (Kd.jU (p:=⟨eP,2,none⟩) (Kd.jU (p:=⟨eP,1,none⟩) (Kd.jU (p:=⟨eP,0,none⟩) (Kd.jU (p:=⟨dO,5,none⟩) (Kd.jU (p:=⟨dO,4,none⟩) (Kd.pY (Kd.pY qy.out cu.out (by decide)) fX.out (by decide)) (fun _ hk=>hk.1.2) (.int .i64 wN)) (fun _ hk=>hk.1.2) (.int .i64 yl)) (fun _ hk=>hk.2) (.slice nt jB.length nu)) (fun _ hk=>hk.2) (.slice oT jH.length oU)) (fun _ hk=>hk.2) (.slice rQ kQ.length rR)) (fun _ hk=>hk.2) (.slice tW lN.length tX)) (fun _ hk=>hk.2) (.int .i64 wN)) (fun _ hk=>hk.2) (.int .i64 yl)) (fun _ hk=>⟨hk.1.1.1.2,hk.1.1.2⟩),by (with_reducible repeat (first|apply Kd.ck|apply Kd.cn|apply Kd.cK));exact Kd.dh (Kd.fD (p:=⟨eP,5,none⟩) (Kd.fD (p:=⟨eP,4,none⟩) (Kd.fD (p:=⟨eP,3,none⟩) (Kd.fD (p:=⟨eP,2,none⟩) (Kd.fD (p:=⟨eP,1,none⟩) (Kd.fD (p:=⟨eP,0,none⟩) (Kd.fD (p:=⟨dO,5,none⟩) (Kd.fD (p:=⟨dO,4,none⟩) (Kd.jJ (Kd.jJ sI.out cu.out (by decide)) fX.out (by decide)) (fun _ hk=>hk.1.2) (.int .i64 wN)) (fun _ hk=>hk.1.2) (.int .i64 yl)) (fun _ hk=>hk.2) (.slice nt jB.length nu)) (fun _ hk=>hk.2) (.slice oT jH.length oU)) (fun _ hk=>hk.2) (.slice rQ kQ.length rR)) (fun _ hk=>hk.2) (.slice tW lN.length tX)) (fun _ hk=>hk.2) (.int .i64 wN)) (fun _ hk=>hk.2) (.int .i64 yl)) (fun _ hk=>hk.1.1.2),by (with_reducible repeat (first|apply Kd.ck|apply Kd.cn|apply Kd.cK));exact Kd.dh (Kd.fD (p:=⟨eP,5,none⟩) (Kd.fD (p:=⟨eP,4,none⟩) (Kd.fD (p:=⟨eP,3,none⟩) (Kd.fD (p:=⟨eP,2,none⟩) (Kd.fD (p:=⟨eP,1,none⟩) (Kd.fD (p:=⟨eP,0,none⟩) (Kd.fD (p:=⟨dO,5,none⟩) (Kd.fD (p:=⟨dO,4,none⟩) (Kd.jJ (Kd.jJ yV.out cu.out (by decide)) fX.out (by decide)) (fun _ hk=>hk.1.2) (.int .i64 wN)) (fun _ hk=>hk.1.2) (.int .i64 yl)) (fun _ hk=>hk.2) (.slice nt jB.length nu)) (fun _ hk=>hk.2) (.slice oT jH.length oU)) (fun _ hk=>hk.2) (.slice rQ kQ.length rR)) (fun _ hk=>hk.2) (.slice tW lN.length tX)) (fun _ hk=>hk.2) (.int .i64 wN)) (fun _ hk=>hk.2) (.int .i64 yl)) (fun _ hk=>hk.1.1.2),by (with_reducible repeat (first|apply Kd.ck|apply Kd.cn|apply Kd.cK));exact Kd.dh (Kd.fD (p:=⟨eP,5,none⟩) (Kd.fD (p:=⟨eP,4,none⟩) (Kd.fD (p:=⟨eP,3,none⟩) (Kd.fD (p:=⟨eP,2,none⟩) (Kd.fD (p:=⟨eP,1,none⟩) (Kd.fD (p:=⟨eP,0,none⟩) (Kd.fD (p:=⟨dO,5,none⟩) (Kd.fD (p:=⟨dO,4,none⟩) (Kd.jJ (Kd.jJ Kn.out cu.out (by decide)) fX.out (by decide)) (fun _ hk=>hk.1.2) (.int .i64 wN)) (fun _ hk=>hk.1.2) (.int .i64 yl)) (fun _ hk=>hk.2) (.slice nt jB.length nu)) (fun _ hk=>hk.2) (.slice oT jH.length oU)) (fun _ hk=>hk.2) (.slice rQ kQ.length rR)) (fun _ hk=>hk.2) (.slice tW lN.length tX)) (fun _ hk=>hk.2) (.int .i64 wN)) (fun _ hk=>hk.2) (.int .i64 yl)) (fun _ hk=>trivial),ay⟩
def jC.f (l0:List (rS)) (a1:Int):Option (Int):=if (wrap64 (a1 -(l0.length:Int)))<0 then (some (-1)) else (some (wrap64 (a1 -(l0.length:Int))))
set_option maxHeartbeats 8000000 in
set_option maxRecDepth 100000 in
theorem jC.calls (A0:Option Addr) (c0:Nat) (l0:List (rS)) (a1:Int) (r:Int) (w:World) (fl:Kd.C BG w A0 l0.length l0) (hc0:l0.length<=c0) (h:jC.f l0 a1=some r):
 Calls Try.prog 22 #[.slice A0 l0.length c0,.int .i64 a1] w fun e w'=>e= .returned (.int .i64 r)/\aW w w':=by
 have eu:=Aside0.mk fl
 have kr:=Aside0.mk hc0
 clear fl hc0
 have H:(if (wrap64 (a1 -(l0.length:Int)))<0 then (some (-1)) else (some (wrap64 (a1 -(l0.length:Int)))))=some r:=h
 clear h
 by_cases c3:(wrap64 (a1 -(l0.length:Int)))<0
 ·rw [if_pos c3] at H
  have iw:decide ((wrap64 (a1 -(l0.length:Int)))<0)=true:=decide_eq_true c3
  clear c3
  obtain rfl:=Option.some.inj H
  go_enter Try.func22,Try.ntmps22
  go_wp2
  go_ret
  exact ⟨by first|rfl|(simp;done)|(simp [*];done),by repeat (first|exact aW.refl _|apply aW.step)⟩
 ·rw [if_neg c3] at H
  have iw:decide ((wrap64 (a1 -(l0.length:Int)))<0)=false:=decide_eq_false c3
  clear c3
  obtain rfl:=Option.some.inj H
  go_enter Try.func22,Try.ntmps22
  go_wp2
  go_ret
  exact ⟨by first|rfl|(simp;done)|(simp [*];done),by repeat (first|exact aW.refl _|apply aW.step)⟩
def lq.f (k:Nat) (eT:List (List Int)) (eU:List Int) (eV:List Int) (eW:List (rS)) (gQ:Int) (gS:Int) (a1:Int):Option (Int):=(cD.f k eT a1).bind fun t104=>(if t104<0 then (some (-1)) else ((en.f eU t104).bind fun t105=>(if t105<0 then (some (-1)) else ((en.f eV t105).bind fun t106=>(if t106<0 then (some (-1)) else ((jC.f eW t106).bind fun t107=>(if t107<0 then (some (-1)) else (some t107))))))))
theorem lq.mono:∀a0 a1 a2 a3 a4 a5 a6 k,aR (lq.f k a0 a1 a2 a3 a4 a5 a6) (lq.f (k+1) a0 a1 a2 a3 a4 a5 a6):=by
 intro a0 a1 a2 a3 a4 a5 a6 k
 unfold lq.f
 repeat' first
  |(with_reducible exact cD.mono _ _ _)
  |(with_reducible exact aR.refl _)
  |(with_reducible exact aR.none _)
  |(with_reducible refine aR.ite ?_ ?_)
  |(with_reducible refine aR.bind ?_ (fun _=>?_))
set_option maxHeartbeats 8000000 in
set_option maxRecDepth 100000 in
theorem lq.calls (k:Nat) (iC:Option Addr) (iD:Nat) (eT:List (List Int)) (iM:Option Addr) (iN:Nat) (eU:List Int) (iX:Option Addr) (iY:Nat) (eV:List Int) (jg:Option Addr) (jh:Nat) (eW:List (rS)) (gQ:Int) (gS:Int) (a1:Int) (r:Int) (w:World) (Kb:Kd.C (Kd.slice 3 (Kd.int .i64)) w iC eT.length eT) (Ke:eT.length<=iD) (Kf:Kd.C (Kd.int .i64) w iM eU.length eU) (Kg:eU.length<=iN) (Kh:Kd.C (Kd.int .i64) w iX eV.length eV) (Ki:eV.length<=iY) (Kj:Kd.C BG w jg eW.length eW) (Kk:eW.length<=jh) (h:lq.f k eT eU eV eW gQ gS a1=some r):
 Calls Try.prog 6 #[.agg #[.slice iC eT.length iD,.slice iM eU.length iN,.slice iX eV.length iY,.slice jg eW.length jh,.int .i64 gQ,.int .i64 gS],.int .i64 a1] w fun e w'=>e= .returned (.int .i64 r)/\Below w.heap.size w w':=by
 have b8D:=Try.underlying28
 have BB:=Aside0.mk Kb
 have BC:=Aside0.mk Ke
 clear Kb Ke
 have EF:=Aside0.mk Kf
 have EG:=Aside0.mk Kg
 clear Kf Kg
 have Kl:=Aside0.mk Kh
 have Km:=Aside0.mk Ki
 clear Kh Ki
 have OZ:=Aside0.mk Kj
 have Pa:=Aside0.mk Kk
 clear Kj Kk
 have HB:=Aside0.mk (Below.refl w.heap.size w)
 have H:((cD.f k eT a1).bind fun t104=>(if t104<0 then (some (-1)) else ((en.f eU t104).bind fun t105=>(if t105<0 then (some (-1)) else ((en.f eV t105).bind fun t106=>(if t106<0 then (some (-1)) else ((jC.f eW t106).bind fun t107=>(if t107<0 then (some (-1)) else (some t107)))))))))=some r:=h
 clear h
 replace H:=Option.bind_eq_some_iff.mp H
 obtain ⟨t104,jx,H⟩:=H
 replace H:(if t104<0 then (some (-1)) else ((en.f eU t104).bind fun t105=>(if t105<0 then (some (-1)) else ((en.f eV t105).bind fun t106=>(if t106<0 then (some (-1)) else ((jC.f eW t106).bind fun t107=>(if t107<0 then (some (-1)) else (some t107))))))))=some r:=H
 have A3:=Aside0.mk jx
 clear jx
 by_cases c4:t104<0
 ·rw [if_pos c4] at H
  have mj:decide (t104<0)=true:=decide_eq_true c4
  clear c4
  obtain rfl:=Option.some.inj H
  go_enter Try.func6,Try.ntmps6
  go_wp2_with (first|((with_reducible refine bn (N:=2) rfl ?_);refine bq ?hg (N:=2) ?hd (cs:= #[.slice iC eT.length iD,.slice iM eU.length iN,.slice iX eV.length iY,.slice jg eW.length jh,.int .i64 gQ,.int .i64 gS]) (t:=28) ?hr ?_;(case hd=>rfl);(case hg=>rfl);(case hr=>first|(go_simp;done)|(go_simp;rfl));intro fe hg w5 aU hb;have aA:=Aside0.mk (ah ay hb);have aC:=Aside0.mk (aU);have aD:=Aside0.mk ((by rw [hg];exact (ax ay):w.heap.size<=fe));have aK:=Aside0.mk ((by rw [hg];exact (ax ay):w.heap.size<=fe));clear HB;have HB:=aA;have dA:=aC;have Pb:=aD;have Pc:=aK;clear aA aC aD aK;clear hb aU hg;have Qc:w5.cell? ⟨fe,0,none⟩=some (.slice iC eT.length iD):=(ag dA.out 0).trans rfl;have Qd:w5.cell? ⟨fe,1,none⟩=some (.slice iM eU.length iN):=(ag dA.out 1).trans rfl;have hcz6_2:w5.cell? ⟨fe,2,none⟩=some (.slice iX eV.length iY):=(ag dA.out 2).trans rfl;have hcz6_3:w5.cell? ⟨fe,3,none⟩=some (.slice jg eW.length jh):=(ag dA.out 3).trans rfl;have hcz6_4:w5.cell? ⟨fe,4,none⟩=some (.int .i64 gQ):=(ag dA.out 4).trans rfl;have hcz6_5:w5.cell? ⟨fe,5,none⟩=some (.int .i64 gS):=(ag dA.out 5).trans rfl;have Qe:=af dA.out 0;have Qf:=af dA.out 1;have hfz6_2:=af dA.out 2;have hfz6_3:=af dA.out 3;have hfz6_4:=af dA.out 4;have hfz6_5:=af dA.out 5)|((with_reducible refine aV (f:=5) rfl ?_);refine bH (some 8) rfl rfl Try.func5 (by kernel_rfl) rfl #[.slice iC eT.length iD,.int .i64 a1] rfl (by (try simp only [List.map_toArray,List.map_cons,List.map_nil]);first|done|rfl|(simp only [List.length_drop,List.length_take];rfl)) ?_;(with_reducible refine (cD.calls k _ _ eT a1 t104 _ ?bO ?bP A3.out).mono ?_);(case bO=>repeat (first|exact (Kd.bp BB.out HB.out)|(with_reducible refine Kd.bV ?_ _)|(with_reducible refine Kd.bW ?_ _)|(with_reducible refine Kd.cy ?_)));(case bP=>exact BC.out);rintro e w' ⟨rfl,⟨nd,rfl⟩⟩;refine ⟨_,rfl,?_⟩))
  go_ret
  exact ⟨by first|rfl|(simp [aX,aY]<;>rfl)|(simp [*,aX,aY]<;>rfl),ay⟩
 ·rw [if_neg c4] at H
  have mj:decide (t104<0)=false:=decide_eq_false c4
  clear c4
  replace H:=Option.bind_eq_some_iff.mp H
  obtain ⟨t105,CC,H⟩:=H
  replace H:(if t105<0 then (some (-1)) else ((en.f eV t105).bind fun t106=>(if t106<0 then (some (-1)) else ((jC.f eW t106).bind fun t107=>(if t107<0 then (some (-1)) else (some t107))))))=some r:=H
  have A7:=Aside0.mk CC
  clear CC
  by_cases c8:t105<0
  ·rw [if_pos c8] at H
   have qL:decide (t105<0)=true:=decide_eq_true c8
   clear c8
   obtain rfl:=Option.some.inj H
   go_enter Try.func6,Try.ntmps6
   go_wp2_with (first|((with_reducible refine bn (N:=2) rfl ?_);refine bq ?hg (N:=2) ?hd (cs:= #[.slice iC eT.length iD,.slice iM eU.length iN,.slice iX eV.length iY,.slice jg eW.length jh,.int .i64 gQ,.int .i64 gS]) (t:=28) ?hr ?_;(case hd=>rfl);(case hg=>rfl);(case hr=>first|(go_simp;done)|(go_simp;rfl));intro fe hg w9 aU hb;have aA:=Aside0.mk (ah ay hb);have aC:=Aside0.mk (aU);have aD:=Aside0.mk ((by rw [hg];exact (ax ay):w.heap.size<=fe));have aK:=Aside0.mk ((by rw [hg];exact (ax ay):w.heap.size<=fe));clear HB;have HB:=aA;have dA:=aC;have Pb:=aD;have Pc:=aK;clear aA aC aD aK;clear hb aU hg;have Lz:w9.cell? ⟨fe,0,none⟩=some (.slice iC eT.length iD):=(ag dA.out 0).trans rfl;have LA:w9.cell? ⟨fe,1,none⟩=some (.slice iM eU.length iN):=(ag dA.out 1).trans rfl;have hcz10_2:w9.cell? ⟨fe,2,none⟩=some (.slice iX eV.length iY):=(ag dA.out 2).trans rfl;have hcz10_3:w9.cell? ⟨fe,3,none⟩=some (.slice jg eW.length jh):=(ag dA.out 3).trans rfl;have hcz10_4:w9.cell? ⟨fe,4,none⟩=some (.int .i64 gQ):=(ag dA.out 4).trans rfl;have hcz10_5:w9.cell? ⟨fe,5,none⟩=some (.int .i64 gS):=(ag dA.out 5).trans rfl;have LB:=af dA.out 0;have LC:=af dA.out 1;have hfz10_2:=af dA.out 2;have hfz10_3:=af dA.out 3;have hfz10_4:=af dA.out 4;have hfz10_5:=af dA.out 5)|((with_reducible refine aV (f:=5) rfl ?_);refine bH (some 8) rfl rfl Try.func5 (by kernel_rfl) rfl #[.slice iC eT.length iD,.int .i64 a1] rfl (by (try simp only [List.map_toArray,List.map_cons,List.map_nil]);first|done|rfl|(simp only [List.length_drop,List.length_take];rfl)) ?_;(with_reducible refine (cD.calls k _ _ eT a1 t104 _ ?bO ?bP A3.out).mono ?_);(case bO=>repeat (first|exact (Kd.bp BB.out HB.out)|(with_reducible refine Kd.bV ?_ _)|(with_reducible refine Kd.bW ?_ _)|(with_reducible refine Kd.cy ?_)));(case bP=>exact BC.out);rintro e w' ⟨rfl,⟨nd,rfl⟩⟩;refine ⟨_,rfl,?_⟩)|((with_reducible refine aV (f:=21) rfl ?_);refine bH (some 14) rfl rfl Try.func21 (by kernel_rfl) rfl #[.slice iM eU.length iN,.int .i64 t104] rfl (by (try simp only [List.map_toArray,List.map_cons,List.map_nil]);first|done|rfl|(simp only [List.length_drop,List.length_take];rfl)) ?_;(with_reducible refine (en.calls _ _ eU t104 t105 _ ?bO ?bP A7.out).mono ?_);(case bO=>repeat (first|exact (Kd.bp EF.out ay)|(with_reducible refine Kd.bV ?_ _)|(with_reducible refine Kd.bW ?_ _)|(with_reducible refine Kd.cy ?_)));(case bP=>exact EG.out);rintro e w' ⟨rfl,⟨nd,rfl⟩⟩;refine ⟨_,rfl,?_⟩))
   go_ret
   exact ⟨by first|rfl|(simp [aX,aY]<;>rfl)|(simp [*,aX,aY]<;>rfl),ay⟩
  ·rw [if_neg c8] at H
   have qL:decide (t105<0)=false:=decide_eq_false c8
   clear c8
   replace H:=Option.bind_eq_some_iff.mp H
   obtain ⟨t106,Sn,H⟩:=H
   replace H:(if t106<0 then (some (-1)) else ((jC.f eW t106).bind fun t107=>(if t107<0 then (some (-1)) else (some t107))))=some r:=H
   have A11:=Aside0.mk Sn
   clear Sn
   by_cases c12:t106<0
   ·rw [if_pos c12] at H
    have yA:decide (t106<0)=true:=decide_eq_true c12
    clear c12
    obtain rfl:=Option.some.inj H
    go_enter Try.func6,Try.ntmps6
    go_wp2_with (first|((with_reducible refine bn (N:=2) rfl ?_);refine bq ?hg (N:=2) ?hd (cs:= #[.slice iC eT.length iD,.slice iM eU.length iN,.slice iX eV.length iY,.slice jg eW.length jh,.int .i64 gQ,.int .i64 gS]) (t:=28) ?hr ?_;(case hd=>rfl);(case hg=>rfl);(case hr=>first|(go_simp;done)|(go_simp;rfl));intro fe hg iZ aU hb;have aA:=Aside0.mk (ah ay hb);have aC:=Aside0.mk (aU);have aD:=Aside0.mk ((by rw [hg];exact (ax ay):w.heap.size<=fe));have aK:=Aside0.mk ((by rw [hg];exact (ax ay):w.heap.size<=fe));clear HB;have HB:=aA;have dA:=aC;have Pb:=aD;have Pc:=aK;clear aA aC aD aK;clear hb aU hg;have zW:iZ.cell? ⟨fe,0,none⟩=some (.slice iC eT.length iD):=(ag dA.out 0).trans rfl;have zX:iZ.cell? ⟨fe,1,none⟩=some (.slice iM eU.length iN):=(ag dA.out 1).trans rfl;have hcz14_2:iZ.cell? ⟨fe,2,none⟩=some (.slice iX eV.length iY):=(ag dA.out 2).trans rfl;have hcz14_3:iZ.cell? ⟨fe,3,none⟩=some (.slice jg eW.length jh):=(ag dA.out 3).trans rfl;have hcz14_4:iZ.cell? ⟨fe,4,none⟩=some (.int .i64 gQ):=(ag dA.out 4).trans rfl;have hcz14_5:iZ.cell? ⟨fe,5,none⟩=some (.int .i64 gS):=(ag dA.out 5).trans rfl;have zY:=af dA.out 0;have zZ:=af dA.out 1;have hfz14_2:=af dA.out 2;have hfz14_3:=af dA.out 3;have hfz14_4:=af dA.out 4;have hfz14_5:=af dA.out 5)|((with_reducible refine aV (f:=5) rfl ?_);refine bH (some 8) rfl rfl Try.func5 (by kernel_rfl) rfl #[.slice iC eT.length iD,.int .i64 a1] rfl (by (try simp only [List.map_toArray,List.map_cons,List.map_nil]);first|done|rfl|(simp only [List.length_drop,List.length_take];rfl)) ?_;(with_reducible refine (cD.calls k _ _ eT a1 t104 _ ?bO ?bP A3.out).mono ?_);(case bO=>repeat (first|exact (Kd.bp BB.out HB.out)|(with_reducible refine Kd.bV ?_ _)|(with_reducible refine Kd.bW ?_ _)|(with_reducible refine Kd.cy ?_)));(case bP=>exact BC.out);rintro e w' ⟨rfl,⟨nd,rfl⟩⟩;refine ⟨_,rfl,?_⟩)|((with_reducible refine aV (f:=21) rfl ?_);refine bH (some 14) rfl rfl Try.func21 (by kernel_rfl) rfl #[.slice iM eU.length iN,.int .i64 t104] rfl (by (try simp only [List.map_toArray,List.map_cons,List.map_nil]);first|done|rfl|(simp only [List.length_drop,List.length_take];rfl)) ?_;(with_reducible refine (en.calls _ _ eU t104 t105 _ ?bO ?bP A7.out).mono ?_);(case bO=>repeat (first|exact (Kd.bp EF.out ay)|(with_reducible refine Kd.bV ?_ _)|(with_reducible refine Kd.bW ?_ _)|(with_reducible refine Kd.cy ?_)));(case bP=>exact EG.out);rintro e w' ⟨rfl,⟨nd,rfl⟩⟩;refine ⟨_,rfl,?_⟩)|((with_reducible refine aV (f:=21) rfl ?_);refine bH (some 20) rfl rfl Try.func21 (by kernel_rfl) rfl #[.slice iX eV.length iY,.int .i64 t105] rfl (by (try simp only [List.map_toArray,List.map_cons,List.map_nil]);first|done|rfl|(simp only [List.length_drop,List.length_take];rfl)) ?_;(with_reducible refine (en.calls _ _ eV t105 t106 _ ?bO ?bP A11.out).mono ?_);(case bO=>repeat (first|exact (Kd.bp Kl.out ay)|(with_reducible refine Kd.bV ?_ _)|(with_reducible refine Kd.bW ?_ _)|(with_reducible refine Kd.cy ?_)));(case bP=>exact Km.out);rintro e w' ⟨rfl,⟨nd,rfl⟩⟩;refine ⟨_,rfl,?_⟩))
    go_ret
    exact ⟨by first|rfl|(simp [aX,aY]<;>rfl)|(simp [*,aX,aY]<;>rfl),ay⟩
   ·rw [if_neg c12] at H
    have yA:decide (t106<0)=false:=decide_eq_false c12
    clear c12
    replace H:=Option.bind_eq_some_iff.mp H
    obtain ⟨t107,b2a,H⟩:=H
    replace H:(if t107<0 then (some (-1)) else (some t107))=some r:=H
    have A15:=Aside0.mk b2a
    clear b2a
    by_cases c16:t107<0
    ·rw [if_pos c16] at H
     have JM:decide (t107<0)=true:=decide_eq_true c16
     clear c16
     obtain rfl:=Option.some.inj H
     go_enter Try.func6,Try.ntmps6
     go_wp2_with (first|((with_reducible refine bn (N:=2) rfl ?_);refine bq ?hg (N:=2) ?hd (cs:= #[.slice iC eT.length iD,.slice iM eU.length iN,.slice iX eV.length iY,.slice jg eW.length jh,.int .i64 gQ,.int .i64 gS]) (t:=28) ?hr ?_;(case hd=>rfl);(case hg=>rfl);(case hr=>first|(go_simp;done)|(go_simp;rfl));intro fe hg sX aU hb;have aA:=Aside0.mk (ah ay hb);have aC:=Aside0.mk (aU);have aD:=Aside0.mk ((by rw [hg];exact (ax ay):w.heap.size<=fe));have aK:=Aside0.mk ((by rw [hg];exact (ax ay):w.heap.size<=fe));clear HB;have HB:=aA;have dA:=aC;have Pb:=aD;have Pc:=aK;clear aA aC aD aK;clear hb aU hg;have DW:sX.cell? ⟨fe,0,none⟩=some (.slice iC eT.length iD):=(ag dA.out 0).trans rfl;have DX:sX.cell? ⟨fe,1,none⟩=some (.slice iM eU.length iN):=(ag dA.out 1).trans rfl;have hcz18_2:sX.cell? ⟨fe,2,none⟩=some (.slice iX eV.length iY):=(ag dA.out 2).trans rfl;have hcz18_3:sX.cell? ⟨fe,3,none⟩=some (.slice jg eW.length jh):=(ag dA.out 3).trans rfl;have hcz18_4:sX.cell? ⟨fe,4,none⟩=some (.int .i64 gQ):=(ag dA.out 4).trans rfl;have hcz18_5:sX.cell? ⟨fe,5,none⟩=some (.int .i64 gS):=(ag dA.out 5).trans rfl;have DY:=af dA.out 0;have DZ:=af dA.out 1;have hfz18_2:=af dA.out 2;have hfz18_3:=af dA.out 3;have hfz18_4:=af dA.out 4;have hfz18_5:=af dA.out 5)|((with_reducible refine aV (f:=5) rfl ?_);refine bH (some 8) rfl rfl Try.func5 (by kernel_rfl) rfl #[.slice iC eT.length iD,.int .i64 a1] rfl (by (try simp only [List.map_toArray,List.map_cons,List.map_nil]);first|done|rfl|(simp only [List.length_drop,List.length_take];rfl)) ?_;(with_reducible refine (cD.calls k _ _ eT a1 t104 _ ?bO ?bP A3.out).mono ?_);(case bO=>repeat (first|exact (Kd.bp BB.out HB.out)|(with_reducible refine Kd.bV ?_ _)|(with_reducible refine Kd.bW ?_ _)|(with_reducible refine Kd.cy ?_)));(case bP=>exact BC.out);rintro e w' ⟨rfl,⟨nd,rfl⟩⟩;refine ⟨_,rfl,?_⟩)|((with_reducible refine aV (f:=21) rfl ?_);refine bH (some 14) rfl rfl Try.func21 (by kernel_rfl) rfl #[.slice iM eU.length iN,.int .i64 t104] rfl (by (try simp only [List.map_toArray,List.map_cons,List.map_nil]);first|done|rfl|(simp only [List.length_drop,List.length_take];rfl)) ?_;(with_reducible refine (en.calls _ _ eU t104 t105 _ ?bO ?bP A7.out).mono ?_);(case bO=>repeat (first|exact (Kd.bp EF.out ay)|(with_reducible refine Kd.bV ?_ _)|(with_reducible refine Kd.bW ?_ _)|(with_reducible refine Kd.cy ?_)));(case bP=>exact EG.out);rintro e w' ⟨rfl,⟨nd,rfl⟩⟩;refine ⟨_,rfl,?_⟩)|((with_reducible refine aV (f:=21) rfl ?_);refine bH (some 20) rfl rfl Try.func21 (by kernel_rfl) rfl #[.slice iX eV.length iY,.int .i64 t105] rfl (by (try simp only [List.map_toArray,List.map_cons,List.map_nil]);first|done|rfl|(simp only [List.length_drop,List.length_take];rfl)) ?_;(with_reducible refine (en.calls _ _ eV t105 t106 _ ?bO ?bP A11.out).mono ?_);(case bO=>repeat (first|exact (Kd.bp Kl.out ay)|(with_reducible refine Kd.bV ?_ _)|(with_reducible refine Kd.bW ?_ _)|(with_reducible refine Kd.cy ?_)));(case bP=>exact Km.out);rintro e w' ⟨rfl,⟨nd,rfl⟩⟩;refine ⟨_,rfl,?_⟩)|((with_reducible refine aV (f:=22) rfl ?_);refine bH (some 26) rfl rfl Try.func22 (by kernel_rfl) rfl #[.slice jg eW.length jh,.int .i64 t106] rfl (by (try simp only [List.map_toArray,List.map_cons,List.map_nil]);first|done|rfl|(simp only [List.length_drop,List.length_take];rfl)) ?_;(with_reducible refine (jC.calls _ _ eW t106 t107 _ ?bO ?bP A15.out).mono ?_);(case bO=>repeat (first|exact (Kd.bp OZ.out ay)|(with_reducible refine Kd.bV ?_ _)|(with_reducible refine Kd.bW ?_ _)|(with_reducible refine Kd.cy ?_)));(case bP=>exact Pa.out);rintro e w' ⟨rfl,⟨nd,rfl⟩⟩;refine ⟨_,rfl,?_⟩))
     go_ret
     exact ⟨by first|rfl|(simp [aX,aY]<;>rfl)|(simp [*,aX,aY]<;>rfl),ay⟩
    ·rw [if_neg c16] at H
     have JM:decide (t107<0)=false:=decide_eq_false c16
     clear c16
     obtain rfl:=Option.some.inj H
     go_enter Try.func6,Try.ntmps6
     go_wp2_with (first|((with_reducible refine bn (N:=2) rfl ?_);refine bq ?hg (N:=2) ?hd (cs:= #[.slice iC eT.length iD,.slice iM eU.length iN,.slice iX eV.length iY,.slice jg eW.length jh,.int .i64 gQ,.int .i64 gS]) (t:=28) ?hr ?_;(case hd=>rfl);(case hg=>rfl);(case hr=>first|(go_simp;done)|(go_simp;rfl));intro fe hg BH aU hb;have aA:=Aside0.mk (ah ay hb);have aC:=Aside0.mk (aU);have aD:=Aside0.mk ((by rw [hg];exact (ax ay):w.heap.size<=fe));have aK:=Aside0.mk ((by rw [hg];exact (ax ay):w.heap.size<=fe));clear HB;have HB:=aA;have dA:=aC;have Pb:=aD;have Pc:=aK;clear aA aC aD aK;clear hb aU hg;have Lt:BH.cell? ⟨fe,0,none⟩=some (.slice iC eT.length iD):=(ag dA.out 0).trans rfl;have Lu:BH.cell? ⟨fe,1,none⟩=some (.slice iM eU.length iN):=(ag dA.out 1).trans rfl;have a7V:BH.cell? ⟨fe,2,none⟩=some (.slice iX eV.length iY):=(ag dA.out 2).trans rfl;have a7W:BH.cell? ⟨fe,3,none⟩=some (.slice jg eW.length jh):=(ag dA.out 3).trans rfl;have a7X:BH.cell? ⟨fe,4,none⟩=some (.int .i64 gQ):=(ag dA.out 4).trans rfl;have a7Y:BH.cell? ⟨fe,5,none⟩=some (.int .i64 gS):=(ag dA.out 5).trans rfl;have Lv:=af dA.out 0;have Lx:=af dA.out 1;have a7Z:=af dA.out 2;have a8a:=af dA.out 3;have a8b:=af dA.out 4;have a8c:=af dA.out 5)|((with_reducible refine aV (f:=5) rfl ?_);refine bH (some 8) rfl rfl Try.func5 (by kernel_rfl) rfl #[.slice iC eT.length iD,.int .i64 a1] rfl (by (try simp only [List.map_toArray,List.map_cons,List.map_nil]);first|done|rfl|(simp only [List.length_drop,List.length_take];rfl)) ?_;(with_reducible refine (cD.calls k _ _ eT a1 t104 _ ?bO ?bP A3.out).mono ?_);(case bO=>repeat (first|exact (Kd.bp BB.out HB.out)|(with_reducible refine Kd.bV ?_ _)|(with_reducible refine Kd.bW ?_ _)|(with_reducible refine Kd.cy ?_)));(case bP=>exact BC.out);rintro e w' ⟨rfl,⟨nd,rfl⟩⟩;refine ⟨_,rfl,?_⟩)|((with_reducible refine aV (f:=21) rfl ?_);refine bH (some 14) rfl rfl Try.func21 (by kernel_rfl) rfl #[.slice iM eU.length iN,.int .i64 t104] rfl (by (try simp only [List.map_toArray,List.map_cons,List.map_nil]);first|done|rfl|(simp only [List.length_drop,List.length_take];rfl)) ?_;(with_reducible refine (en.calls _ _ eU t104 t105 _ ?bO ?bP A7.out).mono ?_);(case bO=>repeat (first|exact (Kd.bp EF.out ay)|(with_reducible refine Kd.bV ?_ _)|(with_reducible refine Kd.bW ?_ _)|(with_reducible refine Kd.cy ?_)));(case bP=>exact EG.out);rintro e w' ⟨rfl,⟨nd,rfl⟩⟩;refine ⟨_,rfl,?_⟩)|((with_reducible refine aV (f:=21) rfl ?_);refine bH (some 20) rfl rfl Try.func21 (by kernel_rfl) rfl #[.slice iX eV.length iY,.int .i64 t105] rfl (by (try simp only [List.map_toArray,List.map_cons,List.map_nil]);first|done|rfl|(simp only [List.length_drop,List.length_take];rfl)) ?_;(with_reducible refine (en.calls _ _ eV t105 t106 _ ?bO ?bP A11.out).mono ?_);(case bO=>repeat (first|exact (Kd.bp Kl.out ay)|(with_reducible refine Kd.bV ?_ _)|(with_reducible refine Kd.bW ?_ _)|(with_reducible refine Kd.cy ?_)));(case bP=>exact Km.out);rintro e w' ⟨rfl,⟨nd,rfl⟩⟩;refine ⟨_,rfl,?_⟩)|((with_reducible refine aV (f:=22) rfl ?_);refine bH (some 26) rfl rfl Try.func22 (by kernel_rfl) rfl #[.slice jg eW.length jh,.int .i64 t106] rfl (by (try simp only [List.map_toArray,List.map_cons,List.map_nil]);first|done|rfl|(simp only [List.length_drop,List.length_take];rfl)) ?_;(with_reducible refine (jC.calls _ _ eW t106 t107 _ ?bO ?bP A15.out).mono ?_);(case bO=>repeat (first|exact (Kd.bp OZ.out ay)|(with_reducible refine Kd.bV ?_ _)|(with_reducible refine Kd.bW ?_ _)|(with_reducible refine Kd.cy ?_)));(case bP=>exact Pa.out);rintro e w' ⟨rfl,⟨nd,rfl⟩⟩;refine ⟨_,rfl,?_⟩))
     go_ret
     exact ⟨by first|rfl|(simp [aX,aY]<;>rfl)|(simp [*,aX,aY]<;>rfl),ay⟩
end Go.Proofs.Ytkckdphjhlbdcaa.P
namespace Go.Proofs.Ytkckdphjhlbdcaa.PT
open Go.RowKit Go.Proofs.Ytkckdphjhlbdcaa.P Go.Proofs.YtkckdphjhlbdcaaW.PrintWords Go.Proofs.YtkckdphjhlbdcaaW.PrintLast Go.Proofs.Ytkckdphjhlbdcaa.EvKit
set_option linter.all false
abbrev Cc:=List rS
def Vx (l:Cc):tQ:=l.map (fun x=>⟨x.f0,x.f1⟩)
theorem a8d (l:Cc):(Vx l).length=l.length:=by unfold Vx;simp
theorem toRatS_ev (l:Cc) (hl:l.length<=17592186044416):Ev (fun k=>cQ.f k l) (Vx l):=by
 unfold cQ.f
 refine Ev.pos (by omega) (Ev.pos (by omega) ?_)
 rw [Int.toNat_natCast]
 refine Ev.b6I l (fun x=>(⟨x.f0,x.f1⟩:dm)) z34 (g:=fun k acc i=>cQ.l0 k l acc (i:Int)) (fun acc _=>Ev.succ (by simp only [cQ.l0];exact Ev.neg (by omega) (Ev.now _))) (fun i hi acc R ha ih=>Ev.succ ?_)
 have e:tD l (i:Int)=l[i]:=by
  show l.getD (i:Int).toNat _=_
  rw [Int.toNat_natCast];simp [List.getD_eq_getElem?_getD,hi]
 simp only [cQ.l0,jF.f,Option.bind_some,e,Int.toNat_natCast,dQ (show i<=9223372036854775806 by omega)]
 exact Ev.pos (by omega) (Ev.pos (by omega) (Ev.pos (by omega) ih))
theorem Ko (a b:Int):nY.f a b a b=some true:=by
 unfold nY.f;rw [if_pos rfl,if_pos rfl]
theorem Tm (l:tQ) (hl:l.length<=1048576):Ev (fun k=>cA.f k l l) true:=by
 unfold cA.f
 refine Ev.pos rfl ?_
 have:=Ev.loop (g:=fun k i=>cA.l0 k l l (i:Int)) (n:=l.length) (R:=fun _=>true) ?_ ?_ 0 (Nat.zero_le _)
 ·exact this
 ·refine Ev.succ ?_
  simp only [cA.l0]
  exact Ev.neg (by omega) (Ev.now _)
 ·intro i hi ih
  refine Ev.succ ?_
  simp only [cA.l0,dQ (show i<=9223372036854775806 by omega),Ko,Option.bind_some]
  exact Ev.pos (by omega) (Ev.pos (by omega) (Ev.pos (by omega) (Ev.pos (by trivial) ih)))
def kW (l:Nat) (a:Int):Int:=if a - l<0 then -1 else a - l
theorem DJ {l:Nat} {a:Int} (h:0<=kW l a):(l:Int)<=a/\kW l a<=a:=by
 unfold kW at h⊢
 by_cases c:a - l<0
 ·rw [if_pos c] at h;omega
 ·rw [if_neg c];omega
theorem a3L (l:Cc) (a:Int) (hl:l.length<=9223372036854775807) (h1: -1<=a) (h2:a<=1048576):jC.f l a=some (kW l.length a):=by
 unfold jC.f kW
 rw [XZ (by omega) (by omega)]
 split<;>rfl
def Hu (au:List (List Int)) (par home:List Int) (bg:Cc) (a:Int):Int:=
 if dU au a<0 then -1 else if kW par.length (dU au a)<0 then -1 else if kW home.length (kW par.length (dU au a))<0 then -1 else
  if kW bg.length (kW home.length (kW par.length (dU au a)))<0 then -1 else kW bg.length (kW home.length (kW par.length (dU au a)))
theorem a3M {au:List (List Int)} {par home:List Int} {bg:Cc} {a:Int} (h:0<=Hu au par home bg a):(au.length:Int)<=a/\(∀x,x∈au->(x.length:Int)<=a)/\(par.length:Int)<=a/\(home.length:Int)<=a/\(bg.length:Int)<=a:=by
 unfold Hu at h
 by_cases c1:dU au a<0
 ·rw [if_pos c1] at h;omega
 rw [if_neg c1] at h
 by_cases c2:kW par.length (dU au a)<0
 ·rw [if_pos c2] at h;omega
 rw [if_neg c2] at h
 by_cases c3:kW home.length (kW par.length (dU au a))<0
 ·rw [if_pos c3] at h;omega
 rw [if_neg c3] at h
 by_cases c4:kW bg.length (kW home.length (kW par.length (dU au a)))<0
 ·rw [if_pos c4] at h;omega
 obtain ⟨h1,h2,_,h4⟩:=GF (l:=au) (a:=a) (by omega)
 have h5:=DJ (l:=par.length) (a:=dU au a) (by omega)
 have h6:=DJ (l:=home.length) (a:=kW par.length (dU au a)) (by omega)
 have h7:=DJ (l:=bg.length) (a:=kW home.length (kW par.length (dU au a))) (by omega)
 exact ⟨h1,h2,by omega,by omega,by omega⟩
theorem a1a (au:List (List Int)) (par home:List Int) (bg:Cc) (n d a:Int) (h1:0<=a) (h2:a<=1048576) (hb:au.length<=9223372036854775807) (Oi:∀x,x∈au->x.length<=9223372036854775807) (hp:par.length<=9223372036854775807) (hh:home.length<=9223372036854775807) (hw:bg.length<=9223372036854775807):
 Ev (fun k=>lq.f k au par home bg n d a) (Hu au par home bg a):=by
 unfold lq.f Hu
 refine Ev.bind (Jv au a hb Oi (by omega) h2) ?_
 by_cases c1:dU au a<0
 ·simp only [if_pos c1];exact Ev.now _
 simp only [if_neg c1]
 have l1:=(GF (l:=au) (a:=a) (by omega)).2.2.2
 have e1:en.f par (dU au a)=some (kW par.length (dU au a)):=Dl _ _ hp (by omega) (by omega)
 simp only [e1,Option.bind_some]
 by_cases c2:kW par.length (dU au a)<0
 ·simp only [if_pos c2];exact Ev.now _
 simp only [if_neg c2]
 have l2:=(DJ (l:=par.length) (a:=dU au a) (by omega)).2
 have e2:en.f home (kW par.length (dU au a))=some (kW home.length (kW par.length (dU au a))):=Dl _ _ hh (by omega) (by omega)
 simp only [e2,Option.bind_some]
 by_cases c3:kW home.length (kW par.length (dU au a))<0
 ·simp only [if_pos c3];exact Ev.now _
 simp only [if_neg c3]
 have l3:=(DJ (l:=home.length) (a:=kW par.length (dU au a)) (by omega)).2
 simp only [a3L bg _ hw (show -1<=kW home.length (kW par.length (dU au a)) by omega) (by omega),Option.bind_some]
 by_cases c4:kW bg.length (kW home.length (kW par.length (dU au a)))<0
 ·simp only [if_pos c4];exact Ev.now _
 ·simp only [if_neg c4];exact Ev.now _
theorem toPlan_ev (au:List (List Int)) (par home:List Int) (bg:Cc) (n d:Int) (hb:au.length<=1048576) (Oi:∀x,x∈au->x.length<=1048576) (hp:par.length<=1048576) (hh:home.length<=1048576) (hw:bg.length<=1048576):
 Ev (fun k=>lp.f k au par home bg n d) (au,par,home,Vx bg,n,d):=by
 unfold lp.f
 refine Ev.bind (toIntSS_ev au (by omega) (fun x hx=>by have:=Oi x hx;omega)) (Ev.bind (toIntS_ev par (by omega)) (Ev.bind (toIntS_ev home (by omega)) (Ev.bind (toRatS_ev bg (by omega)) (Ev.to (Ev.now _) ?_))))
 rfl
structure Vy (w:World) (au:List (List Int)) (par home:List Int) (bg:Cc) (A0 A1 A2 A3:Option Addr) (c0 c1 c2 c3:Nat):Prop where
 mI:Kd.C mN w A0 au.length au
 yQ:au.length<=c0
 wL:Kd.C (Kd.int .i64) w A1 par.length par
 GJ:par.length<=c1
 vv:Kd.C (Kd.int .i64) w A2 home.length home
 Bt:home.length<=c2
 tR:Kd.C BG w A3 bg.length bg
 yR:bg.length<=c3
structure Xr (au:List (List Int)) (par home:List Int) (nw:Nat):Prop where
 hb:au.length<=1048576
 Oi:∀x,x∈au->x.length<=1048576
 hp:par.length<=1048576
 hh:home.length<=1048576
 hw:nw<=1048576
section
variable {w:World} {au:List (List Int)} {par home:List Int} {bg:Cc} {A0 A1 A2 A3:Option Addr} {c0 c1 c2 c3:Nat}
theorem Vy.below {W:World} (h:Vy w au par home bg A0 A1 A2 A3 c0 c1 c2 c3) (hb:Below w.heap.size w W):Vy W au par home bg A0 A1 A2 A3 c0 c1 c2 c3:=
 ⟨Kd.bp h.mI hb,h.yQ,Kd.bp h.wL hb,h.GJ,Kd.bp h.vv hb,h.Bt,Kd.bp h.tR hb,h.yR⟩
theorem SN {W:World} {A:Option Addr} {x:List (List Int)} (h:Kd.C mN W A x.length x):∀y,y∈x->y.length<=9223372036854775807:=fun y hy=>by
 obtain ⟨i,hi,rfl⟩:=List.getElem_of_mem hy
 obtain ⟨_,_,hc⟩:=h.2.2 (by omega)
 obtain ⟨_,_,⟨_,_,_,_,hC⟩,_⟩:=hc i _ (List.getElem?_eq_getElem hi)
 exact hC.2.1
theorem Xt (A:Option Addr) (c:Nat) (x:List (List Int)) (W:World) (h:Kd.C mN W A x.length x) (hc:x.length<=c):Calls Try.prog 5 #[.slice A x.length c,.int .i64 1048576] W fun e w'=>e= .returned (.int .i64 (dU x 1048576))/\aW W w':=by
 obtain ⟨k,hk⟩:=Ev.rounds (Jv x 1048576 h.2.1 (SN h) (by omega) (by omega))
 exact cD.calls k A c x _ _ W h hc hk
theorem toII_calls (A:Option Addr) (c:Nat) (x:List (List Int)) (W:World) (h:Kd.C mN W A x.length x) (hc:x.length<=c) (hx:x.length<=1048576) (hxx:∀y,y∈x->y.length<=1048576):
 Calls Try.prog 8 #[.slice A x.length c] W fun e w'=>∃(B:Option Addr) (d:Nat),e= .returned (.slice B x.length d)/\x.length<=d/\Kd.C mN w' B x.length x/\Below W.heap.size W w':=by
 obtain ⟨k,hk⟩:=Ev.rounds (toIntSS_ev x (by omega) (fun y hy=>by have:=hxx y hy;omega))
 refine (cM.calls k A c x _ W h hc hk).mono ?_
 rintro e w' ⟨v,rfl,hS,hB⟩
 obtain ⟨B,d,rfl,hl,hC⟩:=Kd.Tw hS
 exact ⟨B,d,rfl,hl,hC,hB⟩
theorem Kp (A:Option Addr) (c:Nat) (B:Option Addr) (d:Nat) (x:List (List Int)) (W:World) (h:Kd.C mN W A x.length x) (hc:x.length<=c) (h':Kd.C mN W B x.length x) (hc':x.length<=d) (hx:x.length<=1048576) (hxx:∀y,y∈x->y.length<=1048576):
 Calls Try.prog 11 #[.slice A x.length c,.slice B x.length d] W fun e w'=>e= .returned (.bool true)/\aW W w':=by
 obtain ⟨k,hk⟩:=Ev.rounds (WZ x x (by omega) (fun y hy=>by have:=hxx y hy;omega))
 rw [decide_eq_true rfl] at hk
 exact cX.calls k A c x B d x _ W h hc h' hc' hk
theorem Xu (n d a:Int) (h0:0<=a) (h1:a<=1048576) (h:Vy w au par home bg A0 A1 A2 A3 c0 c1 c2 c3):
 Calls Try.prog 6 #[.agg #[.slice A0 au.length c0,.slice A1 par.length c1,.slice A2 home.length c2,.slice A3 bg.length c3,.int .i64 n,.int .i64 d],.int .i64 a] w fun e w'=>e= .returned (.int .i64 (Hu au par home bg a))/\Below w.heap.size w w':=by
 obtain ⟨k,hk⟩:=Ev.rounds (a1a au par home bg n d a h0 h1 h.mI.2.1 (SN h.mI) h.wL.2.1 h.vv.2.1 h.tR.2.1)
 exact lq.calls k A0 c0 au A1 c1 par A2 c2 home A3 c3 bg n d a _ w h.mI h.yQ h.wL h.GJ h.vv h.Bt h.tR h.yR hk
theorem toPl_calls (n d:Int) (hf:Xr au par home bg.length) (cw:tQ) (hcw:cw=Vx bg) (h:Vy w au par home bg A0 A1 A2 A3 c0 c1 c2 c3):
 Calls Try.prog 9 #[.agg #[.slice A0 au.length c0,.slice A1 par.length c1,.slice A2 home.length c2,.slice A3 bg.length c3,.int .i64 n,.int .i64 d]] w fun e w'=>∃(B0 B1 B2 B3:Option Addr) (d0 d1 d2 d3:Nat),e= .returned (.agg #[.slice B0 au.length d0,.slice B1 par.length d1,.slice B2 home.length d2,.slice B3 cw.length d3,.int .i64 n,.int .i64 d])/\BX w' au par home cw B0 B1 B2 B3 d0 d1 d2 d3/\Below w.heap.size w w':=by
 subst hcw
 obtain ⟨k,hk⟩:=Ev.rounds (toPlan_ev au par home bg n d hf.hb hf.Oi hf.hp hf.hh hf.hw)
 refine (lp.calls k A0 c0 au A1 c1 par A2 c2 home A3 c3 bg n d _ _ _ _ _ _ w h.mI h.yQ h.wL h.GJ h.vv h.Bt h.tR h.yR hk).mono ?_
 rintro e w' ⟨v0,v1,v2,v3,rfl,h0,h1,h2,h3,hB⟩
 obtain ⟨B0,d0,rfl,l0,C0⟩:=Kd.Tw h0
 obtain ⟨B1,d1,rfl,l1,C1⟩:=Kd.nx h1
 obtain ⟨B2,d2,rfl,l2,C2⟩:=Kd.nx h2
 obtain ⟨B3,d3,rfl,l3,C3⟩:=Kd.nx h3
 exact ⟨B0,B1,B2,B3,d0,d1,d2,d3,rfl,⟨C0,l0,C1,l1,C2,l2,C3,l3⟩,hB⟩
end
theorem Oj (A:Option Addr) (c:Nat) (B:Option Addr) (d:Nat) (x:List Int) (W:World) (h:Kd.C (Kd.int .i64) W A x.length x) (hc:x.length<=c) (h':Kd.C (Kd.int .i64) W B x.length x) (hc':x.length<=d) (hx:x.length<=1048576):
 Calls Try.prog 16 #[.slice A x.length c,.slice B x.length d] W fun e w'=>e= .returned (.bool true)/\aW W w':=by
 obtain ⟨k,hk⟩:=Ev.rounds (NR x x (by omega))
 rw [decide_eq_true rfl] at hk
 exact cN.calls k A c x B d x _ W h hc h' hc' hk
theorem Xv (A:Option Addr) (c:Nat) (B:Option Addr) (d:Nat) (x:tQ) (W:World) (h:Kd.C gY W A x.length x) (hc:x.length<=c) (h':Kd.C gY W B x.length x) (hc':x.length<=d) (hx:x.length<=1048576):
 Calls Try.prog 38 #[.slice A x.length c,.slice B x.length d] W fun e w'=>e= .returned (.bool true)/\Below W.heap.size W w':=by
 obtain ⟨k,hk⟩:=Ev.rounds (Tm x hx)
 exact cA.calls k A c x B d x _ W h hc h' hc' hk
theorem a1b (n d:Int) (W:World):Calls Try.prog 39 #[.agg #[.int .i64 n,.int .i64 d],.agg #[.int .i64 n,.int .i64 d]] W fun e w'=>e= .returned (.bool true)/\Below W.heap.size W w':=
 nY.calls n d n d _ W (Ko n d)
set_option maxHeartbeats 4000000 in
set_option maxRecDepth 100000 in
theorem Xw {w:World} {au:List (List Int)} {par home:List Int} {bg:tQ} {A0 A1 A2 A3 B0 B1 B2 B3:Option Addr} {c0 c1 c2 c3 d0 d1 d2 d3:Nat} (n d:Int) (hf:Xr au par home bg.length) (h:BX w au par home bg A0 A1 A2 A3 c0 c1 c2 c3) (h':BX w au par home bg B0 B1 B2 B3 d0 d1 d2 d3):
 Calls Try.prog 12 #[.agg #[.slice A0 au.length c0,.slice A1 par.length c1,.slice A2 home.length c2,.slice A3 bg.length c3,.int .i64 n,.int .i64 d],.agg #[.slice B0 au.length d0,.slice B1 par.length d1,.slice B2 home.length d2,.slice B3 bg.length d3,.int .i64 n,.int .i64 d]] w fun e w'=>e= .returned (.bool true)/\Below w.heap.size w w':=by
 have eN:=Aside0.mk (Below.refl w.heap.size w)
 have H1:=Aside0.mk (fun W (hW:Below w.heap.size w W)=>Kp A0 c0 B0 d0 au W (Kd.bp h.mI hW) h.yQ (Kd.bp h'.mI hW) h'.yQ hf.hb hf.Oi)
 have H2:=Aside0.mk (fun W (hW:Below w.heap.size w W)=>Oj A1 c1 B1 d1 par W (Kd.bp h.wL hW) h.GJ (Kd.bp h'.wL hW) h'.GJ hf.hp)
 have H3:=Aside0.mk (fun W (hW:Below w.heap.size w W)=>Oj A2 c2 B2 d2 home W (Kd.bp h.vv hW) h.Bt (Kd.bp h'.vv hW) h'.Bt hf.hh)
 have H4:=Aside0.mk (fun W (hW:Below w.heap.size w W)=>Xv A3 c3 B3 d3 bg W (Kd.bp h.tR hW) h.yR (Kd.bp h'.tR hW) h'.yR hf.hw)
 have H5:=Aside0.mk (a1b n d)
 have yI:Aside0 (((w.alloc (.cells #[.slice A0 au.length c0,.slice A1 par.length c1,.slice A2 home.length c2,.slice A3 bg.length c3,.int .i64 n,.int .i64 d] 36)).alloc (.cells #[.slice B0 au.length d0,.slice B1 par.length d1,.slice B2 home.length d2,.slice B3 bg.length d3,.int .i64 n,.int .i64 d] 36)).heap[w.heap.size]? =some (.cells #[.slice A0 au.length c0,.slice A1 par.length c1,.slice A2 home.length c2,.slice A3 bg.length c3,.int .i64 n,.int .i64 d] 36 (0,0))):=⟨ai (dn w _) _⟩
 have HX2:Aside0 (((w.alloc (.cells #[.slice A0 au.length c0,.slice A1 par.length c1,.slice A2 home.length c2,.slice A3 bg.length c3,.int .i64 n,.int .i64 d] 36)).alloc (.cells #[.slice B0 au.length d0,.slice B1 par.length d1,.slice B2 home.length d2,.slice B3 bg.length d3,.int .i64 n,.int .i64 d] 36)).heap[w.heap.size+1]? =some (.cells #[.slice B0 au.length d0,.slice B1 par.length d1,.slice B2 home.length d2,.slice B3 bg.length d3,.int .i64 n,.int .i64 d] 36 (0,0))):=⟨by have:=dn (w.alloc (.cells #[.slice A0 au.length c0,.slice A1 par.length c1,.slice A2 home.length c2,.slice A3 bg.length c3,.int .i64 n,.int .i64 d] 36)) (.cells #[.slice B0 au.length d0,.slice B1 par.length d1,.slice B2 home.length d2,.slice B3 bg.length d3,.int .i64 n,.int .i64 d] 36);simpa using this⟩
 clear h h' hf
 go_enter Try.func12,Try.ntmps12
 go_wp2_with (first|(go_at_call 11;(with_reducible refine (H1.out _ (by repeat (first|exact eN.out|refine bu ?_ _|refine aT ?_ _))).mono ?_);rintro e w' ⟨rfl,⟨nd,rfl⟩⟩)|(go_at_call 16;(with_reducible refine (H2.out _ (by repeat (first|exact eN.out|refine bu ?_ _|refine aT ?_ _))).mono ?_);rintro e w' ⟨rfl,⟨nd2,rfl⟩⟩)|(go_at_call 16;(with_reducible refine (H3.out _ (by repeat (first|exact eN.out|refine bu ?_ _|refine aT ?_ _))).mono ?_);rintro e w' ⟨rfl,⟨nd3,rfl⟩⟩)|(go_at_call 38;(with_reducible refine (H4.out _ (by repeat (first|exact eN.out|refine bu ?_ _|refine aT ?_ _))).mono ?_);rintro e w4 ⟨rfl,hb⟩;have AO:Aside0 (Below w.heap.size w w4):=⟨ah (by repeat (first|exact eN.out|refine bu ?_ _|refine aT ?_ _)) hb⟩;obtain ⟨p0,p1,p2,p3,p4,p5⟩:=kP (aj (w1:=w4) (by repeat (first|exact yI.out|refine aq ?_ _)) hb);obtain ⟨q0,q1,q2,q3,q4,q5⟩:=kP (aj (w1:=w4) (by repeat (first|exact HX2.out|refine aq ?_ _)) hb);clear hb)|(go_at_call 39;(with_reducible refine (H5.out _).mono ?_);rintro e w5 ⟨rfl,hb⟩;have qI:=Aside0.mk (ah AO.out hb);clear hb))
 go_ret
 exact ⟨by rfl,qI.out⟩
set_option maxHeartbeats 8000000 in
set_option maxRecDepth 100000 in
theorem Xx {w:World} {aa au:List (List Int)} {par home:List Int} {bg:Cc} {AE A0 A1 A2 A3:Option Addr} {cE c0 c1 c2 c3:Nat} (k n d:Int) (hE:Kd.C mN w AE aa.length aa) (yT:aa.length<=cE) (hP:Vy w au par home bg A0 A1 A2 A3 c0 c1 c2 c3):
 Calls Try.prog 3 #[.int .i64 k,.slice AE aa.length cE,.agg #[.slice A0 au.length c0,.slice A1 par.length c1,.slice A2 home.length c2,.slice A3 bg.length c3,.int .i64 n,.int .i64 d]] w fun e w'=>e= .returned (.bool true)/\Below w.heap.size w w':=by
 have eN:=Aside0.mk (Below.refl w.heap.size w)
 have HP0:=Aside0.mk hP
 have vQ:=Aside0.mk hE
 have Ug:=Aside0.mk (fun W (hB:Below w.heap.size w W)=>Xt AE cE aa W (Kd.bp hE hB) yT)
 have rP:Aside0 ((w.alloc (.cells #[.slice A0 au.length c0,.slice A1 par.length c1,.slice A2 home.length c2,.slice A3 bg.length c3,.int .i64 n,.int .i64 d] 28)).heap[w.heap.size]? =some (.cells #[.slice A0 au.length c0,.slice A1 par.length c1,.slice A2 home.length c2,.slice A3 bg.length c3,.int .i64 n,.int .i64 d] 28 (0,0))):=⟨dn w _⟩
 have HZ:Aside0 (0<=dU aa 1048576->aa.length<=1048576/\(∀x,x∈aa->x.length<=1048576)/\dU aa 1048576<=1048576):=⟨fun h=>by
  obtain ⟨a,b,_,c⟩:=GF h
  exact ⟨by omega,fun x hx=>by have:=b x hx;omega,c⟩⟩
 have Vz:=Aside0.mk (fun (a:Int) (h0:0<=a) (h1:a<=1048576) W (hB:Below w.heap.size w W)=>Xu n d a h0 h1 (hP.below hB))
 have hul:=Try.underlying28
 have hup:=Try.underlying36
 clear hE hP
 generalize hz1:dU aa 1048576=z1 at*
 clear hz1
 by_cases c1:z1<0
 ·have Zo:decide (z1<0)=true:=decide_eq_true c1
  clear HZ Vz c1
  go_enter Try.func3,Try.ntmps3
  go_wp2_with (first|(go_at_call 5;(with_reducible refine (Ug.out _ (aT eN.out _)).mono ?_);rintro e w2 ⟨rfl,hb⟩;have fQ:=Aside0.mk (ah (aT eN.out _) (dH hb));clear hb))
  go_ret
  exact ⟨by rfl,fQ.out⟩
 have Zo:decide (z1<0)=false:=decide_eq_false c1
 have wW:=Aside0.mk (HZ.out (by omega))
 have hz0:0<=z1:=by omega
 replace Vz:=Aside0.mk (Vz.out z1 (by omega) wW.out.2.2)
 have Hv:Aside0 (0<=Hu au par home bg z1->Xr au par home bg.length):=⟨fun h=>by
  obtain ⟨a,b,c,dd,e⟩:=a3M h
  have:=wW.out.2.2
  exact ⟨by omega,fun x hx=>by have:=b x hx;omega,by omega,by omega,by omega⟩⟩
 generalize Hu au par home bg z1=z2 at*
 clear c1 HZ
 by_cases c2:z2<0
 ·have c2d:decide (z2<0)=true:=decide_eq_true c2
  clear Hv c2
  go_enter Try.func3,Try.ntmps3
  go_wp2_with (first|(go_at_call 5;(with_reducible refine (Ug.out _ (aT eN.out _)).mono ?_);rintro e w2 ⟨rfl,hb⟩;have fQ:=Aside0.mk (ah (aT eN.out _) (dH hb));obtain ⟨hz0,hz1,hz2,hz3,oL,oZ⟩:=kP (aj rP.out (dH hb));clear hb)|(go_at_call 6;(with_reducible refine (Vz.out _ fQ.out).mono ?_);rintro e w3 ⟨rfl,hb⟩;have xT:=Aside0.mk (ah fQ.out hb);clear hb))
  go_ret
  exact ⟨by rfl,xT.out⟩
 have c2d:decide (z2<0)=false:=decide_eq_false c2
 replace Hv:=Aside0.mk (Hv.out (by omega))
 clear c2
 obtain ⟨cw,hcw⟩:∃cw,cw=Vx bg:=⟨_,rfl⟩
 have HCw:=Aside0.mk hcw
 have HFc:Aside0 (Xr au par home cw.length):=⟨by rw [hcw,a8d];exact Hv.out⟩
 clear hcw
 go_enter Try.func3,Try.ntmps3
 go_wp2_with (first|(go_at_call 5;(with_reducible refine (Ug.out _ (aT eN.out _)).mono ?_);rintro e w2 ⟨rfl,hb⟩;have fQ:=Aside0.mk (ah (aT eN.out _) (dH hb));have zq:=Aside0.mk (aj rP.out (dH hb));obtain ⟨hz0,hz1,hz2,hz3,oL,oZ⟩:=kP zq.out;clear hb)|(go_at_call 6;(with_reducible refine (Vz.out _ fQ.out).mono ?_);rintro e w3 ⟨rfl,hb⟩;have di:=Aside0.mk (ah fQ.out hb);have lY:=Aside0.mk (aj zq.out hb);clear hb))
 have HP:=Aside0.mk (HP0.out.below di.out)
 have HE:=Aside0.mk (Kd.bp vQ.out di.out)
 clear HP0 vQ Ug Vz eN rP fQ zq hz0 hz1 hz2 hz3 oL oZ
 have wo:Aside0 (∀W,Below w3.heap.size w3 W->W.cell? ⟨w.heap.size,0,none⟩=some (.slice A0 au.length c0)/\W.cell? ⟨w.heap.size,1,none⟩=some (.slice A1 par.length c1)/\W.cell? ⟨w.heap.size,2,none⟩=some (.slice A2 home.length c2)/\W.cell? ⟨w.heap.size,3,none⟩=some (.slice A3 bg.length c3)/\W.cell? ⟨w.heap.size,4,none⟩=some (.int .i64 n)/\W.cell? ⟨w.heap.size,5,none⟩=some (.int .i64 d)):=⟨fun W hW=>kP (aj lY.out hW)⟩
 have HTo:=Aside0.mk (fun W (hW:Below w3.heap.size w3 W)=>toII_calls AE cE aa W (Kd.bp HE.out hW) yT wW.out.1 wW.out.2.1)
 have HTp:=Aside0.mk (fun W (hW:Below w3.heap.size w3 W)=>toPl_calls n d Hv.out cw HCw.out (HP.out.below hW))
 have qQ:Aside0 (Below w3.heap.size w3 w3):=⟨Below.refl _ _⟩
 obtain ⟨hz0,hz1,hz2,hz3,oL,oZ⟩:=wo.out w3 qQ.out
 go_region_held3 (fun W=>W.cell? ⟨w.heap.size,0,none⟩=some (.slice A0 au.length c0)/\W.cell? ⟨w.heap.size,1,none⟩=some (.slice A1 par.length c1)/\W.cell? ⟨w.heap.size,2,none⟩=some (.slice A2 home.length c2)/\W.cell? ⟨w.heap.size,3,none⟩=some (.slice A3 bg.length c3)/\W.cell? ⟨w.heap.size,4,none⟩=some (.int .i64 n)/\W.cell? ⟨w.heap.size,5,none⟩=some (.int .i64 d)) ((first|exact wo.out _ BK.out|exact wo.out _ qI.out|exact wo.out _ AO.out|exact wo.out _ (aI qQ.out))) ((first|(go_at_call 8;(with_reducible refine (HTo.out _ (aI qQ.out)).mono ?_);rintro e w4 ⟨B,dB,rfl,hl4,hC4,hb⟩;have AO:=Aside0.mk (ah (aI qQ.out) hb);have IL:=Aside0.mk hC4;have HL4:=Aside0.mk hl4;clear hb hC4 hl4)|(go_at_call 9;(with_reducible refine (HTp.out _ AO.out).mono ?_);rintro e w5 ⟨B0,B1,B2,B3,d0,d1,d2,d3,rfl,hR,hb⟩;have qI:=Aside0.mk (ah AO.out hb);replace IL:=Aside0.mk (Kd.bp IL.out hb);have HR5:=Aside0.mk hR;clear hb hR)|(go_at_call 7;(with_reducible refine (a0Q (k:=k) n d IL.out HL4.out HR5.out Hv.out.Oi wW.out.2.1).mono ?_);rintro e w6 ⟨rfl,hb⟩;have BK:=Aside0.mk (ah qI.out hb);clear hb)))
 go_wp2_with (first|(go_at_call 8;(with_reducible refine (HTo.out _ BK.out).mono ?_);rintro e w7 ⟨B7,d7,rfl,hl7,hC7,hb⟩;have Ub:=Aside0.mk (ah BK.out hb);have VA:=Aside0.mk hC7;have HL7:=Aside0.mk hl7;obtain ⟨hy0,hy1,Nq,ZX,ZY,hy5⟩:=wo.out w7 Ub.out;clear hb hC7 hl7)|(go_at_call 9;(with_reducible refine (HTp.out _ Ub.out).mono ?_);rintro e w8 ⟨E0,E1,E2,E3,f0,f1,f2,f3,rfl,hR,hb⟩;have zP:=Aside0.mk (ah Ub.out hb);replace VA:=Aside0.mk (Kd.bp VA.out hb);have HR8:=Aside0.mk hR;have Rc:=Aside0.mk (fun W (hW:Below w8.heap.size w8 W)=>a0P (k:=k) n d (Kd.bp VA.out hW) HL7.out (HR8.out.below hW) Hv.out.Oi wW.out.2.1);clear hb hR)|(go_at_call 10;(with_reducible refine (Rc.out _ (aT (Below.refl _ _) _)).mono ?_);rintro e w9 ⟨rfl,hb⟩;have a3N:=Aside0.mk (ah (aT (Below.refl w8.heap.size w8) (.cells #[.slice E0 au.length f0,.slice E1 par.length f1,.slice E2 home.length f2,.slice E3 cw.length f3,.int .i64 n,.int .i64 d] 36)) hb);have b8H:=Aside0.mk (aj (dn w8 (.cells #[.slice E0 au.length f0,.slice E1 par.length f1,.slice E2 home.length f2,.slice E3 cw.length f3,.int .i64 n,.int .i64 d] 36)) hb);clear hb))
 have CL:=Aside0.mk (ah zP.out a3N.out)
 replace VA:=Aside0.mk (Kd.bp VA.out a3N.out)
 replace HR8:=Aside0.mk (HR8.out.below a3N.out)
 have Xy:Aside0 (∀W,Below w9.heap.size w9 W->(W.cell? ⟨w.heap.size,0,none⟩=some (.slice A0 au.length c0)/\W.cell? ⟨w.heap.size,1,none⟩=some (.slice A1 par.length c1)/\W.cell? ⟨w.heap.size,2,none⟩=some (.slice A2 home.length c2)/\W.cell? ⟨w.heap.size,3,none⟩=some (.slice A3 bg.length c3)/\W.cell? ⟨w.heap.size,4,none⟩=some (.int .i64 n)/\W.cell? ⟨w.heap.size,5,none⟩=some (.int .i64 d))/\(W.cell? ⟨w8.heap.size,0,none⟩=some (.slice E0 au.length f0)/\W.cell? ⟨w8.heap.size,1,none⟩=some (.slice E1 par.length f1)/\W.cell? ⟨w8.heap.size,2,none⟩=some (.slice E2 home.length f2)/\W.cell? ⟨w8.heap.size,3,none⟩=some (.slice E3 cw.length f3)/\W.cell? ⟨w8.heap.size,4,none⟩=some (.int .i64 n)/\W.cell? ⟨w8.heap.size,5,none⟩=some (.int .i64 d))):=⟨fun W hW=>⟨wo.out W (ah CL.out hW),kP (aj b8H.out hW)⟩⟩
 go_wp2_with (first|(go_at_call 8;(with_reducible refine (HTo.out _ CL.out).mono ?_);rintro e mU ⟨B10,d10,rfl,b2e,b2f,hb⟩;have CG:=Aside0.mk hb;have HEq:=Aside0.mk (Kp B7 d7 B10 d10 aa mU (Kd.bp VA.out hb) HL7.out b2f b2e wW.out.1 wW.out.2.1);clear hb b2f b2e)|(go_at_call 11;(with_reducible refine HEq.out.mono ?_);rintro e kV ⟨rfl,hb⟩;have Qt:=Aside0.mk (ah CG.out (dH hb));clear hb))
 obtain ⟨⟨hx0,hx1,hx2,hx3,EW,hx5⟩,⟨hv0,hv1,hv2,hv3,hv4,hv5⟩⟩:=Xy.out kV Qt.out
 go_region_held3 (fun W=>(W.cell? ⟨w.heap.size,0,none⟩=some (.slice A0 au.length c0)/\W.cell? ⟨w.heap.size,1,none⟩=some (.slice A1 par.length c1)/\W.cell? ⟨w.heap.size,2,none⟩=some (.slice A2 home.length c2)/\W.cell? ⟨w.heap.size,3,none⟩=some (.slice A3 bg.length c3)/\W.cell? ⟨w.heap.size,4,none⟩=some (.int .i64 n)/\W.cell? ⟨w.heap.size,5,none⟩=some (.int .i64 d))/\(W.cell? ⟨w8.heap.size,0,none⟩=some (.slice E0 au.length f0)/\W.cell? ⟨w8.heap.size,1,none⟩=some (.slice E1 par.length f1)/\W.cell? ⟨w8.heap.size,2,none⟩=some (.slice E2 home.length f2)/\W.cell? ⟨w8.heap.size,3,none⟩=some (.slice E3 cw.length f3)/\W.cell? ⟨w8.heap.size,4,none⟩=some (.int .i64 n)/\W.cell? ⟨w8.heap.size,5,none⟩=some (.int .i64 d))) ((first|exact Xy.out _ b2g.out|exact Xy.out _ a3O.out|exact Xy.out _ (aI Qt.out))) ((first|(go_at_call 9;(with_reducible refine (HTp.out _ (ah CL.out (aI Qt.out))).mono ?_);rintro e mV ⟨G0,G1,G2,G3,g0,g1,g2,g3,rfl,hR,hb⟩;have a3O:=Aside0.mk (ah (aI Qt.out) hb);have HEp:=Aside0.mk (Xw n d HFc.out (HR8.out.below a3O.out) hR);clear hb hR)|(go_at_call 12;(with_reducible refine HEp.out.mono ?_);rintro e iZ ⟨rfl,hb⟩;have b2g:=Aside0.mk (ah a3O.out hb);clear hb)))
 go_wp2
 go_ret
 exact ⟨by rfl,ah di.out (ah CL.out b2g.out)⟩
theorem Xz {a0:Int} {A1:Option Addr} {c1:Nat} {l1:List (List Int)} {MF:Option Addr} {MG:Nat} {SP:List (List Int)} {MH:Option Addr} {MI:Nat} {SQ:List Int} {MJ:Option Addr} {MK:Nat} {SR:List Int} {ML:Option Addr} {MM:Nat} {SS:Cc} {a3P a3Q:Int} {w:World}
 (hr1:Kd.C (Kd.slice 3 (Kd.int .i64)) w A1 l1.length l1) (hc1:l1.length<=c1) (Pd:Kd.C (Kd.slice 3 (Kd.int .i64)) w MF SP.length SP) (Pe:SP.length<=MG) (Pf:Kd.C (Kd.int .i64) w MH SQ.length SQ) (Pg:SQ.length<=MI) (Ph:Kd.C (Kd.int .i64) w MJ SR.length SR) (Pj:SR.length<=MK) (Pk:Kd.C BG w ML SS.length SS) (Pm:SS.length<=MM) {G0 G1 G2:Prop} (g0:G0) (g1:G1) (g2:G2):
 Calls Try.prog 3 #[.int .i64 a0,.slice A1 l1.length c1,.agg #[.slice MF SP.length MG,.slice MH SQ.length MI,.slice MJ SR.length MK,.slice ML SS.length MM,.int .i64 a3P,.int .i64 a3Q]] w fun e w'=>e= .returned (.bool true)/\Below w.heap.size w w':=
 Xx a0 a3P a3Q hr1 hc1 ⟨Pd,Pe,Pf,Pg,Ph,Pj,Pk,Pm⟩
end Go.Proofs.Ytkckdphjhlbdcaa.PT
namespace Go.Proofs.Ytkckdphjhlbdcaa.fnExactPlanOK
open Go.ChangeShapes Go.WideShapes Go.ChangeAt Go.RowKit
open Go.ChangeMaps (open_string shut_string)
open Go.Proofs.Ytkckdphjhlbdcaa.Opens Go.Proofs.YtkckdphjhlbdcaaW.PrintWords
set_option linter.all false
theorem own:ownKnob Try.prog.godebug=none:=by kernel_rfl
theorem laidOut:laidOutB Try.prog=true:=by kernel_rfl
def G3 (v:Int):Prop:=(Lit.int .i64 v).wf=true
theorem DK:Opens Try.prog (Kd.int .i64) 3 G3:=Opens.int Try.underlying3 (by kernel_rfl)
def G23 (v:(List Int)):Prop:=v.length<=maxLen/\∀x,x∈v->G3 x
theorem MN:Opens Try.prog (Kd.slice 3 (Kd.int .i64)) 23 G23:=Opens.slice Try.underlying23 (by kernel_rfl) DK
def G22 (v:(List (List Int))):Prop:=v.length<=maxLen/\∀x,x∈v->G23 x
theorem VB:Opens Try.prog (Kd.slice 23 (Kd.slice 3 (Kd.int .i64))) 22 G22:=Opens.slice Try.underlying22 (by kernel_rfl) MN
def G26 (v:Go.Proofs.Ytkckdphjhlbdcaa.P.rS):Prop:=G3 (v.f0)/\G3 (v.f1)
theorem a3R:Opens Try.prog Go.Proofs.Ytkckdphjhlbdcaa.P.BG 26 G26:=Opens.struct Try.underlying26 (by kernel_rfl) (fun enc W held n cs hl hf=>
 Opens.Tp (fun x:Go.Proofs.Ytkckdphjhlbdcaa.P.rS=>(x.f0,x.f1)) (fun x=>⟨x.1,x.2⟩) (fun _=>rfl) (Opens.cons (o:=0) (k:=1) (Opens.Ig (o:=0) DK (hf 0 _ rfl)) (Opens.last (o:=1) (k:=1) (hl.trans rfl) (Opens.Ig (o:=1) DK (hf 1 _ rfl)))))
def G24 (v:(List Go.Proofs.Ytkckdphjhlbdcaa.P.rS)):Prop:=v.length<=maxLen/\∀x,x∈v->G26 x
theorem a8e:Opens Try.prog (Kd.slice 26 Go.Proofs.Ytkckdphjhlbdcaa.P.BG) 24 G24:=Opens.slice Try.underlying24 (by kernel_rfl) a3R
def b2h (v:(Int×Int)):Prop:=G3 (v.1)/\G3 (v.2)
theorem a8f:Opens Try.prog (Kd.pair (Kd.int .i64) (Kd.int .i64)) 26 b2h:=Opens.struct Try.underlying26 (by kernel_rfl) (fun enc W held n cs hl hf=>(Opens.cons (o:=0) (k:=1) (Opens.Ig (o:=0) DK (hf 0 _ rfl)) (Opens.last (o:=1) (k:=1) (hl.trans rfl) (Opens.Ig (o:=1) DK (hf 1 _ rfl)))))
def b8I (v:((List (List Int))×(List Int)×(List Int)×(List Go.Proofs.Ytkckdphjhlbdcaa.P.rS)×(Int×Int))):Prop:=G22 (v.1)/\G23 (v.2.1)/\G23 (v.2.2.1)/\G24 (v.2.2.2.1)/\b2h (v.2.2.2.2)
theorem a8g:Opens Try.prog (Kd.pair (Kd.slice 23 (Kd.slice 3 (Kd.int .i64))) (Kd.pair (Kd.slice 3 (Kd.int .i64)) (Kd.pair (Kd.slice 3 (Kd.int .i64)) (Kd.pair (Kd.slice 26 Go.Proofs.Ytkckdphjhlbdcaa.P.BG) (Kd.pair (Kd.int .i64) (Kd.int .i64)))))) 28 b8I:=Opens.struct Try.underlying28 (by kernel_rfl) (fun enc W held n cs hl hf=>(Opens.cons (o:=0) (k:=1) (Opens.Ig (o:=0) VB (hf 0 _ rfl)) (Opens.cons (o:=1) (k:=1) (Opens.Ig (o:=1) MN (hf 1 _ rfl)) (Opens.cons (o:=2) (k:=1) (Opens.Ig (o:=2) MN (hf 2 _ rfl)) (Opens.cons (o:=3) (k:=1) (Opens.Ig (o:=3) a8e (hf 3 _ rfl)) (Opens.last (o:=4) (k:=2) (hl.trans rfl) (Opens.Ig (o:=4) a8f (hf 4 _ rfl))))))))
set_option maxRecDepth 100000 in
theorem lifted (os:Os) (started:os.Started) (H:Type) (enc:TypeId×Value->H):
 ReturnsInHanded {} Try.checked os 3 .any (Rows.fnExactPlanOKSpec.pre6 enc Try.prog Try.f3 Rows.fnExactPlanOKRow.domain false) (Rows.fnExactPlanOKSpec.post enc Try.prog Try.f3 false true false false):=by
 refine returnsInHanded_of_change_sized (C:=Try.checked) own started (by kernel_rfl) Try.func3
  (ChangeSpec.witness6 (enc:=enc) (C:=Try.checked) false ⟨#[],#[.int .i64 0,.slice none 0 0,.agg #[.slice none 0 0,.slice none 0 0,.slice none 0 0,.slice none 0 0,.int .i64 0,.int .i64 0]],[]⟩ 8 (by kernel_rfl) (by kernel_rfl) (by kernel_rfl) (by kernel_rfl)) ?_
 intro W base args ds gs before a6i hW hcnd hsz0 _
 have hval:∀(j:Nat) t v,Try.f3.params[j]? =some t->args[j]? =some v->Value.okWide Try.prog W .any base t v:=a6i
 have hW':=hW
 obtain ⟨p,q,hA0,hV,rfl,hfz,Ih⟩:=hW
 have hA:DataW.TrodAll enc Try.prog W 0 (fun _=>true) true Try.f3.params.toList args.toList ds p:=hA0
 rw [Try.params3] at hA hval
 obtain ⟨v0,vs0,d0,ds0,p0,q0,hargs,rfl,rfl,h0,r0⟩:=trodAll_cons hA
 obtain ⟨v1,vs1,d1,ds1,p1,q1,rfl,rfl,rfl,h1,r1⟩:=trodAll_cons r0
 obtain ⟨v2,vs2,d2,ds2,p2,q2,rfl,rfl,rfl,h2,r2⟩:=trodAll_cons r1
 obtain ⟨rfl,rfl,rfl⟩:=trodAll_nil r2
 obtain rfl:args= #[v0,v1,v2]:=by cases args;simp_all
 obtain ⟨rfl,rfl⟩:=trodVars_none hV
 have k0:=h0
 have lt0:∀x∈p0,x.block<W.heap.size:=by obtain ⟨m,hm⟩:=k0;exact DataW.trod_lt m _ _ _ hm
 obtain ⟨a0,rfl,rfl,rfl,w0⟩:=open_int Try.underlying3 (hval 0 3 v0 rfl rfl) h0
 have k1:=h1
 have lt1:∀x∈p1,x.block<W.heap.size:=by obtain ⟨m,hm⟩:=k1;exact DataW.trod_lt m _ _ _ hm
 obtain ⟨a1,b8J,b8K,rfl⟩:=okWide_slice Try.underlying22 (hval 1 22 v1 rfl rfl)
 obtain ⟨fu1,pW⟩:=h1
 obtain ⟨x1,hK1,gg1⟩:=(VB).2 enc W true fu1 _ _ pW
 obtain ⟨A1,c1,e1,hc1,hr1⟩:=hK1
 obtain ⟨rfl,rfl,rfl⟩:a1=A1/\b8J=x1.length/\b8K=c1:=by simpa [Value.cells] using e1
 have k2:=h2
 have lt2:∀x∈p2,x.block<W.heap.size:=by obtain ⟨m,hm⟩:=k2;exact DataW.trod_lt m _ _ _ hm
 obtain ⟨iy,rfl,sz2⟩:=okWide_struct Try.underlying28 (hval 2 28 v2 rfl rfl)
 obtain ⟨fu2,hf2⟩:=h2
 obtain ⟨x2,hK2,gg2⟩:=(a8g).2 enc W true fu2 _ _ hf2
 have b2j:((Kd.pair (Kd.slice 23 (Kd.slice 3 (Kd.int .i64))) (Kd.pair (Kd.slice 3 (Kd.int .i64)) (Kd.pair (Kd.slice 3 (Kd.int .i64)) (Kd.pair (Kd.slice 26 Go.Proofs.Ytkckdphjhlbdcaa.P.BG) (Kd.pair (Kd.int .i64) (Kd.int .i64))))))).K W x2 iy.toList:=hK2
 generalize a9j:iy.toList=cl2 at b2j
 obtain ⟨_,_,rfl,⟨MF,MG,rfl,Pe,Pd⟩,⟨_,_,rfl,⟨MH,MI,rfl,Pg,Pf⟩,⟨_,_,rfl,⟨MJ,MK,rfl,Pj,Ph⟩,⟨_,_,rfl,⟨ML,MM,rfl,Pm,Pk⟩,⟨_,_,rfl,rfl,rfl⟩⟩⟩⟩⟩:=b2j
 obtain rfl:iy= #[.slice MF x2.1.length MG,.slice MH x2.2.1.length MI,.slice MJ x2.2.2.1.length MK,.slice ML x2.2.2.2.1.length MM,.int .i64 x2.2.2.2.2.1,.int .i64 x2.2.2.2.2.2]:=by cases iy;simp_all
 clear hA0 a6i
 refine (Go.Proofs.Ytkckdphjhlbdcaa.PT.Xz (w:=W) (a0:=a0) (A1:=_) (c1:=_) (l1:=x1) (MF:=MF) (MG:=MG) (SP:=x2.1) (MH:=MH) (MI:=MI) (SQ:=x2.2.1) (MJ:=MJ) (MK:=MK) (SR:=x2.2.2.1) (ML:=ML) (MM:=MM) (SS:=x2.2.2.2.1) (a3P:=x2.2.2.2.2.1) (a3Q:=x2.2.2.2.2.2) (hr1:=hr1) (hc1:=hc1) (Pd:=Pd) (Pe:=Pe) (Pf:=Pf) (Pg:=Pg) (Ph:=Ph) (Pj:=Pj) (Pk:=Pk) (Pm:=Pm) w0 gg1 gg2).mono fun e W' ⟨he,mM⟩=>?_
 subst he
 exact ⟨_,rfl,_,_,_,[],_,[],hW',trodAll_mk1 (shut_bool Try.underlying4 _),(trodAll_cons_mk (shut_int Try.underlying3 w0) (trodAll_cons_mk (Below.trod laidOut (by kernel_rfl) (of_decide_eq_true (by kernel_rfl)) k1 mM lt1) (trodAll_cons_mk (Below.trod laidOut (by kernel_rfl) (of_decide_eq_true (by kernel_rfl)) k2 mM lt2) trodAll_mk0))),rfl,mM.frame _,fun h=>by cases h⟩
theorem over:Rows.fnExactPlanOKRow.holds Try.pinned (OpenSpec.ofChange Rows.fnExactPlanOKSpec):=
 OpenClaim.holds_of_wide 3 Try.f3 rfl rfl rfl rfl rfl rfl rfl ⟨rfl,rfl,rfl,rfl,rfl⟩ rfl rfl rfl rfl rfl (by kernel_rfl) Try.func3 (by kernel_rfl)
  (of_decide_eq_true (by kernel_rfl)) (by unfold Func.isWrapper;first|(rw [if_pos (by decide+kernel)];kernel_rfl)|(rw [if_neg (by decide+kernel)];exact ⟨rfl,rfl⟩))
  (fun os started H enc _=>lifted os started H enc)
theorem proved:Rows.FnExactPlanOKSaid:=over
#print axioms proved
end Go.Proofs.Ytkckdphjhlbdcaa.fnExactPlanOK
