/-
  Part 3 of the proof of this: The law FnExactCoverOf answers true at every argument.
-/
import Derived.Test.YtnhknojfpjheoaaKCoverOf2
import Derived.Deep.LoopGhost
namespace Go.Proofs.Ytnhknojfpjheoaa.P
open Go.RowKit Go.Proofs.YtnhknojfpjheoaaW.PrintWords Go.Proofs.YtnhknojfpjheoaaW.PrintLast Go.Proofs.YtnhknojfpjheoaaW.PrintMore
attribute [local go_sem] max2_int min2_int max_two min_two max_three min_three max_four min_four
set_option linter.all false
def gQ.f (aH:Int) (aG:Int) (bh:Int) (aV:Int):Option (Bool):=if aH=bh then (if aG=aV then (some true) else (some false)) else (some false)
set_option maxHeartbeats 8000000 in
set_option maxRecDepth 100000 in
theorem gQ.calls (aH:Int) (aG:Int) (bh:Int) (aV:Int) (r:Bool) (w:World) (h:gQ.f aH aG bh aV=some r):
 Calls Try.prog 36 #[.agg #[.int .i64 aH,.int .i64 aG],.agg #[.int .i64 bh,.int .i64 aV]] w fun e w'=>e= .returned (.bool r)/\Below w.heap.size w w':=by
 have mM:=Try.underlying26
 have HB:=Aside0.mk (Below.refl w.heap.size w)
 have H:(if aH=bh then (if aG=aV then (some true) else (some false)) else (some false))=some r:=h
 clear h
 by_cases c3:aH=bh
 ·rw [if_pos c3] at H
  have gv:(aH==bh)=true:=beq_iff_eq.mpr c3
  have mX:(aH !=bh)=false:=bne_eq_false_iff_eq.mpr c3
  clear c3
  by_cases c4:aG=aV
  ·rw [if_pos c4] at H
   have kC:(aG==aV)=true:=beq_iff_eq.mpr c4
   have b4I:(aG !=aV)=false:=bne_eq_false_iff_eq.mpr c4
   clear c4
   obtain rfl:=Option.some.inj H
   go_enter Try.func36,Try.ntmps36
   go_wp2_with (first|((with_reducible refine bp (N:=2) rfl ?_);refine bw ?hg (N:=2) ?hd (cs:= #[.int .i64 aH,.int .i64 aG]) (t:=26) ?hr ?_;(case hd=>rfl);(case hg=>rfl);(case hr=>first|(go_simp;done)|(go_simp;rfl));intro gS hg w5 aU hb;have aA:=Aside0.mk (ah ax hb);have aC:=Aside0.mk (aU);have aD:=Aside0.mk ((by rw [hg];exact (av ax):w.heap.size<=gS));have aJ:=Aside0.mk ((by rw [hg];exact (av ax):w.heap.size<=gS));clear HB;have HB:=aA;have gT:=aC;have a1r:=aD;have a1s:=aJ;clear aA aC aD aJ;clear hb aU hg)|((with_reducible refine bp (N:=3) rfl ?_);refine bw ?hg (N:=3) ?hd (cs:= #[.int .i64 bh,.int .i64 aV]) (t:=26) ?hr ?_;(case hd=>rfl);(case hg=>rfl);(case hr=>first|(go_simp;done)|(go_simp;rfl));intro kN hg w6 aU hb;have aA:=Aside0.mk (ai (g:=gS) (o:= .cells #[.int .i64 aH,.int .i64 aG] 26 (0,0)) (aI gT) hb);have aC:=Aside0.mk (ah ax hb);have aD:=Aside0.mk (aU);have aJ:=Aside0.mk ((by rw [hg];exact (av ax):w.heap.size<=kN));have bJ:=Aside0.mk ((by rw [hg];exact (av ax):w.heap.size<=kN));have bS:=Aside0.mk ((by rw [hg];exact Nat.ne_of_lt (aZ (g:=gS) (o:= .cells #[.int .i64 aH,.int .i64 aG] 26 (0,0)) (aI gT)):gS≠kN));have cw:=Aside0.mk ((by rw [hg];exact Nat.ne_of_gt (aZ (g:=gS) (o:= .cells #[.int .i64 aH,.int .i64 aG] 26 (0,0)) (aI gT)):kN≠gS));clear gT;clear HB;have gT:=aA;have HB:=aC;have oB:=aD;have a1t:=aJ;have a1u:=bJ;have tI:=bS;have tJ:=cw;clear aA aC aD aJ bJ bS cw;clear hb aU hg;have DB:=tI.out;have DC:=tJ.out;have Ms:w6.cell? ⟨gS,0,none⟩=some (.int .i64 aH):=(af gT.out 0).trans rfl;have Mt:w6.cell? ⟨gS,1,none⟩=some (.int .i64 aG):=(af gT.out 1).trans rfl;have Mu:=aa gT.out 0;have Mv:=aa gT.out 1;have vo:w6.cell? ⟨kN,0,none⟩=some (.int .i64 bh):=(af oB.out 0).trans rfl;have vr:w6.cell? ⟨kN,1,none⟩=some (.int .i64 aV):=(af oB.out 1).trans rfl;have vv:=aa oB.out 0;have vw:=aa oB.out 1))
   go_ret
   exact ⟨by first|rfl|(simp [aQ,aR]<;>rfl)|(simp [*,aQ,aR]<;>rfl),ax⟩
  ·rw [if_neg c4] at H
   have kC:(aG==aV)=false:=beq_eq_false_iff_ne.mpr c4
   have b4I:(aG !=aV)=true:=bne_iff_ne.mpr c4
   obtain rfl:=Option.some.inj H
   go_enter Try.func36,Try.ntmps36
   go_wp2_with (first|((with_reducible refine bp (N:=2) rfl ?_);refine bw ?hg (N:=2) ?hd (cs:= #[.int .i64 aH,.int .i64 aG]) (t:=26) ?hr ?_;(case hd=>rfl);(case hg=>rfl);(case hr=>first|(go_simp;done)|(go_simp;rfl));intro gS hg jY aU hb;have aA:=Aside0.mk (ah ax hb);have aC:=Aside0.mk (aU);have aD:=Aside0.mk ((by rw [hg];exact (av ax):w.heap.size<=gS));have aJ:=Aside0.mk ((by rw [hg];exact (av ax):w.heap.size<=gS));clear HB;have HB:=aA;have gT:=aC;have a1r:=aD;have a1s:=aJ;clear aA aC aD aJ;clear hb aU hg)|((with_reducible refine bp (N:=3) rfl ?_);refine bw ?hg (N:=3) ?hd (cs:= #[.int .i64 bh,.int .i64 aV]) (t:=26) ?hr ?_;(case hd=>rfl);(case hg=>rfl);(case hr=>first|(go_simp;done)|(go_simp;rfl));intro kN hg ja aU hb;have aA:=Aside0.mk (ai (g:=gS) (o:= .cells #[.int .i64 aH,.int .i64 aG] 26 (0,0)) (aI gT) hb);have aC:=Aside0.mk (ah ax hb);have aD:=Aside0.mk (aU);have aJ:=Aside0.mk ((by rw [hg];exact (av ax):w.heap.size<=kN));have bJ:=Aside0.mk ((by rw [hg];exact (av ax):w.heap.size<=kN));have bS:=Aside0.mk ((by rw [hg];exact Nat.ne_of_lt (aZ (g:=gS) (o:= .cells #[.int .i64 aH,.int .i64 aG] 26 (0,0)) (aI gT)):gS≠kN));have cw:=Aside0.mk ((by rw [hg];exact Nat.ne_of_gt (aZ (g:=gS) (o:= .cells #[.int .i64 aH,.int .i64 aG] 26 (0,0)) (aI gT)):kN≠gS));clear gT;clear HB;have gT:=aA;have HB:=aC;have oB:=aD;have a1t:=aJ;have a1u:=bJ;have tI:=bS;have tJ:=cw;clear aA aC aD aJ bJ bS cw;clear hb aU hg;have a1v:=tI.out;have a1w:=tJ.out;have oh:ja.cell? ⟨gS,0,none⟩=some (.int .i64 aH):=(af gT.out 0).trans rfl;have om:ja.cell? ⟨gS,1,none⟩=some (.int .i64 aG):=(af gT.out 1).trans rfl;have oo:=aa gT.out 0;have oq:=aa gT.out 1;have PG:ja.cell? ⟨kN,0,none⟩=some (.int .i64 bh):=(af oB.out 0).trans rfl;have PI:ja.cell? ⟨kN,1,none⟩=some (.int .i64 aV):=(af oB.out 1).trans rfl;have PJ:=aa oB.out 0;have PK:=aa oB.out 1))
   go_ret
   exact ⟨by first|rfl|(simp [aQ,aR]<;>rfl)|(simp [*,aQ,aR]<;>rfl),ax⟩
 ·rw [if_neg c3] at H
  have gv:(aH==bh)=false:=beq_eq_false_iff_ne.mpr c3
  have mX:(aH !=bh)=true:=bne_iff_ne.mpr c3
  obtain rfl:=Option.some.inj H
  go_enter Try.func36,Try.ntmps36
  go_wp2_with (first|((with_reducible refine bp (N:=2) rfl ?_);refine bw ?hg (N:=2) ?hd (cs:= #[.int .i64 aH,.int .i64 aG]) (t:=26) ?hr ?_;(case hd=>rfl);(case hg=>rfl);(case hr=>first|(go_simp;done)|(go_simp;rfl));intro gS hg rJ aU hb;have aA:=Aside0.mk (ah ax hb);have aC:=Aside0.mk (aU);have aD:=Aside0.mk ((by rw [hg];exact (av ax):w.heap.size<=gS));have aJ:=Aside0.mk ((by rw [hg];exact (av ax):w.heap.size<=gS));clear HB;have HB:=aA;have gT:=aC;have a1r:=aD;have a1s:=aJ;clear aA aC aD aJ;clear hb aU hg)|((with_reducible refine bp (N:=3) rfl ?_);refine bw ?hg (N:=3) ?hd (cs:= #[.int .i64 bh,.int .i64 aV]) (t:=26) ?hr ?_;(case hd=>rfl);(case hg=>rfl);(case hr=>first|(go_simp;done)|(go_simp;rfl));intro kN hg jb aU hb;have aA:=Aside0.mk (ai (g:=gS) (o:= .cells #[.int .i64 aH,.int .i64 aG] 26 (0,0)) (aI gT) hb);have aC:=Aside0.mk (ah ax hb);have aD:=Aside0.mk (aU);have aJ:=Aside0.mk ((by rw [hg];exact (av ax):w.heap.size<=kN));have bJ:=Aside0.mk ((by rw [hg];exact (av ax):w.heap.size<=kN));have bS:=Aside0.mk ((by rw [hg];exact Nat.ne_of_lt (aZ (g:=gS) (o:= .cells #[.int .i64 aH,.int .i64 aG] 26 (0,0)) (aI gT)):gS≠kN));have cw:=Aside0.mk ((by rw [hg];exact Nat.ne_of_gt (aZ (g:=gS) (o:= .cells #[.int .i64 aH,.int .i64 aG] 26 (0,0)) (aI gT)):kN≠gS));clear gT;clear HB;have gT:=aA;have HB:=aC;have oB:=aD;have a1t:=aJ;have a1u:=bJ;have tI:=bS;have tJ:=cw;clear aA aC aD aJ bJ bS cw;clear hb aU hg;have b0E:=tI.out;have b0F:=tJ.out;have Hp:jb.cell? ⟨gS,0,none⟩=some (.int .i64 aH):=(af gT.out 0).trans rfl;have Hq:jb.cell? ⟨gS,1,none⟩=some (.int .i64 aG):=(af gT.out 1).trans rfl;have Hr:=aa gT.out 0;have Hs:=aa gT.out 1;have Hu:jb.cell? ⟨kN,0,none⟩=some (.int .i64 bh):=(af oB.out 0).trans rfl;have Hv:jb.cell? ⟨kN,1,none⟩=some (.int .i64 aV):=(af oB.out 1).trans rfl;have Hw:=aa oB.out 0;have Hx:=aa oB.out 1))
  go_ret
  exact ⟨by first|rfl|(simp [aQ,aR]<;>rfl)|(simp [*,aQ,aR]<;>rfl),ax⟩
def bE.l0:Nat->List (bM)->List (bM)->Int->Option (Bool)
 |0,_,_,_=>none
 |k+1,x0,x1,x5=>if x5<(x0.length:Int) then (if 0<=x5 then (if x5<(x1.length:Int) then ((gQ.f ((aW x0 x5).f0) ((aW x0 x5).f1) ((aW x1 x5).f0) ((aW x1 x5).f1)).bind fun Sb=>(if Sb=true then (bE.l0 k x0 x1 (wrap64 (x5+1))) else (some false))) else (none)) else (none)) else (some true)
def bE.f (k:Nat) (l0:List (bM)) (l1:List (bM)):Option (Bool):=if (l0.length:Int)=(l1.length:Int) then (bE.l0 k l0 l1 0) else (some false)
theorem bE.cI:∀k,(∀y0 y1 y2,aT (bE.l0 k y0 y1 y2) (bE.l0 (k+1) y0 y1 y2))
 |0=>fun _ _ _ r h=>by simp [bE.l0] at h
 |k+1=>by
  have dL:=bE.cI k
  ·intro y0 y1 y2
   unfold bE.l0
   repeat' first
   |(with_reducible exact dL _ _ _)
   |(with_reducible exact aT.refl _)
   |(with_reducible exact aT.none _)
   |(with_reducible refine aT.ite ?_ ?_)
   |(with_reducible refine aT.bind ?_ (fun _=>?_))
theorem bE.mono:∀a0 a1 k,aT (bE.f k a0 a1) (bE.f (k+1) a0 a1):=by
 intro a0 a1 k
 have dL:=bE.cI k
 unfold bE.f
 repeat' first
  |(with_reducible exact dL _ _ _)
  |(with_reducible exact aT.refl _)
  |(with_reducible exact aT.none _)
  |(with_reducible refine aT.ite ?_ ?_)
  |(with_reducible refine aT.bind ?_ (fun _=>?_))
def bE.T6:Bool×List (List Nat×List Nat):=(true,[([],[]),([],[]),([0,1],[0,1]),([2],[2]),([],[]),([],[]),([4,5],[4,5]),([6],[6]),([3,7],[3,7]),([8],[8])])
def bE.B6:List Nat:=[0,0,3,7,0,0,48,112,255,511]
theorem bE.a6E:ke .any (opsOf Try.f37 6)=bE.T6:=by kernel_rfl
theorem bE.a1x:pQ bE.T6.2 bE.B6=true:=by kernel_rfl
set_option maxHeartbeats 8000000 in
set_option maxRecDepth 100000 in
theorem bE.calls (k:Nat) (A0:Option Addr) (c0:Nat) (l0:List (bM)) (A1:Option Addr) (c1:Nat) (l1:List (bM)) (r:Bool) (w:World) (fy:Kd.C eY w A0 l0.length l0) (hc0:l0.length<=c0) (hr1:Kd.C eY w A1 l1.length l1) (hc1:l1.length<=c1) (h:bE.f k l0 l1=some r):
 Calls Try.prog 37 #[.slice A0 l0.length c0,.slice A1 l1.length c1] w fun e w'=>e= .returned (.bool r)/\Below w.heap.size w w':=by
 have mM:=Try.underlying26
 have eE:=Aside0.mk fy
 have lR:=Aside0.mk hc0
 clear fy hc0
 have iJ:=Aside0.mk hr1
 have nW:=Aside0.mk hc1
 clear hr1 hc1
 have HB:=Aside0.mk (Below.refl w.heap.size w)
 have H:(if (l0.length:Int)=(l1.length:Int) then (bE.l0 k l0 l1 0) else (some false))=some r:=h
 clear h
 by_cases c3:(l0.length:Int)=(l1.length:Int)
 ·rw [if_pos c3] at H
  have gv:((l0.length:Int)==(l1.length:Int))=true:=beq_iff_eq.mpr c3
  have mX:((l0.length:Int) !=(l1.length:Int))=false:=bne_eq_false_iff_eq.mpr c3
  have xh:(l0.length==l1.length)=true:=by first|simpa using c3|(simp at c3⊢;omega)
  clear c3
  have H':=Aside0.mk H
  clear H
  go_enter Try.func37,Try.ntmps37
  go_wp2
  go_loopg [5] k (fun kq v5 w'=>∃(aM:Int),v5= .int .i64 aM/\Aside0 (bE.l0 kq l0 l1 aM=some r)/\Aside0 (kq<=k)/\Aside0 (Below w.heap.size w w'))
  case atStart=>exact ⟨(0),(by first|rfl|(simp;done)|(simp [*];done)),H',⟨Nat.le_refl _⟩,⟨ax⟩⟩
  case round=>
   clear H'
   try clear c1
   try clear p2
   try clear c3
   try clear gv
   try clear mX
   try clear xh
   obtain ⟨aM,rfl,HA,fR,HB⟩:=hrel
   cases gk with
   |zero=>exact absurd HA.out (by simp [bE.l0])
   |succ k1=>
    have H:=HA.out
    clear HA
    simp only [bE.l0] at H
    by_cases c4:aM<(l0.length:Int)
    ·rw [if_pos c4] at H
     have kC:decide (aM<(l0.length:Int))=true:=decide_eq_true c4
     clear c4
     by_cases c5:0<=aM
     ·rw [if_pos c5] at H
      have uY:decide (0<=aM)=true:=decide_eq_true c5
      clear c5
      by_cases c6:aM<(l1.length:Int)
      ·rw [if_pos c6] at H
       have ov:decide (aM<(l1.length:Int))=true:=decide_eq_true c6
       clear c6
       replace H:=Option.bind_eq_some_iff.mp H
       obtain ⟨Sb,Am,H⟩:=H
       replace H:(if Sb=true then (bE.l0 k1 l0 l1 (wrap64 (aM+1))) else (some false))=some r:=H
       have A7:=Aside0.mk Am
       clear Am
       by_cases c8:Sb=true
       ·subst c8
        have H1:(bE.l0 k1 l0 l1 (wrap64 (aM+1)))=some r:=by rw [if_pos rfl] at H;exact H
        clear H
        have H:=H1
        clear H1
        have H':=Aside0.mk H
        clear H
        try go_wp2
        have aA:=Aside0.mk (bB HB.out)
        clear HB
        have HB:=aA
        clear aA
        have DD:0<=(aM:Int):=of_decide_eq_true (by first|(with_reducible assumption)|assumption)
        have DF:aM<(l0.length:Int):=of_decide_eq_true (by first|(with_reducible assumption)|assumption)
        obtain ⟨zf,YQ,mY,mZ⟩:=iN eE.out aM DD DF
        have pR:=mZ
        have pS:=mY
        cases YQ
        replace mY:=(HB.out.cell (World.block_lt_of_cell? w _ mY)).trans mY
        replace mZ:=(HB.out.cell (World.block_lt_of_cell? w _ mZ)).trans mZ
        replace DD:=eq_true DD
        replace DF:=eq_true DF
        have DG:0<=(aM:Int):=of_decide_eq_true (by first|(with_reducible assumption)|assumption)
        have DI:aM<(l1.length:Int):=of_decide_eq_true (by first|(with_reducible assumption)|assumption)
        obtain ⟨zg,YR,nc,ng⟩:=iN iJ.out aM DG DI
        have pT:=ng
        have pU:=nc
        cases YR
        replace nc:=(HB.out.cell (World.block_lt_of_cell? w _ nc)).trans nc
        replace ng:=(HB.out.cell (World.block_lt_of_cell? w _ ng)).trans ng
        replace DG:=eq_true DG
        replace DI:=eq_true DI
        refine eX (n:=10) (S:=fun w'=>w'.cell? (zf.add ((aM).toNat*2))=some (.int .i64 ((aW l0 aM).f0))/\w'.cell? ⟨(zf.add ((aM).toNat*2)).block,(zf.add ((aM).toNat*2)).off+1,none⟩=some (.int .i64 ((aW l0 aM).f1))/\w'.cell? (zg.add ((aM).toNat*2))=some (.int .i64 ((aW l1 aM).f0))/\w'.cell? ⟨(zg.add ((aM).toNat*2)).block,(zg.add ((aM).toNat*2)).off+1,none⟩=some (.int .i64 ((aW l1 aM).f1))) (ds:=[]) #[false,false,false,false,false,false,false,false,false,false] (by kernel_rfl) rfl rfl ⟨((HB.out.cell (World.block_lt_of_cell? w _ pS)).trans pS),((HB.out.cell (World.block_lt_of_cell? w _ pR)).trans pR),((HB.out.cell (World.block_lt_of_cell? w _ pU)).trans pU),((HB.out.cell (World.block_lt_of_cell? w _ pT)).trans pT)⟩ (fun hHeld=>?_);refine iY bE.a6E bE.a1x (fun bW ny=>?_)
        generalize wr.drew=w9 at HB mY mZ nc ng hHeld⊢
        refine bT bW (i:=0) (N:=some 17) ?_
        refine bT bW (i:=1) (N:=some 18) ?_
        refine bT bW (i:=2) (N:=some 19) ?_
        refine bT bW (i:=4) (N:=some 21) ?_
        refine bT bW (i:=5) (N:=some 22) ?_
        refine bT bW (i:=6) (N:=some 23) ?_
        refine dy (i:=3) (N:=some 20) (v:=?_) (a':=?_) #[true,true,true,true,true,true,true,false,false,false] rfl rfl (jx bW.out ny.out (by kernel_rfl)) (fun _ _ _ h=>h) (Or.inl ⟨by rfl,?_⟩) hHeld ?_ ?_
        rotate_left
        ·rintro w' ⟨s0,s1,s2,s3⟩
         go_simp
         with_reducible rfl
        rotate_left
        ·exact eG
        refine dy (i:=7) (N:=some 24) (v:=?_) (a':=?_) #[true,true,true,true,true,true,true,true,false,false] rfl rfl (jx bW.out ny.out (by kernel_rfl)) (fun _ _ _ h=>h) (Or.inl ⟨by rfl,?_⟩) hHeld ?_ ?_
        rotate_left
        ·rintro w' ⟨s0,s1,s2,s3⟩
         go_simp
         with_reducible rfl
        rotate_left
        ·exact eG
        refine fA (i:=8) (N:=some 25) #[true,true,true,true,true,true,true,true,true,false] rfl rfl (kB bW.out (by kernel_rfl)) (by decide) (fun K hK=>?_)
        refine nG Try.func36 (by kernel_rfl) rfl #[.agg #[.int .i64 ((aW l0 aM).f0),.int .i64 ((aW l0 aM).f1)],.agg #[.int .i64 ((aW l1 aM).f0),.int .i64 ((aW l1 aM).f1)]] (by rfl) rfl rfl (by (try simp only [List.map_toArray,List.map_cons,List.map_nil]);first|done|rfl|(simp only [List.length_drop,List.length_take];rfl)) ?_
        with_reducible refine (gQ.calls ((aW l0 aM).f0) ((aW l0 aM).f1) ((aW l1 aM).f0) ((aW l1 aM).f1) true _ A7.out).mono ?_
        rintro e jY ⟨rfl,hb⟩
        refine ⟨_,rfl,?_⟩
        have aA:=Aside0.mk (ah ax hb)
        clear HB
        have HB:=aA
        clear aA
        (try clear hb)
        (try clear hb2)
        (try clear hk)
        (try clear hi)
        refine hK.out _ _ ⟨((HB.out.cell (World.block_lt_of_cell? w _ pS)).trans pS),((HB.out.cell (World.block_lt_of_cell? w _ pR)).trans pR),((HB.out.cell (World.block_lt_of_cell? w _ pU)).trans pU),((HB.out.cell (World.block_lt_of_cell? w _ pT)).trans pT)⟩ (fun hHeld=>?_)
        clear hK K
        refine eF (a':=?_) ?_ ?_
        rotate_left
        ·show Act.put _ (some 25) _=_
         simp only [Act.put,List.setIfInBounds_toArray,List.set_cons_zero,List.set_cons_succ,cZ,dX]
         rfl
        refine bT bW (i:=9) (N:=some 26) ?_
        refine fV (lA bW.out (by kernel_rfl)) ?_
        try go_wp2
        go_roundg k1
        case measure=>have:=fR.out;omega
        case rel=>exact ⟨(wrap64 (aM+1)),(by first|rfl|(simp;done)|(simp [*];done)),H',⟨by have:=fR.out;omega⟩,⟨ax⟩⟩
       ·replace c8:=Bool.eq_false_iff.mpr c8
        subst c8
        have H1:(some false)=some r:=by rw [if_neg (show ¬(false=true) by decide)] at H;exact H
        clear H
        have H:=H1
        clear H1
        obtain rfl:=Option.some.inj H
        try go_wp2
        have aA:=Aside0.mk (bB HB.out)
        clear HB
        have HB:=aA
        clear aA
        have DD:0<=(aM:Int):=of_decide_eq_true (by first|(with_reducible assumption)|assumption)
        have DF:aM<(l0.length:Int):=of_decide_eq_true (by first|(with_reducible assumption)|assumption)
        obtain ⟨zf,YQ,mY,mZ⟩:=iN eE.out aM DD DF
        have pR:=mZ
        have pS:=mY
        cases YQ
        replace mY:=(HB.out.cell (World.block_lt_of_cell? w _ mY)).trans mY
        replace mZ:=(HB.out.cell (World.block_lt_of_cell? w _ mZ)).trans mZ
        replace DD:=eq_true DD
        replace DF:=eq_true DF
        have DG:0<=(aM:Int):=of_decide_eq_true (by first|(with_reducible assumption)|assumption)
        have DI:aM<(l1.length:Int):=of_decide_eq_true (by first|(with_reducible assumption)|assumption)
        obtain ⟨zg,YR,nc,ng⟩:=iN iJ.out aM DG DI
        have pT:=ng
        have pU:=nc
        cases YR
        replace nc:=(HB.out.cell (World.block_lt_of_cell? w _ nc)).trans nc
        replace ng:=(HB.out.cell (World.block_lt_of_cell? w _ ng)).trans ng
        replace DG:=eq_true DG
        replace DI:=eq_true DI
        refine eX (n:=10) (S:=fun w'=>w'.cell? (zf.add ((aM).toNat*2))=some (.int .i64 ((aW l0 aM).f0))/\w'.cell? ⟨(zf.add ((aM).toNat*2)).block,(zf.add ((aM).toNat*2)).off+1,none⟩=some (.int .i64 ((aW l0 aM).f1))/\w'.cell? (zg.add ((aM).toNat*2))=some (.int .i64 ((aW l1 aM).f0))/\w'.cell? ⟨(zg.add ((aM).toNat*2)).block,(zg.add ((aM).toNat*2)).off+1,none⟩=some (.int .i64 ((aW l1 aM).f1))) (ds:=[]) #[false,false,false,false,false,false,false,false,false,false] (by kernel_rfl) rfl rfl ⟨((HB.out.cell (World.block_lt_of_cell? w _ pS)).trans pS),((HB.out.cell (World.block_lt_of_cell? w _ pR)).trans pR),((HB.out.cell (World.block_lt_of_cell? w _ pU)).trans pU),((HB.out.cell (World.block_lt_of_cell? w _ pT)).trans pT)⟩ (fun hHeld=>?_);refine iY bE.a6E bE.a1x (fun bW ny=>?_)
        generalize wr.drew=ja at HB mY mZ nc ng hHeld⊢
        refine bT bW (i:=0) (N:=some 17) ?_
        refine bT bW (i:=1) (N:=some 18) ?_
        refine bT bW (i:=2) (N:=some 19) ?_
        refine bT bW (i:=4) (N:=some 21) ?_
        refine bT bW (i:=5) (N:=some 22) ?_
        refine bT bW (i:=6) (N:=some 23) ?_
        refine dy (i:=3) (N:=some 20) (v:=?_) (a':=?_) #[true,true,true,true,true,true,true,false,false,false] rfl rfl (jx bW.out ny.out (by kernel_rfl)) (fun _ _ _ h=>h) (Or.inl ⟨by rfl,?_⟩) hHeld ?_ ?_
        rotate_left
        ·rintro w' ⟨s0,s1,s2,s3⟩
         go_simp
         with_reducible rfl
        rotate_left
        ·exact eG
        refine dy (i:=7) (N:=some 24) (v:=?_) (a':=?_) #[true,true,true,true,true,true,true,true,false,false] rfl rfl (jx bW.out ny.out (by kernel_rfl)) (fun _ _ _ h=>h) (Or.inl ⟨by rfl,?_⟩) hHeld ?_ ?_
        rotate_left
        ·rintro w' ⟨s0,s1,s2,s3⟩
         go_simp
         with_reducible rfl
        rotate_left
        ·exact eG
        refine fA (i:=8) (N:=some 25) #[true,true,true,true,true,true,true,true,true,false] rfl rfl (kB bW.out (by kernel_rfl)) (by decide) (fun K hK=>?_)
        refine nG Try.func36 (by kernel_rfl) rfl #[.agg #[.int .i64 ((aW l0 aM).f0),.int .i64 ((aW l0 aM).f1)],.agg #[.int .i64 ((aW l1 aM).f0),.int .i64 ((aW l1 aM).f1)]] (by rfl) rfl rfl (by (try simp only [List.map_toArray,List.map_cons,List.map_nil]);first|done|rfl|(simp only [List.length_drop,List.length_take];rfl)) ?_
        with_reducible refine (gQ.calls ((aW l0 aM).f0) ((aW l0 aM).f1) ((aW l1 aM).f0) ((aW l1 aM).f1) false _ A7.out).mono ?_
        rintro e jN ⟨rfl,hb⟩
        refine ⟨_,rfl,?_⟩
        have aA:=Aside0.mk (ah ax hb)
        clear HB
        have HB:=aA
        clear aA
        (try clear hb)
        (try clear hb2)
        (try clear hk)
        (try clear hi)
        refine hK.out _ _ ⟨((HB.out.cell (World.block_lt_of_cell? w _ pS)).trans pS),((HB.out.cell (World.block_lt_of_cell? w _ pR)).trans pR),((HB.out.cell (World.block_lt_of_cell? w _ pU)).trans pU),((HB.out.cell (World.block_lt_of_cell? w _ pT)).trans pT)⟩ (fun hHeld=>?_)
        clear hK K
        refine eF (a':=?_) ?_ ?_
        rotate_left
        ·show Act.put _ (some 25) _=_
         simp only [Act.put,List.setIfInBounds_toArray,List.set_cons_zero,List.set_cons_succ,cZ,dX]
         rfl
        refine bT bW (i:=9) (N:=some 26) ?_
        refine fV (lA bW.out (by kernel_rfl)) ?_
        try go_wp2
        go_ret
        exact ⟨by first|rfl|(simp [aQ,aR]<;>rfl)|(simp [*,aQ,aR]<;>rfl),ax⟩
      ·rw [if_neg c6] at H
       exact absurd H (by simp)
     ·rw [if_neg c5] at H
      exact absurd H (by simp)
    ·rw [if_neg c4] at H
     have kC:decide (aM<(l0.length:Int))=false:=decide_eq_false c4
     clear c4
     obtain rfl:=Option.some.inj H
     go_wp2
     go_ret
     exact ⟨by first|rfl|(simp [aQ,aR]<;>rfl)|(simp [*,aQ,aR]<;>rfl),ax⟩
 ·rw [if_neg c3] at H
  have gv:((l0.length:Int)==(l1.length:Int))=false:=beq_eq_false_iff_ne.mpr c3
  have mX:((l0.length:Int) !=(l1.length:Int))=true:=bne_iff_ne.mpr c3
  have xh:(l0.length==l1.length)=false:=by first|simpa using c3|(simp at c3⊢;omega)
  obtain rfl:=Option.some.inj H
  go_enter Try.func37,Try.ntmps37
  go_wp2
  go_ret
  exact ⟨by first|rfl|(simp [aQ,aR]<;>rfl)|(simp [*,aQ,aR]<;>rfl),ax⟩
def jy.f (k:Nat) (aH:Bool) (aG:Int) (dA:Int) (cF:List (bM)) (cG:List (bM)) (bh:Bool) (aV:Int) (dn:Int) (fZ:List (bM)) (gb:List (bM)):Option (Bool):=if (aH !=bh)=true then (some false) else ((gQ.f aG dA aV dn).bind fun Hy=>(if Hy=true then ((bE.f k cF fZ).bind fun xk=>(if xk=true then ((bE.f k cG gb).bind fun rK=>(if rK=true then (some true) else (some false))) else (some false))) else (some false)))
theorem jy.mono:∀a0 a1 a2 a3 a4 a5 a6 a7 a8 a9 k,aT (jy.f k a0 a1 a2 a3 a4 a5 a6 a7 a8 a9) (jy.f (k+1) a0 a1 a2 a3 a4 a5 a6 a7 a8 a9):=by
 intro a0 a1 a2 a3 a4 a5 a6 a7 a8 a9 k
 unfold jy.f
 repeat' first
  |(with_reducible exact bE.mono _ _ _)
  |(with_reducible exact aT.refl _)
  |(with_reducible exact aT.none _)
  |(with_reducible refine aT.ite ?_ ?_)
  |(with_reducible refine aT.bind ?_ (fun _=>?_))
set_option maxHeartbeats 8000000 in
set_option maxRecDepth 100000 in
theorem jy.calls (k:Nat) (aH:Bool) (aG:Int) (dA:Int) (eA:Option Addr) (eB:Nat) (cF:List (bM)) (eH:Option Addr) (eI:Nat) (cG:List (bM)) (bh:Bool) (aV:Int) (dn:Int) (jz:Option Addr) (jA:Nat) (fZ:List (bM)) (jS:Option Addr) (jT:Nat) (gb:List (bM)) (r:Bool) (w:World) (EU:Kd.C eY w eA cF.length cF) (EW:cF.length<=eB) (EX:Kd.C eY w eH cG.length cG) (EY:cG.length<=eI) (a1y:Kd.C eY w jz fZ.length fZ) (a1z:fZ.length<=jA) (a1A:Kd.C eY w jS gb.length gb) (a1B:gb.length<=jT) (h:jy.f k aH aG dA cF cG bh aV dn fZ gb=some r):
 Calls Try.prog 10 #[.agg #[.bool aH,.int .i64 aG,.int .i64 dA,.slice eA cF.length eB,.slice eH cG.length eI],.agg #[.bool bh,.int .i64 aV,.int .i64 dn,.slice jz fZ.length jA,.slice jS gb.length jT]] w fun e w'=>e= .returned (.bool r)/\Below w.heap.size w w':=by
 have YS:=Try.underlying29
 have mM:=Try.underlying26
 have zh:=Aside0.mk EU
 have zi:=Aside0.mk EW
 clear EU EW
 have EZ:=Aside0.mk EX
 have Fa:=Aside0.mk EY
 clear EX EY
 have Sc:=Aside0.mk a1y
 have Sd:=Aside0.mk a1z
 clear a1y a1z
 have a1C:=Aside0.mk a1A
 have a1D:=Aside0.mk a1B
 clear a1A a1B
 have HB:=Aside0.mk (Below.refl w.heap.size w)
 have H:(if (aH !=bh)=true then (some false) else ((gQ.f aG dA aV dn).bind fun Hy=>(if Hy=true then ((bE.f k cF fZ).bind fun xk=>(if xk=true then ((bE.f k cG gb).bind fun rK=>(if rK=true then (some true) else (some false))) else (some false))) else (some false))))=some r:=h
 clear h
 by_cases c3:(aH !=bh)=true
 ·rw [if_pos c3] at H
  have gv:(aH !=bh)=true:=c3
  (try (have mX:decide (aH=bh)=false:=by simpa using c3))
  (try (have xh:(aH==bh)=false:=by simpa using c3))
  (try (have c3b3:¬(aH=bh):=by simpa using c3))
  clear c3
  obtain rfl:=Option.some.inj H
  go_enter Try.func10,Try.ntmps10
  go_wp2_with (first|((with_reducible refine bp (N:=2) rfl ?_);refine bw ?hg (N:=2) ?hd (cs:= #[.bool aH,.int .i64 aG,.int .i64 dA,.slice eA cF.length eB,.slice eH cG.length eI]) (t:=29) ?hr ?_;(case hd=>rfl);(case hg=>rfl);(case hr=>first|(go_simp;done)|(go_simp;rfl));intro bL hg w4 aU hb;have aA:=Aside0.mk (ah ax hb);have aC:=Aside0.mk (aU);have aD:=Aside0.mk ((by rw [hg];exact (av ax):w.heap.size<=bL));have aJ:=Aside0.mk ((by rw [hg];exact (av ax):w.heap.size<=bL));clear HB;have HB:=aA;have bl:=aC;have Lm:=aD;have Ln:=aJ;clear aA aC aD aJ;clear hb aU hg)|((with_reducible refine bp (N:=3) rfl ?_);refine bw ?hg (N:=3) ?hd (cs:= #[.bool bh,.int .i64 aV,.int .i64 dn,.slice jz fZ.length jA,.slice jS gb.length jT]) (t:=29) ?hr ?_;(case hd=>rfl);(case hg=>rfl);(case hr=>first|(go_simp;done)|(go_simp;rfl));intro bY hg w5 aU hb;have aA:=Aside0.mk (ai (g:=bL) (o:= .cells #[.bool aH,.int .i64 aG,.int .i64 dA,.slice eA cF.length eB,.slice eH cG.length eI] 29 (0,0)) (aI bl) hb);have aC:=Aside0.mk (ah ax hb);have aD:=Aside0.mk (aU);have aJ:=Aside0.mk ((by rw [hg];exact (av ax):w.heap.size<=bY));have bJ:=Aside0.mk ((by rw [hg];exact (av ax):w.heap.size<=bY));have bS:=Aside0.mk ((by rw [hg];exact Nat.ne_of_lt (aZ (g:=bL) (o:= .cells #[.bool aH,.int .i64 aG,.int .i64 dA,.slice eA cF.length eB,.slice eH cG.length eI] 29 (0,0)) (aI bl)):bL≠bY));have cw:=Aside0.mk ((by rw [hg];exact Nat.ne_of_gt (aZ (g:=bL) (o:= .cells #[.bool aH,.int .i64 aG,.int .i64 dA,.slice eA cF.length eB,.slice eH cG.length eI] 29 (0,0)) (aI bl)):bY≠bL));clear bl;clear HB;have bl:=aA;have HB:=aC;have bD:=aD;have Lq:=aJ;have Lr:=bJ;have mh:=bS;have mj:=cw;clear aA aC aD aJ bJ bS cw;clear hb aU hg;have hnb6:=mh.out;have hnc6:=mj.out;have Mw:w5.cell? ⟨bL,0,none⟩=some (.bool aH):=(af bl.out 0).trans rfl;have Mx:w5.cell? ⟨bL,1,none⟩=some (.int .i64 aG):=(af bl.out 1).trans rfl;have UI:w5.cell? ⟨bL,2,none⟩=some (.int .i64 dA):=(af bl.out 2).trans rfl;have hcz7_3:w5.cell? ⟨bL,3,none⟩=some (.slice eA cF.length eB):=(af bl.out 3).trans rfl;have hcz7_4:w5.cell? ⟨bL,4,none⟩=some (.slice eH cG.length eI):=(af bl.out 4).trans rfl;have My:=aa bl.out 0;have Mz:=aa bl.out 1;have UJ:=aa bl.out 2;have hfz7_3:=aa bl.out 3;have hfz7_4:=aa bl.out 4;have Ms:w5.cell? ⟨bY,0,none⟩=some (.bool bh):=(af bD.out 0).trans rfl;have Mt:w5.cell? ⟨bY,1,none⟩=some (.int .i64 aV):=(af bD.out 1).trans rfl;have a6F:w5.cell? ⟨bY,2,none⟩=some (.int .i64 dn):=(af bD.out 2).trans rfl;have a6G:w5.cell? ⟨bY,3,none⟩=some (.slice jz fZ.length jA):=(af bD.out 3).trans rfl;have a6H:w5.cell? ⟨bY,4,none⟩=some (.slice jS gb.length jT):=(af bD.out 4).trans rfl;have Mu:=aa bD.out 0;have Mv:=aa bD.out 1;have a6I:=aa bD.out 2;have a6J:=aa bD.out 3;have a6K:=aa bD.out 4))
  go_ret
  exact ⟨by first|rfl|(simp [aQ,aR]<;>rfl)|(simp [*,aQ,aR]<;>rfl),ax⟩
 ·rw [if_neg c3] at H
  have gv:(aH !=bh)=false:=by simpa using c3
  (try (have mX:decide (aH=bh)=true:=by simpa using c3))
  (try (have xh:(aH==bh)=true:=by simpa using c3))
  clear c3
  replace H:=Option.bind_eq_some_iff.mp H
  obtain ⟨Hy,MA,H⟩:=H
  replace H:(if Hy=true then ((bE.f k cF fZ).bind fun xk=>(if xk=true then ((bE.f k cG gb).bind fun rK=>(if rK=true then (some true) else (some false))) else (some false))) else (some false))=some r:=H
  have A9:=Aside0.mk MA
  clear MA
  by_cases c10:Hy=true
  ·subst c10
   have H1:((bE.f k cF fZ).bind fun xk=>(if xk=true then ((bE.f k cG gb).bind fun rK=>(if rK=true then (some true) else (some false))) else (some false)))=some r:=by rw [if_pos rfl] at H;exact H
   clear H
   have H:=H1
   clear H1
   replace H:=Option.bind_eq_some_iff.mp H
   obtain ⟨xk,MB,H⟩:=H
   replace H:(if xk=true then ((bE.f k cG gb).bind fun rK=>(if rK=true then (some true) else (some false))) else (some false))=some r:=H
   have UK:=Aside0.mk MB
   clear MB
   by_cases c12:xk=true
   ·subst c12
    have H1:((bE.f k cG gb).bind fun rK=>(if rK=true then (some true) else (some false)))=some r:=by rw [if_pos rfl] at H;exact H
    clear H
    have H:=H1
    clear H1
    replace H:=Option.bind_eq_some_iff.mp H
    obtain ⟨rK,MC,H⟩:=H
    replace H:(if rK=true then (some true) else (some false))=some r:=H
    have A13:=Aside0.mk MC
    clear MC
    by_cases c14:rK=true
    ·subst c14
     have H1:(some true)=some r:=by rw [if_pos rfl] at H;exact H
     clear H
     have H:=H1
     clear H1
     obtain rfl:=Option.some.inj H
     go_enter Try.func10,Try.ntmps10
     go_wp2_with (first|((with_reducible refine bp (N:=2) rfl ?_);refine bw ?hg (N:=2) ?hd (cs:= #[.bool aH,.int .i64 aG,.int .i64 dA,.slice eA cF.length eB,.slice eH cG.length eI]) (t:=29) ?hr ?_;(case hd=>rfl);(case hg=>rfl);(case hr=>first|(go_simp;done)|(go_simp;rfl));intro bL hg rJ aU hb;have aA:=Aside0.mk (ah ax hb);have aC:=Aside0.mk (aU);have aD:=Aside0.mk ((by rw [hg];exact (av ax):w.heap.size<=bL));have aJ:=Aside0.mk ((by rw [hg];exact (av ax):w.heap.size<=bL));clear HB;have HB:=aA;have bl:=aC;have Lm:=aD;have Ln:=aJ;clear aA aC aD aJ;clear hb aU hg)|((with_reducible refine bp (N:=3) rfl ?_);refine bw ?hg (N:=3) ?hd (cs:= #[.bool bh,.int .i64 aV,.int .i64 dn,.slice jz fZ.length jA,.slice jS gb.length jT]) (t:=29) ?hr ?_;(case hd=>rfl);(case hg=>rfl);(case hr=>first|(go_simp;done)|(go_simp;rfl));intro bY hg jb aU hb;have aA:=Aside0.mk (ai (g:=bL) (o:= .cells #[.bool aH,.int .i64 aG,.int .i64 dA,.slice eA cF.length eB,.slice eH cG.length eI] 29 (0,0)) (aI bl) hb);have aC:=Aside0.mk (ah ax hb);have aD:=Aside0.mk (aU);have aJ:=Aside0.mk ((by rw [hg];exact (av ax):w.heap.size<=bY));have bJ:=Aside0.mk ((by rw [hg];exact (av ax):w.heap.size<=bY));have bS:=Aside0.mk ((by rw [hg];exact Nat.ne_of_lt (aZ (g:=bL) (o:= .cells #[.bool aH,.int .i64 aG,.int .i64 dA,.slice eA cF.length eB,.slice eH cG.length eI] 29 (0,0)) (aI bl)):bL≠bY));have cw:=Aside0.mk ((by rw [hg];exact Nat.ne_of_gt (aZ (g:=bL) (o:= .cells #[.bool aH,.int .i64 aG,.int .i64 dA,.slice eA cF.length eB,.slice eH cG.length eI] 29 (0,0)) (aI bl)):bY≠bL));clear bl;clear HB;have bl:=aA;have HB:=aC;have bD:=aD;have Lq:=aJ;have Lr:=bJ;have mh:=bS;have mj:=cw;clear aA aC aD aJ bJ bS cw;clear hb aU hg;have b0E:=mh.out;have b0F:=mj.out;have Hp:jb.cell? ⟨bL,0,none⟩=some (.bool aH):=(af bl.out 0).trans rfl;have Hq:jb.cell? ⟨bL,1,none⟩=some (.int .i64 aG):=(af bl.out 1).trans rfl;have hcz18_2:jb.cell? ⟨bL,2,none⟩=some (.int .i64 dA):=(af bl.out 2).trans rfl;have hcz18_3:jb.cell? ⟨bL,3,none⟩=some (.slice eA cF.length eB):=(af bl.out 3).trans rfl;have hcz18_4:jb.cell? ⟨bL,4,none⟩=some (.slice eH cG.length eI):=(af bl.out 4).trans rfl;have Hr:=aa bl.out 0;have Hs:=aa bl.out 1;have hfz18_2:=aa bl.out 2;have hfz18_3:=aa bl.out 3;have hfz18_4:=aa bl.out 4;have Hu:jb.cell? ⟨bY,0,none⟩=some (.bool bh):=(af bD.out 0).trans rfl;have Hv:jb.cell? ⟨bY,1,none⟩=some (.int .i64 aV):=(af bD.out 1).trans rfl;have hcz19_2:jb.cell? ⟨bY,2,none⟩=some (.int .i64 dn):=(af bD.out 2).trans rfl;have hcz19_3:jb.cell? ⟨bY,3,none⟩=some (.slice jz fZ.length jA):=(af bD.out 3).trans rfl;have hcz19_4:jb.cell? ⟨bY,4,none⟩=some (.slice jS gb.length jT):=(af bD.out 4).trans rfl;have Hw:=aa bD.out 0;have Hx:=aa bD.out 1;have hfz19_2:=aa bD.out 2;have hfz19_3:=aa bD.out 3;have hfz19_4:=aa bD.out 4)|((with_reducible refine aY (f:=36) rfl ?_);refine bP (some 14) rfl rfl Try.func36 (by kernel_rfl) rfl #[.agg #[.int .i64 aG,.int .i64 dA],.agg #[.int .i64 aV,.int .i64 dn]] rfl (by (try simp only [List.map_toArray,List.map_cons,List.map_nil]);first|done|rfl|(simp only [List.length_drop,List.length_take];rfl)) ?_;(with_reducible refine (gQ.calls aG dA aV dn true _ A9.out).mono ?_);rintro e kF ⟨rfl,hb⟩;refine ⟨_,rfl,?_⟩;have aA:=Aside0.mk (ai (g:=bL) (o:= .cells #[.bool aH,.int .i64 aG,.int .i64 dA,.slice eA cF.length eB,.slice eH cG.length eI] 29 (0,0)) (aI bl) hb);have aC:=Aside0.mk (ai (g:=bY) (o:= .cells #[.bool bh,.int .i64 aV,.int .i64 dn,.slice jz fZ.length jA,.slice jS gb.length jT] 29 (0,0)) (aI bD) hb);have aD:=Aside0.mk (ah ax hb);clear bl;clear bD;clear HB;have bl:=aA;have bD:=aC;have HB:=aD;clear aA aC aD;(try clear hb);(try clear hb2);(try clear hk);(try clear hi);have BO:kF.cell? ⟨bL,0,none⟩=some (.bool aH):=(af bl.out 0).trans rfl;have BP:kF.cell? ⟨bL,1,none⟩=some (.int .i64 aG):=(af bl.out 1).trans rfl;have a3I:kF.cell? ⟨bL,2,none⟩=some (.int .i64 dA):=(af bl.out 2).trans rfl;have hcz21_3:kF.cell? ⟨bL,3,none⟩=some (.slice eA cF.length eB):=(af bl.out 3).trans rfl;have hcz21_4:kF.cell? ⟨bL,4,none⟩=some (.slice eH cG.length eI):=(af bl.out 4).trans rfl;have BQ:=aa bl.out 0;have BS:=aa bl.out 1;have a3J:=aa bl.out 2;have hfz21_3:=aa bl.out 3;have hfz21_4:=aa bl.out 4;have hcz22_0:kF.cell? ⟨bY,0,none⟩=some (.bool bh):=(af bD.out 0).trans rfl;have hcz22_1:kF.cell? ⟨bY,1,none⟩=some (.int .i64 aV):=(af bD.out 1).trans rfl;have hcz22_2:kF.cell? ⟨bY,2,none⟩=some (.int .i64 dn):=(af bD.out 2).trans rfl;have hcz22_3:kF.cell? ⟨bY,3,none⟩=some (.slice jz fZ.length jA):=(af bD.out 3).trans rfl;have hcz22_4:kF.cell? ⟨bY,4,none⟩=some (.slice jS gb.length jT):=(af bD.out 4).trans rfl;have hfz22_0:=aa bD.out 0;have hfz22_1:=aa bD.out 1;have hfz22_2:=aa bD.out 2;have hfz22_3:=aa bD.out 3;have hfz22_4:=aa bD.out 4)|((with_reducible refine aY (f:=37) rfl ?_);refine bP (some 20) rfl rfl Try.func37 (by kernel_rfl) rfl #[.slice eA cF.length eB,.slice jz fZ.length jA] rfl (by (try simp only [List.map_toArray,List.map_cons,List.map_nil]);first|done|rfl|(simp only [List.length_drop,List.length_take];rfl)) ?_;(with_reducible refine (bE.calls k _ _ cF _ _ fZ true _ ?cy ?cA ?iT ?iU UK.out).mono ?_);(case cy=>repeat (first|exact (Kd.bX zh.out HB.out)|(with_reducible refine Kd.cX ?_ _)|(with_reducible refine Kd.cY ?_ _)|(with_reducible refine Kd.dB ?_)));(case cA=>exact zi.out);(case iT=>repeat (first|exact (Kd.bX Sc.out HB.out)|(with_reducible refine Kd.cX ?_ _)|(with_reducible refine Kd.cY ?_ _)|(with_reducible refine Kd.dB ?_)));(case iU=>exact Sd.out);rintro e um ⟨rfl,hb⟩;refine ⟨_,rfl,?_⟩;have aA:=Aside0.mk (ai (g:=bL) (o:= .cells #[.bool aH,.int .i64 aG,.int .i64 dA,.slice eA cF.length eB,.slice eH cG.length eI] 29 (0,0)) (aI bl) hb);have aC:=Aside0.mk (ai (g:=bY) (o:= .cells #[.bool bh,.int .i64 aV,.int .i64 dn,.slice jz fZ.length jA,.slice jS gb.length jT] 29 (0,0)) (aI bD) hb);have aD:=Aside0.mk (ah ax hb);clear bl;clear bD;clear HB;have bl:=aA;have bD:=aC;have HB:=aD;clear aA aC aD;(try clear hb);(try clear hb2);(try clear hk);(try clear hi);have hcz24_0:um.cell? ⟨bL,0,none⟩=some (.bool aH):=(af bl.out 0).trans rfl;have hcz24_1:um.cell? ⟨bL,1,none⟩=some (.int .i64 aG):=(af bl.out 1).trans rfl;have hcz24_2:um.cell? ⟨bL,2,none⟩=some (.int .i64 dA):=(af bl.out 2).trans rfl;have hcz24_3:um.cell? ⟨bL,3,none⟩=some (.slice eA cF.length eB):=(af bl.out 3).trans rfl;have hcz24_4:um.cell? ⟨bL,4,none⟩=some (.slice eH cG.length eI):=(af bl.out 4).trans rfl;have hfz24_0:=aa bl.out 0;have hfz24_1:=aa bl.out 1;have hfz24_2:=aa bl.out 2;have hfz24_3:=aa bl.out 3;have hfz24_4:=aa bl.out 4;have Hz:um.cell? ⟨bY,0,none⟩=some (.bool bh):=(af bD.out 0).trans rfl;have HJ:um.cell? ⟨bY,1,none⟩=some (.int .i64 aV):=(af bD.out 1).trans rfl;have hcz25_2:um.cell? ⟨bY,2,none⟩=some (.int .i64 dn):=(af bD.out 2).trans rfl;have hcz25_3:um.cell? ⟨bY,3,none⟩=some (.slice jz fZ.length jA):=(af bD.out 3).trans rfl;have hcz25_4:um.cell? ⟨bY,4,none⟩=some (.slice jS gb.length jT):=(af bD.out 4).trans rfl;have HV:=aa bD.out 0;have HY:=aa bD.out 1;have hfz25_2:=aa bD.out 2;have hfz25_3:=aa bD.out 3;have hfz25_4:=aa bD.out 4)|((with_reducible refine aY (f:=37) rfl ?_);refine bP (some 26) rfl rfl Try.func37 (by kernel_rfl) rfl #[.slice eH cG.length eI,.slice jS gb.length jT] rfl (by (try simp only [List.map_toArray,List.map_cons,List.map_nil]);first|done|rfl|(simp only [List.length_drop,List.length_take];rfl)) ?_;(with_reducible refine (bE.calls k _ _ cG _ _ gb true _ ?cy ?cA ?iT ?iU A13.out).mono ?_);(case cy=>repeat (first|exact (Kd.bX EZ.out HB.out)|(with_reducible refine Kd.cX ?_ _)|(with_reducible refine Kd.cY ?_ _)|(with_reducible refine Kd.dB ?_)));(case cA=>exact Fa.out);(case iT=>repeat (first|exact (Kd.bX a1C.out HB.out)|(with_reducible refine Kd.cX ?_ _)|(with_reducible refine Kd.cY ?_ _)|(with_reducible refine Kd.dB ?_)));(case iU=>exact a1D.out);rintro e w26 ⟨rfl,hb⟩;refine ⟨_,rfl,?_⟩;have aA:=Aside0.mk (ai (g:=bL) (o:= .cells #[.bool aH,.int .i64 aG,.int .i64 dA,.slice eA cF.length eB,.slice eH cG.length eI] 29 (0,0)) (aI bl) hb);have aC:=Aside0.mk (ai (g:=bY) (o:= .cells #[.bool bh,.int .i64 aV,.int .i64 dn,.slice jz fZ.length jA,.slice jS gb.length jT] 29 (0,0)) (aI bD) hb);have aD:=Aside0.mk (ah ax hb);clear bl;clear bD;clear HB;have bl:=aA;have bD:=aC;have HB:=aD;clear aA aC aD;(try clear hb);(try clear hb2);(try clear hk);(try clear hi)))
     go_ret
     exact ⟨by first|rfl|(simp [aQ,aR]<;>rfl)|(simp [*,aQ,aR]<;>rfl),ax⟩
    ·replace c14:=Bool.eq_false_iff.mpr c14
     subst c14
     have H1:(some false)=some r:=by rw [if_neg (show ¬(false=true) by decide)] at H;exact H
     clear H
     have H:=H1
     clear H1
     obtain rfl:=Option.some.inj H
     go_enter Try.func10,Try.ntmps10
     go_wp2_with (first|((with_reducible refine bp (N:=2) rfl ?_);refine bw ?hg (N:=2) ?hd (cs:= #[.bool aH,.int .i64 aG,.int .i64 dA,.slice eA cF.length eB,.slice eH cG.length eI]) (t:=29) ?hr ?_;(case hd=>rfl);(case hg=>rfl);(case hr=>first|(go_simp;done)|(go_simp;rfl));intro bL hg JZ aU hb;have aA:=Aside0.mk (ah ax hb);have aC:=Aside0.mk (aU);have aD:=Aside0.mk ((by rw [hg];exact (av ax):w.heap.size<=bL));have aJ:=Aside0.mk ((by rw [hg];exact (av ax):w.heap.size<=bL));clear HB;have HB:=aA;have bl:=aC;have Lm:=aD;have Ln:=aJ;clear aA aC aD aJ;clear hb aU hg)|((with_reducible refine bp (N:=3) rfl ?_);refine bw ?hg (N:=3) ?hd (cs:= #[.bool bh,.int .i64 aV,.int .i64 dn,.slice jz fZ.length jA,.slice jS gb.length jT]) (t:=29) ?hr ?_;(case hd=>rfl);(case hg=>rfl);(case hr=>first|(go_simp;done)|(go_simp;rfl));intro bY hg wq aU hb;have aA:=Aside0.mk (ai (g:=bL) (o:= .cells #[.bool aH,.int .i64 aG,.int .i64 dA,.slice eA cF.length eB,.slice eH cG.length eI] 29 (0,0)) (aI bl) hb);have aC:=Aside0.mk (ah ax hb);have aD:=Aside0.mk (aU);have aJ:=Aside0.mk ((by rw [hg];exact (av ax):w.heap.size<=bY));have bJ:=Aside0.mk ((by rw [hg];exact (av ax):w.heap.size<=bY));have bS:=Aside0.mk ((by rw [hg];exact Nat.ne_of_lt (aZ (g:=bL) (o:= .cells #[.bool aH,.int .i64 aG,.int .i64 dA,.slice eA cF.length eB,.slice eH cG.length eI] 29 (0,0)) (aI bl)):bL≠bY));have cw:=Aside0.mk ((by rw [hg];exact Nat.ne_of_gt (aZ (g:=bL) (o:= .cells #[.bool aH,.int .i64 aG,.int .i64 dA,.slice eA cF.length eB,.slice eH cG.length eI] 29 (0,0)) (aI bl)):bY≠bL));clear bl;clear HB;have bl:=aA;have HB:=aC;have bD:=aD;have Lq:=aJ;have Lr:=bJ;have mh:=bS;have mj:=cw;clear aA aC aD aJ bJ bS cw;clear hb aU hg;have b0G:=mh.out;have b0H:=mj.out;have a3K:wq.cell? ⟨bL,0,none⟩=some (.bool aH):=(af bl.out 0).trans rfl;have a3L:wq.cell? ⟨bL,1,none⟩=some (.int .i64 aG):=(af bl.out 1).trans rfl;have hcz30_2:wq.cell? ⟨bL,2,none⟩=some (.int .i64 dA):=(af bl.out 2).trans rfl;have hcz30_3:wq.cell? ⟨bL,3,none⟩=some (.slice eA cF.length eB):=(af bl.out 3).trans rfl;have hcz30_4:wq.cell? ⟨bL,4,none⟩=some (.slice eH cG.length eI):=(af bl.out 4).trans rfl;have a3M:=aa bl.out 0;have a3N:=aa bl.out 1;have hfz30_2:=aa bl.out 2;have hfz30_3:=aa bl.out 3;have hfz30_4:=aa bl.out 4;have xZ:wq.cell? ⟨bY,0,none⟩=some (.bool bh):=(af bD.out 0).trans rfl;have ya:wq.cell? ⟨bY,1,none⟩=some (.int .i64 aV):=(af bD.out 1).trans rfl;have yb:wq.cell? ⟨bY,2,none⟩=some (.int .i64 dn):=(af bD.out 2).trans rfl;have hcz31_3:wq.cell? ⟨bY,3,none⟩=some (.slice jz fZ.length jA):=(af bD.out 3).trans rfl;have hcz31_4:wq.cell? ⟨bY,4,none⟩=some (.slice jS gb.length jT):=(af bD.out 4).trans rfl;have yc:=aa bD.out 0;have ye:=aa bD.out 1;have yf:=aa bD.out 2;have hfz31_3:=aa bD.out 3;have hfz31_4:=aa bD.out 4)|((with_reducible refine aY (f:=36) rfl ?_);refine bP (some 14) rfl rfl Try.func36 (by kernel_rfl) rfl #[.agg #[.int .i64 aG,.int .i64 dA],.agg #[.int .i64 aV,.int .i64 dn]] rfl (by (try simp only [List.map_toArray,List.map_cons,List.map_nil]);first|done|rfl|(simp only [List.length_drop,List.length_take];rfl)) ?_;(with_reducible refine (gQ.calls aG dA aV dn true _ A9.out).mono ?_);rintro e qd ⟨rfl,hb⟩;refine ⟨_,rfl,?_⟩;have aA:=Aside0.mk (ai (g:=bL) (o:= .cells #[.bool aH,.int .i64 aG,.int .i64 dA,.slice eA cF.length eB,.slice eH cG.length eI] 29 (0,0)) (aI bl) hb);have aC:=Aside0.mk (ai (g:=bY) (o:= .cells #[.bool bh,.int .i64 aV,.int .i64 dn,.slice jz fZ.length jA,.slice jS gb.length jT] 29 (0,0)) (aI bD) hb);have aD:=Aside0.mk (ah ax hb);clear bl;clear bD;clear HB;have bl:=aA;have bD:=aC;have HB:=aD;clear aA aC aD;(try clear hb);(try clear hb2);(try clear hk);(try clear hi);have PL:qd.cell? ⟨bL,0,none⟩=some (.bool aH):=(af bl.out 0).trans rfl;have PM:qd.cell? ⟨bL,1,none⟩=some (.int .i64 aG):=(af bl.out 1).trans rfl;have hcz33_2:qd.cell? ⟨bL,2,none⟩=some (.int .i64 dA):=(af bl.out 2).trans rfl;have hcz33_3:qd.cell? ⟨bL,3,none⟩=some (.slice eA cF.length eB):=(af bl.out 3).trans rfl;have hcz33_4:qd.cell? ⟨bL,4,none⟩=some (.slice eH cG.length eI):=(af bl.out 4).trans rfl;have PN:=aa bl.out 0;have PO:=aa bl.out 1;have hfz33_2:=aa bl.out 2;have hfz33_3:=aa bl.out 3;have hfz33_4:=aa bl.out 4;have BU:qd.cell? ⟨bY,0,none⟩=some (.bool bh):=(af bD.out 0).trans rfl;have BV:qd.cell? ⟨bY,1,none⟩=some (.int .i64 aV):=(af bD.out 1).trans rfl;have BW:qd.cell? ⟨bY,2,none⟩=some (.int .i64 dn):=(af bD.out 2).trans rfl;have hcz34_3:qd.cell? ⟨bY,3,none⟩=some (.slice jz fZ.length jA):=(af bD.out 3).trans rfl;have hcz34_4:qd.cell? ⟨bY,4,none⟩=some (.slice jS gb.length jT):=(af bD.out 4).trans rfl;have BX:=aa bD.out 0;have BZ:=aa bD.out 1;have Ca:=aa bD.out 2;have hfz34_3:=aa bD.out 3;have hfz34_4:=aa bD.out 4)|((with_reducible refine aY (f:=37) rfl ?_);refine bP (some 20) rfl rfl Try.func37 (by kernel_rfl) rfl #[.slice eA cF.length eB,.slice jz fZ.length jA] rfl (by (try simp only [List.map_toArray,List.map_cons,List.map_nil]);first|done|rfl|(simp only [List.length_drop,List.length_take];rfl)) ?_;(with_reducible refine (bE.calls k _ _ cF _ _ fZ true _ ?cy ?cA ?iT ?iU UK.out).mono ?_);(case cy=>repeat (first|exact (Kd.bX zh.out HB.out)|(with_reducible refine Kd.cX ?_ _)|(with_reducible refine Kd.cY ?_ _)|(with_reducible refine Kd.dB ?_)));(case cA=>exact zi.out);(case iT=>repeat (first|exact (Kd.bX Sc.out HB.out)|(with_reducible refine Kd.cX ?_ _)|(with_reducible refine Kd.cY ?_ _)|(with_reducible refine Kd.dB ?_)));(case iU=>exact Sd.out);rintro e pg ⟨rfl,hb⟩;refine ⟨_,rfl,?_⟩;have aA:=Aside0.mk (ai (g:=bL) (o:= .cells #[.bool aH,.int .i64 aG,.int .i64 dA,.slice eA cF.length eB,.slice eH cG.length eI] 29 (0,0)) (aI bl) hb);have aC:=Aside0.mk (ai (g:=bY) (o:= .cells #[.bool bh,.int .i64 aV,.int .i64 dn,.slice jz fZ.length jA,.slice jS gb.length jT] 29 (0,0)) (aI bD) hb);have aD:=Aside0.mk (ah ax hb);clear bl;clear bD;clear HB;have bl:=aA;have bD:=aC;have HB:=aD;clear aA aC aD;(try clear hb);(try clear hb2);(try clear hk);(try clear hi);have yg:pg.cell? ⟨bL,0,none⟩=some (.bool aH):=(af bl.out 0).trans rfl;have yh:pg.cell? ⟨bL,1,none⟩=some (.int .i64 aG):=(af bl.out 1).trans rfl;have yj:pg.cell? ⟨bL,2,none⟩=some (.int .i64 dA):=(af bl.out 2).trans rfl;have Cb:pg.cell? ⟨bL,3,none⟩=some (.slice eA cF.length eB):=(af bl.out 3).trans rfl;have Cc:pg.cell? ⟨bL,4,none⟩=some (.slice eH cG.length eI):=(af bl.out 4).trans rfl;have yl:=aa bl.out 0;have ym:=aa bl.out 1;have yo:=aa bl.out 2;have Ce:=aa bl.out 3;have Cf:=aa bl.out 4;have Ia:pg.cell? ⟨bY,0,none⟩=some (.bool bh):=(af bD.out 0).trans rfl;have Ib:pg.cell? ⟨bY,1,none⟩=some (.int .i64 aV):=(af bD.out 1).trans rfl;have hcz37_2:pg.cell? ⟨bY,2,none⟩=some (.int .i64 dn):=(af bD.out 2).trans rfl;have hcz37_3:pg.cell? ⟨bY,3,none⟩=some (.slice jz fZ.length jA):=(af bD.out 3).trans rfl;have hcz37_4:pg.cell? ⟨bY,4,none⟩=some (.slice jS gb.length jT):=(af bD.out 4).trans rfl;have Ic:=aa bD.out 0;have Ie:=aa bD.out 1;have hfz37_2:=aa bD.out 2;have hfz37_3:=aa bD.out 3;have hfz37_4:=aa bD.out 4)|((with_reducible refine aY (f:=37) rfl ?_);refine bP (some 26) rfl rfl Try.func37 (by kernel_rfl) rfl #[.slice eH cG.length eI,.slice jS gb.length jT] rfl (by (try simp only [List.map_toArray,List.map_cons,List.map_nil]);first|done|rfl|(simp only [List.length_drop,List.length_take];rfl)) ?_;(with_reducible refine (bE.calls k _ _ cG _ _ gb false _ ?cy ?cA ?iT ?iU A13.out).mono ?_);(case cy=>repeat (first|exact (Kd.bX EZ.out HB.out)|(with_reducible refine Kd.cX ?_ _)|(with_reducible refine Kd.cY ?_ _)|(with_reducible refine Kd.dB ?_)));(case cA=>exact Fa.out);(case iT=>repeat (first|exact (Kd.bX a1C.out HB.out)|(with_reducible refine Kd.cX ?_ _)|(with_reducible refine Kd.cY ?_ _)|(with_reducible refine Kd.dB ?_)));(case iU=>exact a1D.out);rintro e w38 ⟨rfl,hb⟩;refine ⟨_,rfl,?_⟩;have aA:=Aside0.mk (ai (g:=bL) (o:= .cells #[.bool aH,.int .i64 aG,.int .i64 dA,.slice eA cF.length eB,.slice eH cG.length eI] 29 (0,0)) (aI bl) hb);have aC:=Aside0.mk (ai (g:=bY) (o:= .cells #[.bool bh,.int .i64 aV,.int .i64 dn,.slice jz fZ.length jA,.slice jS gb.length jT] 29 (0,0)) (aI bD) hb);have aD:=Aside0.mk (ah ax hb);clear bl;clear bD;clear HB;have bl:=aA;have bD:=aC;have HB:=aD;clear aA aC aD;(try clear hb);(try clear hb2);(try clear hk);(try clear hi)))
     go_ret
     exact ⟨by first|rfl|(simp [aQ,aR]<;>rfl)|(simp [*,aQ,aR]<;>rfl),ax⟩
   ·replace c12:=Bool.eq_false_iff.mpr c12
    subst c12
    have H1:(some false)=some r:=by rw [if_neg (show ¬(false=true) by decide)] at H;exact H
    clear H
    have H:=H1
    clear H1
    obtain rfl:=Option.some.inj H
    go_enter Try.func10,Try.ntmps10
    go_wp2_with (first|((with_reducible refine bp (N:=2) rfl ?_);refine bw ?hg (N:=2) ?hd (cs:= #[.bool aH,.int .i64 aG,.int .i64 dA,.slice eA cF.length eB,.slice eH cG.length eI]) (t:=29) ?hr ?_;(case hd=>rfl);(case hg=>rfl);(case hr=>first|(go_simp;done)|(go_simp;rfl));intro bL hg Ka aU hb;have aA:=Aside0.mk (ah ax hb);have aC:=Aside0.mk (aU);have aD:=Aside0.mk ((by rw [hg];exact (av ax):w.heap.size<=bL));have aJ:=Aside0.mk ((by rw [hg];exact (av ax):w.heap.size<=bL));clear HB;have HB:=aA;have bl:=aC;have Lm:=aD;have Ln:=aJ;clear aA aC aD aJ;clear hb aU hg)|((with_reducible refine bp (N:=3) rfl ?_);refine bw ?hg (N:=3) ?hd (cs:= #[.bool bh,.int .i64 aV,.int .i64 dn,.slice jz fZ.length jA,.slice jS gb.length jT]) (t:=29) ?hr ?_;(case hd=>rfl);(case hg=>rfl);(case hr=>first|(go_simp;done)|(go_simp;rfl));intro bY hg vz aU hb;have aA:=Aside0.mk (ai (g:=bL) (o:= .cells #[.bool aH,.int .i64 aG,.int .i64 dA,.slice eA cF.length eB,.slice eH cG.length eI] 29 (0,0)) (aI bl) hb);have aC:=Aside0.mk (ah ax hb);have aD:=Aside0.mk (aU);have aJ:=Aside0.mk ((by rw [hg];exact (av ax):w.heap.size<=bY));have bJ:=Aside0.mk ((by rw [hg];exact (av ax):w.heap.size<=bY));have bS:=Aside0.mk ((by rw [hg];exact Nat.ne_of_lt (aZ (g:=bL) (o:= .cells #[.bool aH,.int .i64 aG,.int .i64 dA,.slice eA cF.length eB,.slice eH cG.length eI] 29 (0,0)) (aI bl)):bL≠bY));have cw:=Aside0.mk ((by rw [hg];exact Nat.ne_of_gt (aZ (g:=bL) (o:= .cells #[.bool aH,.int .i64 aG,.int .i64 dA,.slice eA cF.length eB,.slice eH cG.length eI] 29 (0,0)) (aI bl)):bY≠bL));clear bl;clear HB;have bl:=aA;have HB:=aC;have bD:=aD;have Lq:=aJ;have Lr:=bJ;have mh:=bS;have mj:=cw;clear aA aC aD aJ bJ bS cw;clear hb aU hg;have hnb41:=mh.out;have hnc41:=mj.out;have a3O:vz.cell? ⟨bL,0,none⟩=some (.bool aH):=(af bl.out 0).trans rfl;have a3P:vz.cell? ⟨bL,1,none⟩=some (.int .i64 aG):=(af bl.out 1).trans rfl;have hcz42_2:vz.cell? ⟨bL,2,none⟩=some (.int .i64 dA):=(af bl.out 2).trans rfl;have hcz42_3:vz.cell? ⟨bL,3,none⟩=some (.slice eA cF.length eB):=(af bl.out 3).trans rfl;have hcz42_4:vz.cell? ⟨bL,4,none⟩=some (.slice eH cG.length eI):=(af bl.out 4).trans rfl;have a3Q:=aa bl.out 0;have a3R:=aa bl.out 1;have hfz42_2:=aa bl.out 2;have hfz42_3:=aa bl.out 3;have hfz42_4:=aa bl.out 4;have hcz43_0:vz.cell? ⟨bY,0,none⟩=some (.bool bh):=(af bD.out 0).trans rfl;have hcz43_1:vz.cell? ⟨bY,1,none⟩=some (.int .i64 aV):=(af bD.out 1).trans rfl;have hcz43_2:vz.cell? ⟨bY,2,none⟩=some (.int .i64 dn):=(af bD.out 2).trans rfl;have hcz43_3:vz.cell? ⟨bY,3,none⟩=some (.slice jz fZ.length jA):=(af bD.out 3).trans rfl;have hcz43_4:vz.cell? ⟨bY,4,none⟩=some (.slice jS gb.length jT):=(af bD.out 4).trans rfl;have hfz43_0:=aa bD.out 0;have hfz43_1:=aa bD.out 1;have hfz43_2:=aa bD.out 2;have hfz43_3:=aa bD.out 3;have hfz43_4:=aa bD.out 4)|((with_reducible refine aY (f:=36) rfl ?_);refine bP (some 14) rfl rfl Try.func36 (by kernel_rfl) rfl #[.agg #[.int .i64 aG,.int .i64 dA],.agg #[.int .i64 aV,.int .i64 dn]] rfl (by (try simp only [List.map_toArray,List.map_cons,List.map_nil]);first|done|rfl|(simp only [List.length_drop,List.length_take];rfl)) ?_;(with_reducible refine (gQ.calls aG dA aV dn true _ A9.out).mono ?_);rintro e zP ⟨rfl,hb⟩;refine ⟨_,rfl,?_⟩;have aA:=Aside0.mk (ai (g:=bL) (o:= .cells #[.bool aH,.int .i64 aG,.int .i64 dA,.slice eA cF.length eB,.slice eH cG.length eI] 29 (0,0)) (aI bl) hb);have aC:=Aside0.mk (ai (g:=bY) (o:= .cells #[.bool bh,.int .i64 aV,.int .i64 dn,.slice jz fZ.length jA,.slice jS gb.length jT] 29 (0,0)) (aI bD) hb);have aD:=Aside0.mk (ah ax hb);clear bl;clear bD;clear HB;have bl:=aA;have bD:=aC;have HB:=aD;clear aA aC aD;(try clear hb);(try clear hb2);(try clear hk);(try clear hi);have hcz45_0:zP.cell? ⟨bL,0,none⟩=some (.bool aH):=(af bl.out 0).trans rfl;have hcz45_1:zP.cell? ⟨bL,1,none⟩=some (.int .i64 aG):=(af bl.out 1).trans rfl;have hcz45_2:zP.cell? ⟨bL,2,none⟩=some (.int .i64 dA):=(af bl.out 2).trans rfl;have hcz45_3:zP.cell? ⟨bL,3,none⟩=some (.slice eA cF.length eB):=(af bl.out 3).trans rfl;have hcz45_4:zP.cell? ⟨bL,4,none⟩=some (.slice eH cG.length eI):=(af bl.out 4).trans rfl;have hfz45_0:=aa bl.out 0;have hfz45_1:=aa bl.out 1;have hfz45_2:=aa bl.out 2;have hfz45_3:=aa bl.out 3;have hfz45_4:=aa bl.out 4;have hcz46_0:zP.cell? ⟨bY,0,none⟩=some (.bool bh):=(af bD.out 0).trans rfl;have hcz46_1:zP.cell? ⟨bY,1,none⟩=some (.int .i64 aV):=(af bD.out 1).trans rfl;have hcz46_2:zP.cell? ⟨bY,2,none⟩=some (.int .i64 dn):=(af bD.out 2).trans rfl;have hcz46_3:zP.cell? ⟨bY,3,none⟩=some (.slice jz fZ.length jA):=(af bD.out 3).trans rfl;have hcz46_4:zP.cell? ⟨bY,4,none⟩=some (.slice jS gb.length jT):=(af bD.out 4).trans rfl;have hfz46_0:=aa bD.out 0;have hfz46_1:=aa bD.out 1;have hfz46_2:=aa bD.out 2;have hfz46_3:=aa bD.out 3;have hfz46_4:=aa bD.out 4)|((with_reducible refine aY (f:=37) rfl ?_);refine bP (some 20) rfl rfl Try.func37 (by kernel_rfl) rfl #[.slice eA cF.length eB,.slice jz fZ.length jA] rfl (by (try simp only [List.map_toArray,List.map_cons,List.map_nil]);first|done|rfl|(simp only [List.length_drop,List.length_take];rfl)) ?_;(with_reducible refine (bE.calls k _ _ cF _ _ fZ false _ ?cy ?cA ?iT ?iU UK.out).mono ?_);(case cy=>repeat (first|exact (Kd.bX zh.out HB.out)|(with_reducible refine Kd.cX ?_ _)|(with_reducible refine Kd.cY ?_ _)|(with_reducible refine Kd.dB ?_)));(case cA=>exact zi.out);(case iT=>repeat (first|exact (Kd.bX Sc.out HB.out)|(with_reducible refine Kd.cX ?_ _)|(with_reducible refine Kd.cY ?_ _)|(with_reducible refine Kd.dB ?_)));(case iU=>exact Sd.out);rintro e w47 ⟨rfl,hb⟩;refine ⟨_,rfl,?_⟩;have aA:=Aside0.mk (ai (g:=bL) (o:= .cells #[.bool aH,.int .i64 aG,.int .i64 dA,.slice eA cF.length eB,.slice eH cG.length eI] 29 (0,0)) (aI bl) hb);have aC:=Aside0.mk (ai (g:=bY) (o:= .cells #[.bool bh,.int .i64 aV,.int .i64 dn,.slice jz fZ.length jA,.slice jS gb.length jT] 29 (0,0)) (aI bD) hb);have aD:=Aside0.mk (ah ax hb);clear bl;clear bD;clear HB;have bl:=aA;have bD:=aC;have HB:=aD;clear aA aC aD;(try clear hb);(try clear hb2);(try clear hk);(try clear hi)))
    go_ret
    exact ⟨by first|rfl|(simp [aQ,aR]<;>rfl)|(simp [*,aQ,aR]<;>rfl),ax⟩
  ·replace c10:=Bool.eq_false_iff.mpr c10
   subst c10
   have H1:(some false)=some r:=by rw [if_neg (show ¬(false=true) by decide)] at H;exact H
   clear H
   have H:=H1
   clear H1
   obtain rfl:=Option.some.inj H
   go_enter Try.func10,Try.ntmps10
   go_wp2_with (first|((with_reducible refine bp (N:=2) rfl ?_);refine bw ?hg (N:=2) ?hd (cs:= #[.bool aH,.int .i64 aG,.int .i64 dA,.slice eA cF.length eB,.slice eH cG.length eI]) (t:=29) ?hr ?_;(case hd=>rfl);(case hg=>rfl);(case hr=>first|(go_simp;done)|(go_simp;rfl));intro bL hg w48 aU hb;have aA:=Aside0.mk (ah ax hb);have aC:=Aside0.mk (aU);have aD:=Aside0.mk ((by rw [hg];exact (av ax):w.heap.size<=bL));have aJ:=Aside0.mk ((by rw [hg];exact (av ax):w.heap.size<=bL));clear HB;have HB:=aA;have bl:=aC;have Lm:=aD;have Ln:=aJ;clear aA aC aD aJ;clear hb aU hg)|((with_reducible refine bp (N:=3) rfl ?_);refine bw ?hg (N:=3) ?hd (cs:= #[.bool bh,.int .i64 aV,.int .i64 dn,.slice jz fZ.length jA,.slice jS gb.length jT]) (t:=29) ?hr ?_;(case hd=>rfl);(case hg=>rfl);(case hr=>first|(go_simp;done)|(go_simp;rfl));intro bY hg Ao aU hb;have aA:=Aside0.mk (ai (g:=bL) (o:= .cells #[.bool aH,.int .i64 aG,.int .i64 dA,.slice eA cF.length eB,.slice eH cG.length eI] 29 (0,0)) (aI bl) hb);have aC:=Aside0.mk (ah ax hb);have aD:=Aside0.mk (aU);have aJ:=Aside0.mk ((by rw [hg];exact (av ax):w.heap.size<=bY));have bJ:=Aside0.mk ((by rw [hg];exact (av ax):w.heap.size<=bY));have bS:=Aside0.mk ((by rw [hg];exact Nat.ne_of_lt (aZ (g:=bL) (o:= .cells #[.bool aH,.int .i64 aG,.int .i64 dA,.slice eA cF.length eB,.slice eH cG.length eI] 29 (0,0)) (aI bl)):bL≠bY));have cw:=Aside0.mk ((by rw [hg];exact Nat.ne_of_gt (aZ (g:=bL) (o:= .cells #[.bool aH,.int .i64 aG,.int .i64 dA,.slice eA cF.length eB,.slice eH cG.length eI] 29 (0,0)) (aI bl)):bY≠bL));clear bl;clear HB;have bl:=aA;have HB:=aC;have bD:=aD;have Lq:=aJ;have Lr:=bJ;have mh:=bS;have mj:=cw;clear aA aC aD aJ bJ bS cw;clear hb aU hg;have hnb50:=mh.out;have hnc50:=mj.out;have hcz51_0:Ao.cell? ⟨bL,0,none⟩=some (.bool aH):=(af bl.out 0).trans rfl;have hcz51_1:Ao.cell? ⟨bL,1,none⟩=some (.int .i64 aG):=(af bl.out 1).trans rfl;have hcz51_2:Ao.cell? ⟨bL,2,none⟩=some (.int .i64 dA):=(af bl.out 2).trans rfl;have hcz51_3:Ao.cell? ⟨bL,3,none⟩=some (.slice eA cF.length eB):=(af bl.out 3).trans rfl;have hcz51_4:Ao.cell? ⟨bL,4,none⟩=some (.slice eH cG.length eI):=(af bl.out 4).trans rfl;have hfz51_0:=aa bl.out 0;have hfz51_1:=aa bl.out 1;have hfz51_2:=aa bl.out 2;have hfz51_3:=aa bl.out 3;have hfz51_4:=aa bl.out 4;have a3S:Ao.cell? ⟨bY,0,none⟩=some (.bool bh):=(af bD.out 0).trans rfl;have a3T:Ao.cell? ⟨bY,1,none⟩=some (.int .i64 aV):=(af bD.out 1).trans rfl;have hcz52_2:Ao.cell? ⟨bY,2,none⟩=some (.int .i64 dn):=(af bD.out 2).trans rfl;have hcz52_3:Ao.cell? ⟨bY,3,none⟩=some (.slice jz fZ.length jA):=(af bD.out 3).trans rfl;have hcz52_4:Ao.cell? ⟨bY,4,none⟩=some (.slice jS gb.length jT):=(af bD.out 4).trans rfl;have a3U:=aa bD.out 0;have a3V:=aa bD.out 1;have hfz52_2:=aa bD.out 2;have hfz52_3:=aa bD.out 3;have hfz52_4:=aa bD.out 4)|((with_reducible refine aY (f:=36) rfl ?_);refine bP (some 14) rfl rfl Try.func36 (by kernel_rfl) rfl #[.agg #[.int .i64 aG,.int .i64 dA],.agg #[.int .i64 aV,.int .i64 dn]] rfl (by (try simp only [List.map_toArray,List.map_cons,List.map_nil]);first|done|rfl|(simp only [List.length_drop,List.length_take];rfl)) ?_;(with_reducible refine (gQ.calls aG dA aV dn false _ A9.out).mono ?_);rintro e w53 ⟨rfl,hb⟩;refine ⟨_,rfl,?_⟩;have aA:=Aside0.mk (ai (g:=bL) (o:= .cells #[.bool aH,.int .i64 aG,.int .i64 dA,.slice eA cF.length eB,.slice eH cG.length eI] 29 (0,0)) (aI bl) hb);have aC:=Aside0.mk (ai (g:=bY) (o:= .cells #[.bool bh,.int .i64 aV,.int .i64 dn,.slice jz fZ.length jA,.slice jS gb.length jT] 29 (0,0)) (aI bD) hb);have aD:=Aside0.mk (ah ax hb);clear bl;clear bD;clear HB;have bl:=aA;have bD:=aC;have HB:=aD;clear aA aC aD;(try clear hb);(try clear hb2);(try clear hk);(try clear hi)))
   go_ret
   exact ⟨by first|rfl|(simp [aQ,aR]<;>rfl)|(simp [*,aQ,aR]<;>rfl),ax⟩
def bO.l0:Nat->List (bM)->Int->Int->Option (Int)
 |0,_,_,_=>none
 |k+1,x0,x1,x5=>if x5<(x0.length:Int) then (if 0<=x5 then (if ((aW x0 x5).f0)=x1 then (if ((aW x0 x5).f1)=(wrap64 (x1+1)) then (bO.l0 k x0 (wrap64 ((wrap64 (x1+1))+1)) (wrap64 (x5+1))) else (some (-1))) else (some (-1))) else (none)) else (some x1)
def bO.f (k:Nat) (l0:List (bM)) (a1:Int):Option (Int):=bO.l0 k l0 a1 0
theorem bO.cI:∀k,(∀y0 y1 y2,aT (bO.l0 k y0 y1 y2) (bO.l0 (k+1) y0 y1 y2))
 |0=>fun _ _ _ r h=>by simp [bO.l0] at h
 |k+1=>by
  have dL:=bO.cI k
  ·intro y0 y1 y2
   unfold bO.l0
   repeat' first
   |(with_reducible exact dL _ _ _)
   |(with_reducible exact aT.refl _)
   |(with_reducible exact aT.none _)
   |(with_reducible refine aT.ite ?_ ?_)
   |(with_reducible refine aT.bind ?_ (fun _=>?_))
theorem bO.mono:∀a0 a1 k,aT (bO.f k a0 a1) (bO.f (k+1) a0 a1):=by
 intro a0 a1 k
 have dL:=bO.cI k
 unfold bO.f
 repeat' first
  |(with_reducible exact dL _ _ _)
  |(with_reducible exact aT.refl _)
  |(with_reducible exact aT.none _)
  |(with_reducible refine aT.ite ?_ ?_)
  |(with_reducible refine aT.bind ?_ (fun _=>?_))
set_option maxHeartbeats 8000000 in
set_option maxRecDepth 100000 in
theorem bO.calls (k:Nat) (A0:Option Addr) (c0:Nat) (l0:List (bM)) (a1:Int) (r:Int) (w:World) (fy:Kd.C eY w A0 l0.length l0) (hc0:l0.length<=c0) (h:bO.f k l0 a1=some r):
 Calls Try.prog 39 #[.slice A0 l0.length c0,.int .i64 a1] w fun e w'=>e= .returned (.int .i64 r)/\bg w w':=by
 have eE:=Aside0.mk fy
 have lR:=Aside0.mk hc0
 clear fy hc0
 have H:(bO.l0 k l0 a1 0)=some r:=h
 clear h
 have H':=Aside0.mk H
 clear H
 go_enter Try.func39,Try.ntmps39
 go_wp2
 go_loopg [1,5] k (fun kq v1 v5 w'=>∃(dV:Int) (aM:Int),v1= .int .i64 dV/\v5= .int .i64 aM/\Aside0 (bO.l0 kq l0 dV aM=some r)/\Aside0 (kq<=k)/\bg w w')
 case atStart=>exact ⟨(a1),(0),(by first|rfl|(simp;done)|(simp [*];done)),(by first|rfl|(simp;done)|(simp [*];done)),H',⟨Nat.le_refl _⟩,by repeat (first|exact bg.refl _|apply bg.step)⟩
 case round=>
  clear H'
  try clear p2
  obtain ⟨dV,aM,rfl,rfl,HA,fR,⟨m1,rfl⟩⟩:=hrel
  cases gk with
  |zero=>exact absurd HA.out (by simp [bO.l0])
  |succ k1=>
   have H:=HA.out
   clear HA
   simp only [bO.l0] at H
   by_cases c3:aM<(l0.length:Int)
   ·rw [if_pos c3] at H
    have gv:decide (aM<(l0.length:Int))=true:=decide_eq_true c3
    clear c3
    by_cases c4:0<=aM
    ·rw [if_pos c4] at H
     have kC:decide (0<=aM)=true:=decide_eq_true c4
     clear c4
     by_cases c5:((aW l0 aM).f0)=dV
     ·rw [if_pos c5] at H
      have uY:(((aW l0 aM).f0)==dV)=true:=beq_iff_eq.mpr c5
      have a6L:(((aW l0 aM).f0) !=dV)=false:=bne_eq_false_iff_eq.mpr c5
      clear c5
      by_cases c6:((aW l0 aM).f1)=(wrap64 (dV+1))
      ·rw [if_pos c6] at H
       have ov:(((aW l0 aM).f1)==(wrap64 (dV+1)))=true:=beq_iff_eq.mpr c6
       have MD:(((aW l0 aM).f1) !=(wrap64 (dV+1)))=false:=bne_eq_false_iff_eq.mpr c6
       clear c6
       have H':=Aside0.mk H
       clear H
       have vA:0<=(aM:Int):=of_decide_eq_true (by first|(with_reducible assumption)|assumption)
       have vB:aM<(l0.length:Int):=of_decide_eq_true (by first|(with_reducible assumption)|assumption)
       obtain ⟨Ls,ME,PR,PS⟩:=iN eE.out aM vA vB
       cases ME
       replace vA:=eq_true vA
       replace vB:=eq_true vB
       have DJ:0<=(aM:Int):=of_decide_eq_true (by first|(with_reducible assumption)|assumption)
       have DK:aM<(l0.length:Int):=of_decide_eq_true (by first|(with_reducible assumption)|assumption)
       obtain ⟨Sh,YT,a3W,a3X⟩:=iN eE.out aM DJ DK
       obtain rfl:Ls=Sh:=(by injection YT)
       replace DJ:=eq_true DJ
       replace DK:=eq_true DK
       go_wp2
       go_roundg k1
       case measure=>have:=fR.out;omega
       case rel=>exact ⟨(wrap64 ((wrap64 (dV+1))+1)),(wrap64 (aM+1)),(by first|rfl|(simp;done)|(simp [*];done)),(by first|rfl|(simp;done)|(simp [*];done)),H',⟨by have:=fR.out;omega⟩,by repeat (first|exact bg.refl _|apply bg.step)⟩
      ·rw [if_neg c6] at H
       have ov:(((aW l0 aM).f1)==(wrap64 (dV+1)))=false:=beq_eq_false_iff_ne.mpr c6
       have MD:(((aW l0 aM).f1) !=(wrap64 (dV+1)))=true:=bne_iff_ne.mpr c6
       obtain rfl:=Option.some.inj H
       have vA:0<=(aM:Int):=of_decide_eq_true (by first|(with_reducible assumption)|assumption)
       have vB:aM<(l0.length:Int):=of_decide_eq_true (by first|(with_reducible assumption)|assumption)
       obtain ⟨Ls,ME,PR,PS⟩:=iN eE.out aM vA vB
       cases ME
       replace vA:=eq_true vA
       replace vB:=eq_true vB
       have DJ:0<=(aM:Int):=of_decide_eq_true (by first|(with_reducible assumption)|assumption)
       have DK:aM<(l0.length:Int):=of_decide_eq_true (by first|(with_reducible assumption)|assumption)
       obtain ⟨Sh,YT,a3W,a3X⟩:=iN eE.out aM DJ DK
       obtain rfl:Ls=Sh:=(by injection YT)
       replace DJ:=eq_true DJ
       replace DK:=eq_true DK
       go_wp2
       go_ret
       exact ⟨by first|rfl|(simp;done)|(simp [*];done),by repeat (first|exact bg.refl _|apply bg.step)⟩
     ·rw [if_neg c5] at H
      have uY:(((aW l0 aM).f0)==dV)=false:=beq_eq_false_iff_ne.mpr c5
      have a6L:(((aW l0 aM).f0) !=dV)=true:=bne_iff_ne.mpr c5
      obtain rfl:=Option.some.inj H
      have vA:0<=(aM:Int):=of_decide_eq_true (by first|(with_reducible assumption)|assumption)
      have vB:aM<(l0.length:Int):=of_decide_eq_true (by first|(with_reducible assumption)|assumption)
      obtain ⟨Ls,ME,PR,PS⟩:=iN eE.out aM vA vB
      cases ME
      replace vA:=eq_true vA
      replace vB:=eq_true vB
      go_wp2
      go_ret
      exact ⟨by first|rfl|(simp;done)|(simp [*];done),by repeat (first|exact bg.refl _|apply bg.step)⟩
    ·rw [if_neg c4] at H
     exact absurd H (by simp)
   ·rw [if_neg c3] at H
    have gv:decide (aM<(l0.length:Int))=false:=decide_eq_false c3
    clear c3
    obtain rfl:=Option.some.inj H
    go_wp2
    go_ret
    exact ⟨by first|rfl|(simp;done)|(simp [*];done),by repeat (first|exact bg.refl _|apply bg.step)⟩
def iu.f (k:Nat) (aH:Bool) (aG:Int) (dA:Int) (cF:List (bM)) (cG:List (bM)) (a1:Int):Option (Int):=(bO.f k cF a1).bind fun ow=>(if ow<0 then (some (-1)) else ((bO.f k cG ow).bind fun qh=>(if qh<0 then (some (-1)) else (some qh))))
theorem iu.mono:∀a0 a1 a2 a3 a4 a5 k,aT (iu.f k a0 a1 a2 a3 a4 a5) (iu.f (k+1) a0 a1 a2 a3 a4 a5):=by
 intro a0 a1 a2 a3 a4 a5 k
 unfold iu.f
 repeat' first
  |(with_reducible exact bO.mono _ _ _)
  |(with_reducible exact aT.refl _)
  |(with_reducible exact aT.none _)
  |(with_reducible refine aT.ite ?_ ?_)
  |(with_reducible refine aT.bind ?_ (fun _=>?_))
set_option maxHeartbeats 8000000 in
set_option maxRecDepth 100000 in
theorem iu.calls (k:Nat) (aH:Bool) (aG:Int) (dA:Int) (eA:Option Addr) (eB:Nat) (cF:List (bM)) (eH:Option Addr) (eI:Nat) (cG:List (bM)) (a1:Int) (r:Int) (w:World) (EU:Kd.C eY w eA cF.length cF) (EW:cF.length<=eB) (EX:Kd.C eY w eH cG.length cG) (EY:cG.length<=eI) (h:iu.f k aH aG dA cF cG a1=some r):
 Calls Try.prog 16 #[.agg #[.bool aH,.int .i64 aG,.int .i64 dA,.slice eA cF.length eB,.slice eH cG.length eI],.int .i64 a1] w fun e w'=>e= .returned (.int .i64 r)/\Below w.heap.size w w':=by
 have YS:=Try.underlying29
 have zh:=Aside0.mk EU
 have zi:=Aside0.mk EW
 clear EU EW
 have EZ:=Aside0.mk EX
 have Fa:=Aside0.mk EY
 clear EX EY
 have HB:=Aside0.mk (Below.refl w.heap.size w)
 have H:((bO.f k cF a1).bind fun ow=>(if ow<0 then (some (-1)) else ((bO.f k cG ow).bind fun qh=>(if qh<0 then (some (-1)) else (some qh)))))=some r:=h
 clear h
 replace H:=Option.bind_eq_some_iff.mp H
 obtain ⟨ow,jc,H⟩:=H
 replace H:(if ow<0 then (some (-1)) else ((bO.f k cG ow).bind fun qh=>(if qh<0 then (some (-1)) else (some qh))))=some r:=H
 have A3:=Aside0.mk jc
 clear jc
 by_cases c4:ow<0
 ·rw [if_pos c4] at H
  have kC:decide (ow<0)=true:=decide_eq_true c4
  clear c4
  obtain rfl:=Option.some.inj H
  go_enter Try.func16,Try.ntmps16
  go_wp2_with (first|((with_reducible refine bp (N:=2) rfl ?_);refine bw ?hg (N:=2) ?hd (cs:= #[.bool aH,.int .i64 aG,.int .i64 dA,.slice eA cF.length eB,.slice eH cG.length eI]) (t:=29) ?hr ?_;(case hd=>rfl);(case hg=>rfl);(case hr=>first|(go_simp;done)|(go_simp;rfl));intro jB hg w5 aU hb;have aA:=Aside0.mk (ah ax hb);have aC:=Aside0.mk (aU);have aD:=Aside0.mk ((by rw [hg];exact (av ax):w.heap.size<=jB));have aJ:=Aside0.mk ((by rw [hg];exact (av ax):w.heap.size<=jB));clear HB;have HB:=aA;have fW:=aC;have a1F:=aD;have a1G:=aJ;clear aA aC aD aJ;clear hb aU hg;have MF:w5.cell? ⟨jB,0,none⟩=some (.bool aH):=(af fW.out 0).trans rfl;have MG:w5.cell? ⟨jB,1,none⟩=some (.int .i64 aG):=(af fW.out 1).trans rfl;have hcz6_2:w5.cell? ⟨jB,2,none⟩=some (.int .i64 dA):=(af fW.out 2).trans rfl;have hcz6_3:w5.cell? ⟨jB,3,none⟩=some (.slice eA cF.length eB):=(af fW.out 3).trans rfl;have hcz6_4:w5.cell? ⟨jB,4,none⟩=some (.slice eH cG.length eI):=(af fW.out 4).trans rfl;have MH:=aa fW.out 0;have MI:=aa fW.out 1;have hfz6_2:=aa fW.out 2;have hfz6_3:=aa fW.out 3;have hfz6_4:=aa fW.out 4)|((with_reducible refine aY (f:=39) rfl ?_);refine bP (some 8) rfl rfl Try.func39 (by kernel_rfl) rfl #[.slice eA cF.length eB,.int .i64 a1] rfl (by (try simp only [List.map_toArray,List.map_cons,List.map_nil]);first|done|rfl|(simp only [List.length_drop,List.length_take];rfl)) ?_;(with_reducible refine (bO.calls k _ _ cF a1 ow _ ?cy ?cA A3.out).mono ?_);(case cy=>repeat (first|exact (Kd.bX zh.out HB.out)|(with_reducible refine Kd.cX ?_ _)|(with_reducible refine Kd.cY ?_ _)|(with_reducible refine Kd.dB ?_)));(case cA=>exact zi.out);rintro e w' ⟨rfl,⟨nd,rfl⟩⟩;refine ⟨_,rfl,?_⟩))
  go_ret
  exact ⟨by first|rfl|(simp [aQ,aR]<;>rfl)|(simp [*,aQ,aR]<;>rfl),ax⟩
 ·rw [if_neg c4] at H
  have kC:decide (ow<0)=false:=decide_eq_false c4
  clear c4
  replace H:=Option.bind_eq_some_iff.mp H
  obtain ⟨qh,Am,H⟩:=H
  replace H:(if qh<0 then (some (-1)) else (some qh))=some r:=H
  have A7:=Aside0.mk Am
  clear Am
  by_cases c8:qh<0
  ·rw [if_pos c8] at H
   have su:decide (qh<0)=true:=decide_eq_true c8
   clear c8
   obtain rfl:=Option.some.inj H
   go_enter Try.func16,Try.ntmps16
   go_wp2_with (first|((with_reducible refine bp (N:=2) rfl ?_);refine bw ?hg (N:=2) ?hd (cs:= #[.bool aH,.int .i64 aG,.int .i64 dA,.slice eA cF.length eB,.slice eH cG.length eI]) (t:=29) ?hr ?_;(case hd=>rfl);(case hg=>rfl);(case hr=>first|(go_simp;done)|(go_simp;rfl));intro jB hg w9 aU hb;have aA:=Aside0.mk (ah ax hb);have aC:=Aside0.mk (aU);have aD:=Aside0.mk ((by rw [hg];exact (av ax):w.heap.size<=jB));have aJ:=Aside0.mk ((by rw [hg];exact (av ax):w.heap.size<=jB));clear HB;have HB:=aA;have fW:=aC;have a1F:=aD;have a1G:=aJ;clear aA aC aD aJ;clear hb aU hg;have Ig:w9.cell? ⟨jB,0,none⟩=some (.bool aH):=(af fW.out 0).trans rfl;have Ih:w9.cell? ⟨jB,1,none⟩=some (.int .i64 aG):=(af fW.out 1).trans rfl;have a3Y:w9.cell? ⟨jB,2,none⟩=some (.int .i64 dA):=(af fW.out 2).trans rfl;have a3Z:w9.cell? ⟨jB,3,none⟩=some (.slice eA cF.length eB):=(af fW.out 3).trans rfl;have a4a:w9.cell? ⟨jB,4,none⟩=some (.slice eH cG.length eI):=(af fW.out 4).trans rfl;have Ii:=aa fW.out 0;have Ij:=aa fW.out 1;have a4b:=aa fW.out 2;have a4c:=aa fW.out 3;have a4d:=aa fW.out 4)|((with_reducible refine aY (f:=39) rfl ?_);refine bP (some 8) rfl rfl Try.func39 (by kernel_rfl) rfl #[.slice eA cF.length eB,.int .i64 a1] rfl (by (try simp only [List.map_toArray,List.map_cons,List.map_nil]);first|done|rfl|(simp only [List.length_drop,List.length_take];rfl)) ?_;(with_reducible refine (bO.calls k _ _ cF a1 ow _ ?cy ?cA A3.out).mono ?_);(case cy=>repeat (first|exact (Kd.bX zh.out HB.out)|(with_reducible refine Kd.cX ?_ _)|(with_reducible refine Kd.cY ?_ _)|(with_reducible refine Kd.dB ?_)));(case cA=>exact zi.out);rintro e w' ⟨rfl,⟨nd,rfl⟩⟩;refine ⟨_,rfl,?_⟩)|((with_reducible refine aY (f:=39) rfl ?_);refine bP (some 14) rfl rfl Try.func39 (by kernel_rfl) rfl #[.slice eH cG.length eI,.int .i64 ow] rfl (by (try simp only [List.map_toArray,List.map_cons,List.map_nil]);first|done|rfl|(simp only [List.length_drop,List.length_take];rfl)) ?_;(with_reducible refine (bO.calls k _ _ cG ow qh _ ?cy ?cA A7.out).mono ?_);(case cy=>repeat (first|exact (Kd.bX EZ.out ax)|(with_reducible refine Kd.cX ?_ _)|(with_reducible refine Kd.cY ?_ _)|(with_reducible refine Kd.dB ?_)));(case cA=>exact Fa.out);rintro e w' ⟨rfl,⟨nd,rfl⟩⟩;refine ⟨_,rfl,?_⟩))
   go_ret
   exact ⟨by first|rfl|(simp [aQ,aR]<;>rfl)|(simp [*,aQ,aR]<;>rfl),ax⟩
  ·rw [if_neg c8] at H
   have su:decide (qh<0)=false:=decide_eq_false c8
   clear c8
   obtain rfl:=Option.some.inj H
   go_enter Try.func16,Try.ntmps16
   go_wp2_with (first|((with_reducible refine bp (N:=2) rfl ?_);refine bw ?hg (N:=2) ?hd (cs:= #[.bool aH,.int .i64 aG,.int .i64 dA,.slice eA cF.length eB,.slice eH cG.length eI]) (t:=29) ?hr ?_;(case hd=>rfl);(case hg=>rfl);(case hr=>first|(go_simp;done)|(go_simp;rfl));intro jB hg ja aU hb;have aA:=Aside0.mk (ah ax hb);have aC:=Aside0.mk (aU);have aD:=Aside0.mk ((by rw [hg];exact (av ax):w.heap.size<=jB));have aJ:=Aside0.mk ((by rw [hg];exact (av ax):w.heap.size<=jB));clear HB;have HB:=aA;have fW:=aC;have a1F:=aD;have a1G:=aJ;clear aA aC aD aJ;clear hb aU hg;have hcz12_0:ja.cell? ⟨jB,0,none⟩=some (.bool aH):=(af fW.out 0).trans rfl;have hcz12_1:ja.cell? ⟨jB,1,none⟩=some (.int .i64 aG):=(af fW.out 1).trans rfl;have hcz12_2:ja.cell? ⟨jB,2,none⟩=some (.int .i64 dA):=(af fW.out 2).trans rfl;have hcz12_3:ja.cell? ⟨jB,3,none⟩=some (.slice eA cF.length eB):=(af fW.out 3).trans rfl;have hcz12_4:ja.cell? ⟨jB,4,none⟩=some (.slice eH cG.length eI):=(af fW.out 4).trans rfl;have hfz12_0:=aa fW.out 0;have hfz12_1:=aa fW.out 1;have hfz12_2:=aa fW.out 2;have hfz12_3:=aa fW.out 3;have hfz12_4:=aa fW.out 4)|((with_reducible refine aY (f:=39) rfl ?_);refine bP (some 8) rfl rfl Try.func39 (by kernel_rfl) rfl #[.slice eA cF.length eB,.int .i64 a1] rfl (by (try simp only [List.map_toArray,List.map_cons,List.map_nil]);first|done|rfl|(simp only [List.length_drop,List.length_take];rfl)) ?_;(with_reducible refine (bO.calls k _ _ cF a1 ow _ ?cy ?cA A3.out).mono ?_);(case cy=>repeat (first|exact (Kd.bX zh.out HB.out)|(with_reducible refine Kd.cX ?_ _)|(with_reducible refine Kd.cY ?_ _)|(with_reducible refine Kd.dB ?_)));(case cA=>exact zi.out);rintro e w' ⟨rfl,⟨nd,rfl⟩⟩;refine ⟨_,rfl,?_⟩)|((with_reducible refine aY (f:=39) rfl ?_);refine bP (some 14) rfl rfl Try.func39 (by kernel_rfl) rfl #[.slice eH cG.length eI,.int .i64 ow] rfl (by (try simp only [List.map_toArray,List.map_cons,List.map_nil]);first|done|rfl|(simp only [List.length_drop,List.length_take];rfl)) ?_;(with_reducible refine (bO.calls k _ _ cG ow qh _ ?cy ?cA A7.out).mono ?_);(case cy=>repeat (first|exact (Kd.bX EZ.out ax)|(with_reducible refine Kd.cX ?_ _)|(with_reducible refine Kd.cY ?_ _)|(with_reducible refine Kd.dB ?_)));(case cA=>exact Fa.out);rintro e w' ⟨rfl,⟨nd,rfl⟩⟩;refine ⟨_,rfl,?_⟩))
   go_ret
   exact ⟨by first|rfl|(simp [aQ,aR]<;>rfl)|(simp [*,aQ,aR]<;>rfl),ax⟩
def bQ.l0:Nat->List (bM)->Int->Int->Option (Int×(List (bM)))
 |0,_,_,_=>none
 |k+1,x0,x1,x5=>if x5<(x0.length:Int) then (if 0<=x5 then ((some (x0.set (x5:Int).toNat (⟨x1,(aW x0 x5).f1⟩:bM):List (bM))).bind fun sB=>(bQ.l0 k (sB.set (x5:Int).toNat (⟨(aW sB x5).f0,wrap64 (x1+1)⟩:bM)) (wrap64 ((wrap64 (x1+1))+1)) (wrap64 (x5+1)))) else (none)) else (some (x1,x0))
def bQ.f (k:Nat) (l0:List (bM)) (a1:Int):Option (Int×(List (bM))):=bQ.l0 k l0 a1 0
theorem bQ.cI:∀k,(∀y0 y1 y2,aT (bQ.l0 k y0 y1 y2) (bQ.l0 (k+1) y0 y1 y2))
 |0=>fun _ _ _ r h=>by simp [bQ.l0] at h
 |k+1=>by
  have dL:=bQ.cI k
  ·intro y0 y1 y2
   unfold bQ.l0
   repeat' first
   |(with_reducible exact dL _ _ _)
   |(with_reducible exact aT.refl _)
   |(with_reducible exact aT.none _)
   |(with_reducible refine aT.ite ?_ ?_)
   |(with_reducible refine aT.bind ?_ (fun _=>?_))
theorem bQ.mono:∀a0 a1 k,aT (bQ.f k a0 a1) (bQ.f (k+1) a0 a1):=by
 intro a0 a1 k
 have dL:=bQ.cI k
 unfold bQ.f
 repeat' first
  |(with_reducible exact dL _ _ _)
  |(with_reducible exact aT.refl _)
  |(with_reducible exact aT.none _)
  |(with_reducible refine aT.ite ?_ ?_)
  |(with_reducible refine aT.bind ?_ (fun _=>?_))
set_option maxHeartbeats 8000000 in
set_option maxRecDepth 100000 in
theorem bQ.calls (k:Nat) (nX:Nat->Prop) (kD:Value) (l0:List (bM)) (a1:Int) (r1:Int) (r2:List (bM)) (w0 w:World) (hB:Below w0.heap.size w0 w) (tH:Kd.R eY 26 w w0.heap.size nX kD l0) (h:bQ.f k l0 a1=some (r1,r2)):
 Calls Try.prog 38 #[kD,.int .i64 a1] w fun e w'=>e= .returned (.int .i64 r1)/\Kd.R eY 26 w' w0.heap.size (fun k_=>(nX k_∨w.heap.size<=k_)) kD r2/\Below w0.heap.size w0 w'/\Kept w w' (fun k_=>nX k_):=by
 have HO0:=Aside0.mk (show Kd.R eY 26 w w0.heap.size (fun k_=>(nX k_∨w.heap.size<=k_)) kD l0 from Kd.dD tH (fun k_ hk=>(.inl hk)))
 have HK:=Aside0.mk (Kept.refl w (fun k_=>nX k_))
 have HW0:=Aside0.mk hB.size
 have HB:=Aside0.mk hB
 clear hB
 have H:(bQ.l0 k l0 a1 0)=some (r1,r2):=h
 clear h
 have H':=Aside0.mk H
 clear H
 go_enter Try.func38,Try.ntmps38
 go_wp2
 go_loopg [1,5] k (fun kq v1 v5 w'=>∃(fB:List (bM)) (dV:Int) (aM:Int),v1= .int .i64 dV/\v5= .int .i64 aM/\Aside0 (bQ.l0 kq fB dV aM=some (r1,r2))/\Aside0 (kq<=k)/\Aside0 (Kd.R eY 26 w' w0.heap.size (fun k_=>(nX k_∨w.heap.size<=k_)) kD fB)/\Aside0 (Kept w w' (fun k_=>nX k_))/\Aside0 (Below w0.heap.size w0 w'))
 case atStart=>exact ⟨(l0),(a1),(0),(by first|rfl|(simp;done)|(simp [*];done)),(by first|rfl|(simp;done)|(simp [*];done)),H',⟨Nat.le_refl _⟩,⟨by (with_reducible repeat (first|apply Kd.dz|apply Kd.dG|apply Kd.ez));exact HO0.out⟩,⟨by repeat (first|(with_reducible first|exact HK.out|apply Kept.alloc|apply Kept.drewN|apply Kept.drew)|exact HK.out)⟩,⟨ax⟩⟩
 case round=>
  clear H'
  try clear p2
  obtain ⟨fB,dV,aM,rfl,rfl,HA,fR,fC,HK,HB⟩:=hrel
  cases gk with
  |zero=>exact absurd HA.out (by simp [bQ.l0])
  |succ k1=>
   have H:=HA.out
   clear HA
   simp only [bQ.l0] at H
   by_cases c3:aM<(fB.length:Int)
   ·rw [if_pos c3] at H
    have gv:decide (aM<(fB.length:Int))=true:=decide_eq_true c3
    clear c3
    by_cases c4:0<=aM
    ·rw [if_pos c4] at H
     have kC:decide (0<=aM)=true:=decide_eq_true c4
     clear c4
     obtain ⟨sB,Fb⟩:∃y_:List (bM),y_=(fB.set (aM:Int).toNat (⟨dV,(aW fB aM).f1⟩:bM)):=⟨_,rfl⟩
     replace H:(bQ.l0 k1 (sB.set (aM:Int).toNat (⟨(aW sB aM).f0,wrap64 (dV+1)⟩:bM)) (wrap64 ((wrap64 (dV+1))+1)) (wrap64 (aM+1)))=some (r1,r2):=by first|(rw [Fb];with_reducible exact H)|(have dZ:=(Option.bind_some _ _).symm.trans H;rw [Fb];with_reducible exact dZ)|(have dZ:=(Option.bind_some _ _).symm.trans H;with_reducible exact dZ)|with_reducible exact H|(rw [Fb];exact H)|exact H
     have b0I:=Aside0.mk Fb
     clear Fb
     obtain ⟨YU,Fe⟩:∃y_:List (bM),y_=(sB.set (aM:Int).toNat (⟨(aW sB aM).f0,wrap64 (dV+1)⟩:bM)):=⟨_,rfl⟩
     replace H:(bQ.l0 k1 YU (wrap64 ((wrap64 (dV+1))+1)) (wrap64 (aM+1)))=some (r1,r2):=by first|(rw [Fe];with_reducible exact H)|(have dZ:=(Option.bind_some _ _).symm.trans H;rw [Fe];with_reducible exact dZ)|(have dZ:=(Option.bind_some _ _).symm.trans H;with_reducible exact dZ)|with_reducible exact H|(rw [Fe];exact H)|exact H
     have b0J:=Aside0.mk Fe
     clear Fe
     have H':=Aside0.mk H
     clear H
     obtain ⟨Ao7,co7,eo7⟩:=Kd.eJ fC.out
     subst eo7
     have p5:0<=(aM:Int):=of_decide_eq_true (by first|(with_reducible assumption)|assumption)
     have q5:(aM:Int)<((fB.length:Int):Int):=of_decide_eq_true (by first|(with_reducible assumption)|assumption)
     obtain ⟨oz,ET,Mq,UE,gl5,cl5,UF⟩:=Kd.EE fC.out (by omega)
     (first|cases Mq|(injection Mq with rG Mm Mn;(first|subst rG|(injection rG with rG;subst rG));subst Mn;clear Mm))
     have GB5:=Aside0.mk UE
     have GG5:=Aside0.mk UF
     clear UE gl5 UF
     have b0z:=Aside0.mk (show (nX oz∨w.heap.size<=oz) from (fC.out.1 _ rfl))
     obtain ⟨ce5,b4J,hM5,YV,YW⟩:=Kd.Ai fC.out z26 (aM:Int) p5 q5
     obtain rfl:=oY hM5
     have b0A:wr.cell? ⟨oz,(aM:Int).toNat*2,none⟩=some (.int .i64 ((aW fB aM).f0)):=YV 0 _ rfl
     have hx5_1:wr.cell? ⟨oz,(aM:Int).toNat*2+1,none⟩=some (.int .i64 ((aW fB aM).f1)):=YV 1 _ rfl
     have b0B:wr.frozen? ⟨oz,(aM:Int).toNat*2,none⟩=false:=YW 0
     have hf5_1:wr.frozen? ⟨oz,(aM:Int).toNat*2+1,none⟩=false:=YW 1
     clear b4J YV YW;(try clear hM5)
     replace p5:=eq_true p5
     replace q5:=eq_true q5
     have pn:=Aside0.mk (show Kd.R eY 26 wr w0.heap.size (fun k_=>(nX k_∨w.heap.size<=k_)) (.slice (some ⟨oz,0,none⟩) fB.length co7) fB from (by (with_reducible repeat (first|apply Kd.dz|apply Kd.dG|apply Kd.ez));exact fC.out))
     obtain ⟨ce8,a6M,hM8,YX,a6N⟩:=Kd.Ai pn.out z26 (aM:Int) (of_decide_eq_true (by first|(with_reducible assumption)|assumption)) (by have h_:(aM:Int)<((fB.length:Int):Int):=of_decide_eq_true (by first|(with_reducible assumption)|assumption);first|exact h_|(have e_:=(Kd.jZ fC.out).1;omega)|simpa using h_)
     obtain rfl:=oY hM8
     have UL:=Kd.RJ pn.out (aM:Int) (of_decide_eq_true (by first|(with_reducible assumption)|assumption)) (by have h_:(aM:Int)<((fB.length:Int):Int):=of_decide_eq_true (by first|(with_reducible assumption)|assumption);first|exact h_|(have e_:=(Kd.jZ fC.out).1;omega)|simpa using h_) (seg:=[.int .i64 dV]) (j:=0) a6M YX (show 1<=2 from by decide) (x':=(⟨dV,(aW fB aM).f1⟩:bM)) (uQ _ _ _ (⟨dV,(aW fB aM).f1⟩:bM)) (fun _ hk=>hk)
     have b0K:=YX 0 _ rfl
     (try simp only [show (eY).sz=2 from rfl,Nat.mul_one,Nat.add_zero] at b0K)
     have b0L:=a6N 0
     (try simp only [show (eY).sz=2 from rfl,Nat.mul_one,Nat.add_zero] at b0L)
     clear a6M YX a6N;(try clear hM8)
     go_wp2_with (first|((with_reducible refine iR (t:=3) (p:=16) rfl ?_);refine qm (t:=3) (p:=16) (v:=?vo_w9) (w1:=(wr.setCell ⟨oz,(aM:Int).toNat*2,none⟩ (.int .i64 dV))) ?hg ?ho ?hn ?hr ?_;(case ho=>rfl);(case hg=>rfl);(case hn=>rfl);(case hr=>first|(go_simp;done)|(go_simp;rfl)|((try (obtain ⟨_,_,e_⟩:=Kd.eJ fC.out;rw [e_]));(try (obtain ⟨_,_,e_⟩:=Kd.od fC.out;rw [e_]));(try (obtain ⟨_,_,e_⟩:=Kd.uN fC.out;rw [e_]));(try (obtain ⟨_,_,e_⟩:=Kd.uO fC.out;rw [e_]));go_simp;first|done|rfl));intro w9 hw;have hg:wr.grownBy w9 (some oz):=(by rw [hw];exact UL.2);have wk:Kd.R eY 26 w9 w0.heap.size (fun k_=>(nX k_∨w.heap.size<=k_)) (.slice (some ⟨oz,0,none⟩) fB.length co7) sB:=(by rw [hw,b0I.out];exact UL.1);clear UL;have aA:=Aside0.mk (wk);have aC:=Aside0.mk ((by rw [hw];exact bC (HB.out) GB5.out:Below w0.heap.size w0 w9));have aD:=Aside0.mk (Kept.yX (S:=(fun k_=>nX k_)) hg (by repeat (first|(with_reducible first|exact HK.out|apply Kept.alloc|apply Kept.drewN|apply Kept.drew)|exact HK.out)) (fun k_ e_=>(fC.out.1 k_ e_)));clear fC;clear HB;clear HK;have fC:=aA;have HB:=aC;have HK:=aD;clear aA aC aD;clear hg hw wk;have p6:0<=(aM:Int):=of_decide_eq_true (by first|(with_reducible assumption)|assumption);have q6:(aM:Int)<((fB.length:Int):Int):=of_decide_eq_true (by first|(with_reducible assumption)|assumption);obtain ⟨ce6,b4K,hM6,YY,YZ⟩:=Kd.Ai fC.out z26 (aM:Int) p6 q6;obtain rfl:=oY hM6;have hx6_0:w9.cell? ⟨oz,(aM:Int).toNat*2,none⟩=some (.int .i64 ((aW sB aM).f0)):=YY 0 _ rfl;have hx6_1:w9.cell? ⟨oz,(aM:Int).toNat*2+1,none⟩=some (.int .i64 ((aW sB aM).f1)):=YY 1 _ rfl;have hf6_0:w9.frozen? ⟨oz,(aM:Int).toNat*2,none⟩=false:=YZ 0;have hf6_1:w9.frozen? ⟨oz,(aM:Int).toNat*2+1,none⟩=false:=YZ 1;clear b4K YY YZ;(try clear hM6);replace p6:=eq_true p6;replace q6:=eq_true q6;have a6O:=Aside0.mk (show Kd.R eY 26 w9 w0.heap.size (fun k_=>(nX k_∨w.heap.size<=k_)) (.slice (some ⟨oz,0,none⟩) fB.length co7) sB from (by (with_reducible repeat (first|apply Kd.dz|apply Kd.dG|apply Kd.ez));exact fC.out));obtain ⟨b4E,Ll,Mo,BN,EP⟩:=Kd.Ai a6O.out z26 (aM:Int) (of_decide_eq_true (by first|(with_reducible assumption)|assumption)) (by have h_:(aM:Int)<((fB.length:Int):Int):=of_decide_eq_true (by first|(with_reducible assumption)|assumption);first|exact h_|(have e_:=(Kd.jZ fC.out).1;omega)|simpa using h_);obtain rfl:=oY Mo;have Dq:=Kd.RJ a6O.out (aM:Int) (of_decide_eq_true (by first|(with_reducible assumption)|assumption)) (by have h_:(aM:Int)<((fB.length:Int):Int):=of_decide_eq_true (by first|(with_reducible assumption)|assumption);first|exact h_|(have e_:=(Kd.jZ fC.out).1;omega)|simpa using h_) (seg:=[.int .i64 (wrap64 (dV+1))]) (j:=1) Ll BN (show 2<=2 from by decide) (x':=(⟨(aW sB aM).f0,wrap64 (dV+1)⟩:bM)) (uQ _ _ _ (⟨(aW sB aM).f0,wrap64 (dV+1)⟩:bM)) (fun _ hk=>hk);have a6P:=BN 1 _ rfl;(try simp only [show (eY).sz=2 from rfl,Nat.mul_one,Nat.add_zero] at a6P);have a6Q:=EP 1;(try simp only [show (eY).sz=2 from rfl,Nat.mul_one,Nat.add_zero] at a6Q);clear Ll BN EP;(try clear Mo))|((with_reducible refine iR (t:=3) (p:=23) rfl ?_);refine qm (t:=3) (p:=23) (v:=?a5Z) (w1:=(w9.setCell ⟨oz,(aM:Int).toNat*2+1,none⟩ (.int .i64 (wrap64 (dV+1))))) ?hg ?ho ?hn ?hr ?_;(case ho=>rfl);(case hg=>rfl);(case hn=>rfl);(case hr=>first|(go_simp;done)|(go_simp;rfl)|((try (obtain ⟨_,_,e_⟩:=Kd.eJ fC.out;rw [e_]));(try (obtain ⟨_,_,e_⟩:=Kd.od fC.out;rw [e_]));(try (obtain ⟨_,_,e_⟩:=Kd.uN fC.out;rw [e_]));(try (obtain ⟨_,_,e_⟩:=Kd.uO fC.out;rw [e_]));go_simp;first|done|rfl));intro ja hw;have hg:w9.grownBy ja (some oz):=(by rw [hw];exact Dq.2);have wk:Kd.R eY 26 ja w0.heap.size (fun k_=>(nX k_∨w.heap.size<=k_)) (.slice (some ⟨oz,0,none⟩) fB.length co7) YU:=(by rw [hw,b0J.out];exact Dq.1);clear Dq;have aA:=Aside0.mk (wk);have aC:=Aside0.mk ((by rw [hw];exact bC (HB.out) GB5.out:Below w0.heap.size w0 ja));have aD:=Aside0.mk (Kept.yX (S:=(fun k_=>nX k_)) hg (by repeat (first|(with_reducible first|exact HK.out|apply Kept.alloc|apply Kept.drewN|apply Kept.drew)|exact HK.out)) (fun k_ e_=>(fC.out.1 k_ e_)));clear fC;clear HB;clear HK;have fC:=aA;have HB:=aC;have HK:=aD;clear aA aC aD;clear hg hw wk))
     go_roundg k1
     case measure=>have:=fR.out;omega
     case rel=>exact ⟨(YU),(wrap64 ((wrap64 (dV+1))+1)),(wrap64 (aM+1)),(by first|rfl|(simp;done)|(simp [*];done)),(by first|rfl|(simp;done)|(simp [*];done)),H',⟨by have:=fR.out;omega⟩,⟨by (with_reducible repeat (first|apply Kd.dz|apply Kd.dG|apply Kd.ez));exact fC.out⟩,⟨by repeat (first|(with_reducible first|exact HK.out|apply Kept.alloc|apply Kept.drewN|apply Kept.drew)|exact HK.out)⟩,⟨ax⟩⟩
    ·rw [if_neg c4] at H
     exact absurd H (by simp)
   ·rw [if_neg c3] at H
    have gv:decide (aM<(fB.length:Int))=false:=decide_eq_false c3
    clear c3
    simp only [Option.some.injEq,Prod.mk.injEq] at H
    obtain ⟨rfl,rfl⟩:=H
    obtain ⟨Ao12,co12,b4L⟩:=Kd.eJ fC.out
    subst b4L
    go_wp2
    go_ret
    exact ⟨by first|rfl|(simp [aQ,aR]<;>rfl)|(simp [*,aQ,aR]<;>rfl),by (with_reducible repeat (first|apply Kd.dz|apply Kd.dG|apply Kd.ez));exact fC.out,ax,by repeat (first|(with_reducible first|exact HK.out|apply Kept.alloc|apply Kept.drewN|apply Kept.drew)|exact HK.out)⟩
def iw.f (k:Nat) (aH:Bool) (aG:Int) (dA:Int) (cF:List (bM)) (cG:List (bM)) (a1:Int):Option (Int×(List (bM))×(List (bM))):=(bQ.f k cF a1).bind fun Ff=>((bQ.f k cG Ff.1).bind fun wu=>(some (wu.1,Ff.2,wu.2)))
theorem iw.mono:∀a0 a1 a2 a3 a4 a5 k,aT (iw.f k a0 a1 a2 a3 a4 a5) (iw.f (k+1) a0 a1 a2 a3 a4 a5):=by
 intro a0 a1 a2 a3 a4 a5 k
 unfold iw.f
 repeat' first
  |(with_reducible exact bQ.mono _ _ _)
  |(with_reducible exact aT.refl _)
  |(with_reducible exact aT.none _)
  |(with_reducible refine aT.ite ?_ ?_)
  |(with_reducible refine aT.bind ?_ (fun _=>?_))
set_option maxHeartbeats 8000000 in
set_option maxRecDepth 100000 in
theorem iw.calls (k:Nat) (aH:Bool) (aG:Int) (dA:Int) (nI:Nat->Prop) (kD:Value) (cF:List (bM)) (nJ:Nat->Prop) (Ap:Value) (cG:List (bM)) (a1:Int) (r1:Int) (r2:List (bM)) (r3:List (bM)) (w0 w:World) (hB:Below w0.heap.size w0 w) (a1I:Kd.R eY 26 w w0.heap.size nI kD cF) (UM:∀k_,nI k_->¬nJ k_) (a1J:Kd.R eY 26 w w0.heap.size nJ Ap cG) (UN:∀k_,nJ k_->¬nI k_) (h:iw.f k aH aG dA cF cG a1=some (r1,r2,r3)):
 Calls Try.prog 15 #[.agg #[.bool aH,.int .i64 aG,.int .i64 dA,kD,Ap],.int .i64 a1] w fun e w'=>e= .returned (.int .i64 r1)/\Kd.R eY 26 w' w0.heap.size (fun k_=>((nI k_∨nJ k_)∨w.heap.size<=k_)) kD r2/\Kd.R eY 26 w' w0.heap.size (fun k_=>((nI k_∨nJ k_)∨w.heap.size<=k_)) Ap r3/\Below w0.heap.size w0 w'/\Kept w w' (fun k_=>nI k_∨nJ k_):=by
 have YS:=Try.underlying29
 have oD:=Aside0.mk (show Kd.R eY 26 w w0.heap.size (fun k_=>((nI k_∨nJ k_)∨w.heap.size<=k_)/\some k_≠(Ap:Value).ownBlock) kD cF from Kd.dD a1I (fun k_ hk=>⟨(.inl (.inl hk)),fun e_=>UM k_ hk (a1J.1 k_ e_.symm)⟩))
 have oF:=Aside0.mk (show Kd.R eY 26 w w0.heap.size (fun k_=>((nI k_∨nJ k_)∨w.heap.size<=k_)/\some k_≠(kD:Value).ownBlock) Ap cG from Kd.dD a1J (fun k_ hk=>⟨(.inl (.inr hk)),fun e_=>UN k_ hk (a1I.1 k_ e_.symm)⟩))
 have HK:=Aside0.mk (Kept.refl w (fun k_=>nI k_∨nJ k_))
 have HW0:=Aside0.mk hB.size
 have HB:=Aside0.mk hB
 clear hB
 have H:((bQ.f k cF a1).bind fun Ff=>((bQ.f k cG Ff.1).bind fun wu=>(some (wu.1,Ff.2,wu.2))))=some (r1,r2,r3):=h
 clear h
 replace H:=Option.bind_eq_some_iff.mp H
 obtain ⟨⟨Si,Za⟩,jc,H⟩:=H
 replace H:((bQ.f k cG Si).bind fun wu=>(some (wu.1,Za,wu.2)))=some (r1,r2,r3):=H
 have A3:=Aside0.mk jc
 clear jc
 replace H:=Option.bind_eq_some_iff.mp H
 obtain ⟨⟨a6R,a6S⟩,wB,H⟩:=H
 replace H:(some (a6R,Za,a6S))=some (r1,r2,r3):=H
 have A4:=Aside0.mk wB
 clear wB
 simp only [Option.some.injEq,Prod.mk.injEq] at H
 obtain ⟨rfl,rfl,rfl⟩:=H
 obtain ⟨MJ,ET,Mq⟩:=Kd.eJ oD.out
 subst Mq
 obtain ⟨JX,ES,eo6⟩:=Kd.eJ oF.out
 subst eo6
 go_enter Try.func15,Try.ntmps15
 go_wp2_with (first|((with_reducible refine bp (N:=2) rfl ?_);refine bw ?hg (N:=2) ?hd (cs:= #[.bool aH,.int .i64 aG,.int .i64 dA,.slice MJ cF.length ET,.slice JX cG.length ES]) (t:=29) ?hr ?_;(case hd=>rfl);(case hg=>rfl);(case hr=>first|(go_simp;done)|(go_simp;rfl));intro qA hg w7 aU hb;have aA:=Aside0.mk (Kd.lX (by (with_reducible repeat (first|apply Kd.dz|apply Kd.dG|apply Kd.ez));exact oD.out) hb);have aC:=Aside0.mk (Kd.lX (by (with_reducible repeat (first|apply Kd.dz|apply Kd.dG|apply Kd.ez));exact oF.out) hb);have aD:=Aside0.mk (Kept.below (S:=(fun k_=>nI k_∨nJ k_)) (by repeat (first|(with_reducible first|exact HK.out|apply Kept.alloc|apply Kept.drewN|apply Kept.drew)|exact HK.out)) hb);have aJ:=Aside0.mk (ah ax hb);have bJ:=Aside0.mk (aU);have bS:=Aside0.mk ((by rw [hg];exact (by first|exact HK.out.1|exact (show Kept w _ (fun k_=>nI k_∨nJ k_) from by repeat (first|(with_reducible first|exact HK.out|apply Kept.alloc|apply Kept.drewN|apply Kept.drew)|exact HK.out)).1):w.heap.size<=qA));have cw:=Aside0.mk ((by rw [hg];exact (av ax):w0.heap.size<=qA));clear oD;clear oF;clear HK;clear HB;have oD:=aA;have oF:=aC;have HK:=aD;have HB:=aJ;have ia:=bJ;have Sj:=bS;have a1K:=cw;clear aA aC aD aJ bJ bS cw;clear hb aU hg;have Ms:w7.cell? ⟨qA,0,none⟩=some (.bool aH):=(af ia.out 0).trans rfl;have Mt:w7.cell? ⟨qA,1,none⟩=some (.int .i64 aG):=(af ia.out 1).trans rfl;have a6F:w7.cell? ⟨qA,2,none⟩=some (.int .i64 dA):=(af ia.out 2).trans rfl;have a6G:w7.cell? ⟨qA,3,none⟩=some (.slice MJ cF.length ET):=(af ia.out 3).trans rfl;have a6H:w7.cell? ⟨qA,4,none⟩=some (.slice JX cG.length ES):=(af ia.out 4).trans rfl;have Mu:=aa ia.out 0;have Mv:=aa ia.out 1;have a6I:=aa ia.out 2;have a6J:=aa ia.out 3;have a6K:=aa ia.out 4)|((with_reducible refine aY (f:=38) rfl ?_);refine bP (some 8) rfl rfl Try.func38 (by kernel_rfl) rfl #[.slice MJ cF.length ET,.int .i64 a1] rfl (by (try simp only [List.map_toArray,List.map_cons,List.map_nil]);first|done|rfl|(simp only [List.length_drop,List.length_take];rfl)) ?_;(with_reducible refine (bQ.calls k (fun k_=>some k_=(.slice MJ cF.length ET:Value).ownBlock) (.slice MJ cF.length ET) cF a1 Si Za w0 _ ?cy ?cA A3.out).mono ?_);(case cy=>repeat (first|(with_reducible first|exact HB.out|apply bA|apply fP|apply bB|refine bC ?_ a1K.out)|exact HB.out));(case cA=>exact Kd.oc rfl oD.out);rintro e w9 ⟨rfl,hy0,hb,hkp⟩;refine ⟨_,rfl,?_⟩;have aA:=Aside0.mk (Kd.Uw rfl hy0 (fun k_ e_=>oD.out.1 k_ e_));have aC:=Aside0.mk (Kd.dD (ok':=fun k_=>((nI k_∨nJ k_)∨w.heap.size<=k_)/\some k_≠(.slice MJ cF.length ET:Value).ownBlock) (Kd.Pw (oF.out) hkp (fun k_ rH hs_=>(rH.2) hs_)) (fun k_ rH=>⟨rH.1.1,rH.1.2⟩));have aD:=Aside0.mk (Me (aI ia) hkp (fun hs_=>(fun e_=>(Kd.Di oD.out ia.out (by decide)) e_) hs_));have aJ:=Aside0.mk (Kept.gN (S:=(fun k_=>nI k_∨nJ k_)) (by repeat (first|(with_reducible first|exact HK.out|apply Kept.alloc|apply Kept.drewN|apply Kept.drew|refine Kept.setCell ?_ (.inr Sj.out) _)|exact HK.out)) hkp (fun k_ hs_=>(fun e_=>(oD.out.1 k_ e_.symm).1) hs_));have bJ:=Aside0.mk (hb);clear oD;clear oF;clear ia;clear HK;clear HB;have oD:=aA;have oF:=aC;have ia:=aD;have HK:=aJ;have HB:=bJ;clear aA aC aD aJ bJ;(try clear hb);(try clear hkp);(try clear hy0);have Ig:w9.cell? ⟨qA,0,none⟩=some (.bool aH):=(af ia.out 0).trans rfl;have Ih:w9.cell? ⟨qA,1,none⟩=some (.int .i64 aG):=(af ia.out 1).trans rfl;have a3Y:w9.cell? ⟨qA,2,none⟩=some (.int .i64 dA):=(af ia.out 2).trans rfl;have a3Z:w9.cell? ⟨qA,3,none⟩=some (.slice MJ cF.length ET):=(af ia.out 3).trans rfl;have a4a:w9.cell? ⟨qA,4,none⟩=some (.slice JX cG.length ES):=(af ia.out 4).trans rfl;have Ii:=aa ia.out 0;have Ij:=aa ia.out 1;have a4b:=aa ia.out 2;have a4c:=aa ia.out 3;have a4d:=aa ia.out 4)|((with_reducible refine aY (f:=38) rfl ?_);refine bP (some 12) rfl rfl Try.func38 (by kernel_rfl) rfl #[.slice JX cG.length ES,.int .i64 Si] rfl (by (try simp only [List.map_toArray,List.map_cons,List.map_nil]);first|done|rfl|(simp only [List.length_drop,List.length_take];rfl)) ?_;(with_reducible refine (bQ.calls k (fun k_=>some k_=(.slice JX cG.length ES:Value).ownBlock) (.slice JX cG.length ES) cG Si a6R a6S w0 _ ?cy ?cA A4.out).mono ?_);(case cy=>repeat (first|(with_reducible first|exact HB.out|apply bA|apply fP|apply bB|refine bC ?_ a1K.out)|exact HB.out));(case cA=>exact Kd.oc rfl oF.out);rintro e ja ⟨rfl,hy0,hb,hkp⟩;refine ⟨_,rfl,?_⟩;have aA:=Aside0.mk (Kd.dD (ok':=fun k_=>((nI k_∨nJ k_)∨w.heap.size<=k_)/\some k_≠(.slice JX cG.length ES:Value).ownBlock) (Kd.Pw (oD.out) hkp (fun k_ rH hs_=>(rH.2) hs_)) (fun k_ rH=>⟨rH.1.1,rH.1.2⟩));have aC:=Aside0.mk (Kd.Uw rfl hy0 (fun k_ e_=>oF.out.1 k_ e_));have aD:=Aside0.mk (Me (aI ia) hkp (fun hs_=>(fun e_=>(Kd.Di oF.out ia.out (by decide)) e_) hs_));have aJ:=Aside0.mk (Kept.gN (S:=(fun k_=>nI k_∨nJ k_)) (by repeat (first|(with_reducible first|exact HK.out|apply Kept.alloc|apply Kept.drewN|apply Kept.drew|refine Kept.setCell ?_ (.inr Sj.out) _)|exact HK.out)) hkp (fun k_ hs_=>(fun e_=>(oF.out.1 k_ e_.symm).1) hs_));have bJ:=Aside0.mk (hb);clear oD;clear oF;clear ia;clear HK;clear HB;have oD:=aA;have oF:=aC;have ia:=aD;have HK:=aJ;have HB:=bJ;clear aA aC aD aJ bJ;(try clear hb);(try clear hkp);(try clear hy0)))
 go_ret
 exact ⟨by first|rfl|(simp [aQ,aR]<;>rfl)|(simp [*,aQ,aR]<;>rfl),by (with_reducible repeat (first|apply Kd.dz|apply Kd.dG|apply Kd.ez));exact Kd.dD oD.out (fun _ hk=>hk.1),by (with_reducible repeat (first|apply Kd.dz|apply Kd.dG|apply Kd.ez));exact Kd.dD oF.out (fun _ hk=>hk.1),ax,by repeat (first|(with_reducible first|exact HK.out|apply Kept.alloc|apply Kept.drewN|apply Kept.drew|refine Kept.setCell ?_ (.inr Sj.out) _)|exact HK.out)⟩
end Go.Proofs.Ytnhknojfpjheoaa.P
namespace Go.Proofs.Ytnhknojfpjheoaa.PT
open Go.RowKit Go.Proofs.Ytnhknojfpjheoaa.P Go.Proofs.YtnhknojfpjheoaaW.PrintWords Go.Proofs.YtnhknojfpjheoaaW.PrintLast Go.Proofs.Ytnhknojfpjheoaa.EvKit
set_option linter.all false
namespace Ow
theorem zj {α β:Type} {A:Ow α} {B:Ow β} {W:World} {x:α} {y:β} {u:Value} {cs:List Value} {bs:List Nat} (hA:A.kd.sz=1) (h:(pair A B).own W (x,y) (u::cs) bs):
 ∃b1 b2,bs=b1++b2/\bs.Nodup/\A.own W x [u] b1/\B.own W y cs b2:=by
 obtain ⟨c1,c2,b1,b2,e,hb,hn,ha,hb'⟩:=h
 have hl:=A.kd.iQ (A.rd ha)
 rw [hA] at hl
 obtain ⟨v,rfl⟩:∃v,c1=[v]:=by
  match c1,hl with
  | [v],_=>exact ⟨v,rfl⟩
 simp only [List.cons_append,List.nil_append,List.cons.injEq] at e
 obtain ⟨rfl,rfl⟩:=e
 exact ⟨b1,b2,hb,hn,ha,hb'⟩
end Ow
abbrev LR:=List bM
abbrev V5:=Bool×Int×Int×LR×LR
def owQ:Ow bM where
 kd:=eY
 own:=fun _ x cs bs=>cs=[.int .i64 x.f0,.int .i64 x.f1]/\bs=[]
 rd:=by rintro W x cs bs ⟨rfl,_⟩;exact a5R W x
 lt:=fun h b hb=>by rw [h.2] at hb;cases hb
 nodup:=fun h=>by rw [h.2];exact List.nodup_nil
 move:=fun h _=>h
theorem PU:Ow.Fit owQ:=⟨fun h=>⟨[],⟨oY h,rfl⟩,fun b hb=>by cases hb⟩,fun {W base ok x cs bs} h _=>by obtain ⟨rfl,_⟩:=h;exact uQ W base ok x⟩
theorem a6T {W:World} {base:Nat} {ok:Nat->Prop} {x:bM} {cs:List Value} (h:owQ.kd.M W base ok x cs):owQ.kd.M W base (fun _=>False) x cs:=by
 have e:=oY h
 subst e
 exact uQ W base _ x
abbrev Kb:Ow LR:=Ow.slice 26 owQ
theorem a4e:Ow.Fit Kb:=Ow.xR PU a6T _
theorem UO {W:World} {base:Nat} {ok:Nat->Prop} {v:Value} {xs:LR} (h:Kd.R eY 26 W base ok v xs):∃bs,Kb.own W xs [v] bs/\∀b,b∈bs->ok b/\base<=b:=a4e.of (x:=xs) ⟨v,rfl,h⟩
theorem UQ {W:World} {base:Nat} {ok:Nat->Prop} {v:Value} {xs:LR} {bs:List Nat} (h:Kb.own W xs [v] bs) (hb:∀b,b∈bs->ok b/\base<=b):Kd.R eY 26 W base ok v xs:=Kd.xL (Ow.Lk PU h hb)
theorem PV {W:World} {v:Value} {xs:LR} {bs:List Nat} (h:Kb.own W xs [v] bs):∀b,b∈bs->v.ownBlock=some b:=by
 rcases h with ⟨_,_,rfl⟩|⟨g,cap,cur,nV,hv,_,_,_,_,rfl,_,hl,hj⟩
 ·intro b hb;cases hb
 ·intro b hb
  injection hv with hv;subst hv
  rcases List.mem_cons.1 hb with rfl|hb
  ·rfl
  ·obtain ⟨l,hl2,hbl⟩:=List.mem_flatten.1 hb
   obtain ⟨j,hlt,rfl⟩:=List.getElem_of_mem hl2
   have:=(hj j (by omega) hlt).2
   rw [this] at hbl;cases hbl
def Fg (W:World) (x:LR) (A:Option Addr) (c:Nat):Prop:=x.length<=c/\Kd.C eY W A x.length x
abbrev oR (W:World) (x:LR) (A:Option Addr) (n c:Nat) (bs:List Nat):Prop:=Kb.own W x [.slice A n c] bs
theorem oR.rd {W:World} {x:LR} {A:Option Addr} {n c:Nat} {bs:List Nat} (h:oR W x A n c bs):Fg W x A c:=by
 obtain ⟨A',c',e,hl,hC⟩:=Kb.rd h
 injection e with e;injection e with e1 e2 e3
 subst e1;subst e3
 exact ⟨hl,hC⟩
structure yq (W:World) (x:V5) (A3:Option Addr) (c3:Nat) (A4:Option Addr) (c4:Nat):Prop where
 Ke:Fg W x.2.2.2.1 A3 c3
 Aq:Fg W x.2.2.2.2 A4 c4
theorem Fg.tr {W W':World} {x:LR} {A:Option Addr} {c:Nat} (h:Fg W x A c) (t:eK W W'):Fg W' x A c:=⟨h.1,Kd.bX h.2 t.kE⟩
theorem Fg.past {W W':World} {x:LR} {A:Option Addr} {c:Nat} (h:Fg W x A c) (t:Below W.heap.size W W'):Fg W' x A c:=⟨h.1,Kd.bX h.2 t⟩
theorem yq.tr {W W':World} {x:V5} {A3:Option Addr} {c3:Nat} {A4:Option Addr} {c4:Nat} (h:yq W x A3 c3 A4 c4) (t:eK W W'):yq W' x A3 c3 A4 c4:=⟨h.Ke.tr t,h.Aq.tr t⟩
theorem yq.past {W W':World} {x:V5} {A3:Option Addr} {c3:Nat} {A4:Option Addr} {c4:Nat} (h:yq W x A3 c3 A4 c4) (t:Below W.heap.size W W'):yq W' x A3 c3 A4 c4:=⟨h.Ke.past t,h.Aq.past t⟩
def zk (x:V5):Prop:=x.2.2.2.1.length<=1048576/\x.2.2.2.2.length<=1048576
def pz (x:V5):Int:=2*(x.2.2.2.1.length:Int)+2*(x.2.2.2.2.length:Int)
def kj:Int->LR->LR
 |_,[]=>[]
 |k,_::r=>⟨k,k+1⟩::kj (k+2) r
theorem Ar:∀(l:LR) (k:Int),(kj k l).length=l.length
 | [],_=>rfl
 |a::r,k=>by simp only [kj,List.length_cons,Ar r]
def mkV (k:Int) (x:V5):V5:=(x.1,x.2.1,x.2.2.1,kj k x.2.2.2.1,kj (k+2*x.2.2.2.1.length) x.2.2.2.2)
abbrev yt:Ow V5:=Ow.pair Ow.bool (Ow.pair Ow.int (Ow.pair Ow.int (Ow.pair Kb Kb)))
abbrev MK (x:V5) (A3:Option Addr) (c3:Nat) (A4:Option Addr) (c4:Nat):Value:= .agg #[.bool x.1,.int .i64 x.2.1,.int .i64 x.2.2.1,.slice A3 x.2.2.2.1.length c3,.slice A4 x.2.2.2.2.length c4]
abbrev oV (W:World) (x:V5) (A3:Option Addr) (n3 c3:Nat) (A4:Option Addr) (n4 c4:Nat) (bs:List Nat):Prop:=yt.own W x [.bool x.1,.int .i64 x.2.1,.int .i64 x.2.2.1,.slice A3 n3 c3,.slice A4 n4 c4] bs
theorem oV.parts {W:World} {x:V5} {A3:Option Addr} {n3 c3:Nat} {A4:Option Addr} {n4 c4:Nat} {bs:List Nat} (h:oV W x A3 n3 c3 A4 n4 c4 bs):∃b3 b4,bs=b3++b4/\bs.Nodup/\oR W x.2.2.2.1 A3 n3 c3 b3/\oR W x.2.2.2.2 A4 n4 c4 b4:=by
 obtain ⟨b0,q0,rfl,hn,⟨_,rfl⟩,g0⟩:=Ow.zj rfl h
 obtain ⟨b1,q1,rfl,_,⟨_,rfl⟩,g1⟩:=Ow.zj rfl g0
 obtain ⟨b2,q2,rfl,_,⟨_,rfl⟩,g2⟩:=Ow.zj rfl g1
 obtain ⟨b3,b4,rfl,_,h3,h4⟩:=Ow.zj rfl g2
 exact ⟨b3,b4,rfl,hn,h3,h4⟩
theorem oV.mk {W:World} {x:V5} {A3:Option Addr} {n3 c3:Nat} {A4:Option Addr} {n4 c4:Nat} {b3 b4:List Nat} (h3:oR W x.2.2.2.1 A3 n3 c3 b3) (h4:oR W x.2.2.2.2 A4 n4 c4 b4) (d:∀b,b∈b3->b∈b4->False):oV W x A3 n3 c3 A4 n4 c4 (b3++b4):=
 Ow.BM (A:=Ow.bool) (c1:=[_]) (b1:=[]) ⟨rfl,rfl⟩ (Ow.BM (A:=Ow.int) (c1:=[_]) (b1:=[]) ⟨rfl,rfl⟩ (Ow.BM (A:=Ow.int) (c1:=[_]) (b1:=[]) ⟨rfl,rfl⟩ (Ow.BM (c1:=[_]) (c2:=[_]) h3 h4 d) (fun b h=>by cases h)) (fun b h=>by cases h)) (fun b h=>by cases h)
theorem oV.rd {W:World} {x:V5} {A3:Option Addr} {n3 c3:Nat} {A4:Option Addr} {n4 c4:Nat} {bs:List Nat} (h:oV W x A3 n3 c3 A4 n4 c4 bs):yq W x A3 c3 A4 c4:=by
 obtain ⟨_,_,_,_,h0,h1⟩:=h.parts
 exact ⟨h0.rd,h1.rd⟩
theorem Sk (x:bM):gQ.f x.f0 x.f1 x.f0 x.f1=some true:=by
 unfold gQ.f;rw [if_pos rfl,if_pos rfl]
theorem ML (x:bM):Ev (fun _=>gQ.f x.f0 x.f1 x.f0 x.f1) true:=by rw [Sk x];exact Ev.now _
theorem UR {l:LR} {i:Nat} (h:i<l.length):aW l (i:Int)=l[i]:=by
 show l.getD (i:Int).toNat _=_
 rw [Int.toNat_natCast];simp [List.getD_eq_getElem?_getD,h]
theorem CG (l:LR) (hl:l.length<=1048576):Ev (fun k=>bE.f k l l) true:=by
 unfold bE.f
 refine Ev.pos rfl ?_
 have:=Ev.loop (g:=fun k i=>bE.l0 k l l (i:Int)) (n:=l.length) (R:=fun _=>true) ?_ ?_ 0 (Nat.zero_le _)
 ·exact this
 ·refine Ev.succ ?_
  simp only [bE.l0]
  exact Ev.neg (by omega) (Ev.now _)
 ·intro i hi ih
  refine Ev.succ ?_
  simp only [bE.l0,eR (show i<=9223372036854775806 by omega)]
  exact Ev.pos (by omega) (Ev.pos (by omega) (Ev.pos (by omega) (Ev.bind (ML _) (Ev.pos rfl ih))))
theorem Sl {W0 W:World} {x:V5} {A3:Option Addr} {c3:Nat} {A4:Option Addr} {c4:Nat} {B3:Option Addr} {d3:Nat} {B4:Option Addr} {d4:Nat} (h:yq W0 x A3 c3 A4 c4) (h':yq W0 x B3 d3 B4 d4) (hg:zk x) (t:eK W0 W):
 Calls Try.prog 10 #[MK x A3 c3 A4 c4,MK x B3 d3 B4 d4] W fun e w'=>e= .returned (.bool true)/\eK W w':=by
 have ev:Ev (fun k=>jy.f k x.1 x.2.1 x.2.2.1 x.2.2.2.1 x.2.2.2.2 x.1 x.2.1 x.2.2.1 x.2.2.2.1 x.2.2.2.2) true:=by
  unfold jy.f
  have e:=ML ⟨x.2.1,x.2.2.1⟩
  refine Ev.neg (by simp) (Ev.bind e (Ev.pos rfl (Ev.bind (CG _ hg.1) (Ev.pos rfl (Ev.bind (CG _ hg.2) (Ev.pos rfl (Ev.now _)))))))
 obtain ⟨k,hk⟩:=Ev.rounds ev
 exact (jy.calls k x.1 x.2.1 x.2.2.1 A3 c3 x.2.2.2.1 A4 c4 x.2.2.2.2 x.1 x.2.1 x.2.2.1 B3 d3 x.2.2.2.1 B4 d4 x.2.2.2.2 true W (h.Ke.tr t).2 h.Ke.1 (h.Aq.tr t).2 h.Aq.1 (h'.Ke.tr t).2 h'.Ke.1 (h'.Aq.tr t).2 h'.Aq.1 hk).mono (fun e w' hh=>⟨hh.1,Tr.lB hh.2⟩)
theorem CH (l:LR) (k:Int) (h0:0<=k) (hl:l.length<=1048576) (hk:k+2*l.length<=1099511627776):Ev (fun q=>bO.f q (kj k l) k) (k+2*l.length):=by
 unfold bO.f
 have key:∀(r pre:LR) (j:Int),0<=j->j+2*r.length<=1099511627776->pre.length+r.length<=1048576->Ev (fun q=>bO.l0 q (pre++kj j r) j (pre.length:Int)) (j+2*r.length):=by
  intro r
  induction r with
  |nil=>
   intro pre j h0 hk hl
   refine Ev.succ ?_
   simp only [bO.l0,kj,List.append_nil]
   refine Ev.neg (by omega) (Ev.to (Ev.now _) (by simp))
  |cons a r ih=>
   intro pre j h0 hk hl
   simp only [List.length_cons] at hk hl
   have hlt:pre.length<(pre++kj j (a::r)).length:=by simp [kj]
   have hx:aW (pre++kj j (a::r)) (pre.length:Int)=⟨j,j+1⟩:=by
    rw [UR hlt];simp [kj]
   have ih2:=ih (pre++[⟨j,j+1⟩]) (j+2) (by omega) (by omega) (by simp;omega)
   rw [show ((pre++[(⟨j,j+1⟩:bM)]).length:Int)=((pre.length+1:Nat):Int) by simp] at ih2
   refine Ev.succ ?_
   simp only [bO.l0,hx,eR (show pre.length<=9223372036854775806 by omega),Mh (n:=j+1) (by omega) (by omega),Mh (n:=j+1+1) (by omega) (by omega)]
   refine Ev.pos (by omega) (Ev.pos (by omega) (Ev.pos trivial (Ev.pos trivial ?_)))
   have e:pre++kj j (a::r)=pre++[⟨j,j+1⟩]++kj (j+2) r:=by simp [kj]
   rw [e,show j+1+1=j+2 by omega]
   refine Ev.to ih2 ?_
   simp only [List.length_cons];omega
 have:=key l [] k h0 hk (by simpa using hl)
 simpa using this
theorem a4f {W0 W:World} {x:V5} {A3:Option Addr} {c3:Nat} {A4:Option Addr} {c4:Nat} (k:Int) (h:yq W0 (mkV k x) A3 c3 A4 c4) (hg:zk x) (h0:0<=k) (hk:k+pz x<=1099511627776) (t:eK W0 W):
 Calls Try.prog 16 #[MK x A3 c3 A4 c4,.int .i64 k] W fun e w'=>e= .returned (.int .i64 (k+pz x))/\eK W w':=by
 unfold pz at hk
 have ev:Ev (fun q=>iu.f q (mkV k x).1 (mkV k x).2.1 (mkV k x).2.2.1 (mkV k x).2.2.2.1 (mkV k x).2.2.2.2 k) (k+pz x):=by
  unfold iu.f mkV pz
  refine Ev.bind (CH x.2.2.2.1 k h0 hg.1 (by omega)) (Ev.neg (by omega) (Ev.bind (CH x.2.2.2.2 (k+2*x.2.2.2.1.length) (by omega) hg.2 (by omega)) (Ev.neg (by omega) (Ev.to (Ev.now _) (by omega)))))
 obtain ⟨q,hq⟩:=Ev.rounds ev
 have h1:=iu.calls q (mkV k x).1 (mkV k x).2.1 (mkV k x).2.2.1 A3 c3 (mkV k x).2.2.2.1 A4 c4 (mkV k x).2.2.2.2 k _ W (h.Ke.tr t).2 h.Ke.1 (h.Aq.tr t).2 h.Aq.1 hq
 have e0:(mkV k x).2.2.2.1.length=x.2.2.2.1.length:=Ar _ _
 have e1:(mkV k x).2.2.2.2.length=x.2.2.2.2.length:=Ar _ _
 rw [e0,e1] at h1
 exact h1.mono (fun e w' hh=>⟨hh.1,Tr.lB hh.2⟩)
theorem CI (l:LR) (k:Int) (h0:0<=k) (hl:l.length<=1048576) (hk:k+2*l.length<=1099511627776):Ev (fun q=>bQ.f q l k) (k+2*l.length,kj k l):=by
 unfold bQ.f
 have key:∀(r pre:LR) (j:Int),0<=j->j+2*r.length<=1099511627776->pre.length+r.length<=1048576->Ev (fun q=>bQ.l0 q (pre++r) j (pre.length:Int)) (j+2*r.length,pre++kj j r):=by
  intro r
  induction r with
  |nil=>
   intro pre j h0 hk hl
   refine Ev.succ ?_
   simp only [bQ.l0,kj,List.append_nil]
   refine Ev.neg (by omega) (Ev.to (Ev.now _) (by simp))
  |cons a r ih=>
   intro pre j h0 hk hl
   simp only [List.length_cons] at hk hl
   have ih2:=ih (pre++[⟨j,j+1⟩]) (j+2) (by omega) (by omega) (by simp;omega)
   rw [show ((pre++[(⟨j,j+1⟩:bM)]).length:Int)=((pre.length+1:Nat):Int) by simp] at ih2
   refine Ev.succ ?_
   have e1:∀v:bM,(pre++a::r).set ((pre.length:Nat):Int).toNat v=pre++v::r:=fun v=>by rw [Int.toNat_natCast];simp
   have hx:∀v:bM,aW (pre++v::r) (pre.length:Int)=v:=fun v=>by
    rw [UR (by simp)];simp
   have e2:∀v u:bM,(pre++v::r).set ((pre.length:Nat):Int).toNat u=pre++u::r:=fun v u=>by rw [Int.toNat_natCast];simp
   simp only [bQ.l0,e1,hx,e2,Option.bind_some,eR (show pre.length<=9223372036854775806 by omega),Mh (n:=j+1) (by omega) (by omega),Mh (n:=j+1+1) (by omega) (by omega)]
   refine Ev.pos (by simp;omega) (Ev.pos (by omega) ?_)
   rw [show j+1+1=j+2 by omega]
   have e:pre++(⟨j,j+1⟩:bM)::r=pre++[⟨j,j+1⟩]++r:=by simp
   rw [e]
   refine Ev.to ih2 ?_
   simp only [List.length_cons,kj,List.append_assoc,List.cons_append,List.nil_append]
   congr 1;omega
 have:=key l [] k h0 hk (by simpa using hl)
 simpa using this
theorem a4g {w W0 W:World} {x:V5} {A3:Option Addr} {c3:Nat} {A4:Option Addr} {c4:Nat} {bs:List Nat} {k r:Int} (hr:r=k+pz x) (h:oV W0 x A3 x.2.2.2.1.length c3 A4 x.2.2.2.2.length c4 bs) (hb:∀b,b∈bs->w.heap.size<=b) (hB:Below w.heap.size w W0) (hg:zk x) (hk:0<=k/\r<=1099511627776) (t:eK W0 W):
 Calls Try.prog 15 #[MK x A3 c3 A4 c4,.int .i64 k] W fun e w'=>e= .returned (.int .i64 r)/\(∃bs',oV w' (mkV k x) A3 x.2.2.2.1.length c3 A4 x.2.2.2.2.length c4 bs'/\∀b,b∈bs'->b∈bs∨W.heap.size<=b)/\Tr (·∈bs) W w':=by
 subst hr
 obtain ⟨h0,hk⟩:=hk
 unfold pz at hk
 have JY:=Tr.fL hB t (fun _ hk=>hk.elim)
 have ho:=yt.tr h t (fun _ _ hk=>hk)
 obtain ⟨b3,b4,rfl,hn,o3,o4⟩:=oV.parts ho
 have hd:∀b,b∈b3->b∈b4->False:=fun b h1 h2=>(List.nodup_append.1 hn).2.2 b h1 b h2 rfl
 have ev:Ev (fun q=>iw.f q x.1 x.2.1 x.2.2.1 x.2.2.2.1 x.2.2.2.2 k) (k+pz x,kj k x.2.2.2.1,kj (k+2*x.2.2.2.1.length) x.2.2.2.2):=by
  unfold iw.f pz
  refine Ev.bind (CI x.2.2.2.1 k h0 hg.1 (by omega)) (Ev.bind (CI x.2.2.2.2 (k+2*x.2.2.2.1.length) (by omega) hg.2 (by omega)) (Ev.to (Ev.now _) ?_))
  simp only [Prod.mk.injEq,and_true];omega
 obtain ⟨q,hq⟩:=Ev.rounds ev
 have r3:=UQ (ok:=(·∈b3)) (base:=w.heap.size) o3 (fun b hb'=>⟨hb',hb b (List.mem_append_left _ hb')⟩)
 have r4:=UQ (ok:=(·∈b4)) (base:=w.heap.size) o4 (fun b hb'=>⟨hb',hb b (List.mem_append_right _ hb')⟩)
 refine (iw.calls q x.1 x.2.1 x.2.2.1 (·∈b3) _ x.2.2.2.1 (·∈b4) _ x.2.2.2.2 k _ _ _ w W JY r3 (fun b h1 h2=>hd b h1 h2) r4 (fun b h1 h2=>hd b h2 h1) hq).mono ?_
 rintro e w' ⟨rfl,hR3,hR4,hb',hk'⟩
 obtain ⟨b3',o3',g3'⟩:=UO (Kd.oc rfl hR3)
 obtain ⟨b4',o4',g4'⟩:=UO (Kd.oc rfl hR4)
 have m3:∀b,b∈b3'->b∈b3:=fun b hb'=>by
  have e:=PV o3' b hb'
  exact r3.1 b e
 have m4:∀b,b∈b4'->b∈b4:=fun b hb'=>by
  have e:=PV o4' b hb'
  exact r4.1 b e
 refine ⟨rfl,⟨b3'++b4',oV.mk (x:=mkV k x) o3' o4' (fun b h1 h2=>hd b (m3 b h1) (m4 b h2)),fun b hb'=> .inl ?_⟩,?_⟩
 ·rcases List.mem_append.1 hb' with h1|h1
  ·exact List.mem_append_left _ (m3 b h1)
  ·exact List.mem_append_right _ (m4 b h1)
 ·have:=Tr.GW JY hb' hk'
  exact ⟨this.os,this.tape,this.output,this.size,fun k hk hn=>this.block k hk (fun hs=>hn (by
   rcases hs with h1|h1
   ·exact List.mem_append_left _ h1
   ·exact List.mem_append_right _ h1))⟩
theorem a4h {W0 W:World} {x:V5} {A3:Option Addr} {c3:Nat} {A4:Option Addr} {c4:Nat} {k r:Int} (hr:r=k+pz x) (h:yq W0 (mkV k x) A3 c3 A4 c4) (hg:zk x) (hk:0<=k/\r<=1099511627776) (t:eK W0 W):
 Calls Try.prog 16 #[MK x A3 c3 A4 c4,.int .i64 k] W fun e w'=>e= .returned (.int .i64 r)/\eK W w':=by subst hr;exact a4f k h hg hk.1 hk.2 t
end Go.Proofs.Ytnhknojfpjheoaa.PT
namespace Go.Proofs.Ytnhknojfpjheoaa.P
open Go.RowKit Go.Proofs.YtnhknojfpjheoaaW.PrintWords Go.Proofs.YtnhknojfpjheoaaW.PrintLast Go.Proofs.YtnhknojfpjheoaaW.PrintMore
attribute [local go_sem] max2_int min2_int max_two min_two max_three min_three max_four min_four
set_option linter.all false
def iy.f (a0:Int) (a1:Int) (a2:Int):Option (Bool):=if a1<=a0 then (some (decide (a0<=a2))) else (some false)
set_option maxHeartbeats 8000000 in
set_option maxRecDepth 100000 in
theorem iy.calls (a0:Int) (a1:Int) (a2:Int) (r:Bool) (w:World) (h:iy.f a0 a1 a2=some r):
 Calls Try.prog 47 #[.int .i64 a0,.int .i64 a1,.int .i64 a2] w fun e w'=>e= .returned (.bool r)/\bg w w':=by
 have H:(if a1<=a0 then (some (decide (a0<=a2))) else (some false))=some r:=h
 clear h
 by_cases c4:a1<=a0
 ·rw [if_pos c4] at H
  have kC:decide (a1<=a0)=true:=decide_eq_true c4
  clear c4
  obtain rfl:=Option.some.inj H
  go_enter Try.func47,Try.ntmps47
  go_wp2
  go_ret
  exact ⟨by first|rfl|(simp;done)|(simp [*];done),by repeat (first|exact bg.refl _|apply bg.step)⟩
 ·rw [if_neg c4] at H
  have kC:decide (a1<=a0)=false:=decide_eq_false c4
  clear c4
  obtain rfl:=Option.some.inj H
  go_enter Try.func47,Try.ntmps47
  go_wp2
  go_ret
  exact ⟨by first|rfl|(simp;done)|(simp [*];done),by repeat (first|exact bg.refl _|apply bg.step)⟩
end Go.Proofs.Ytnhknojfpjheoaa.P
namespace Go.Proofs.Ytnhknojfpjheoaa.PT
open Go.RowKit Go.Proofs.Ytnhknojfpjheoaa.P Go.Proofs.YtnhknojfpjheoaaW.PrintWords Go.Proofs.YtnhknojfpjheoaaW.PrintLast Go.Proofs.Ytnhknojfpjheoaa.EvKit
set_option linter.all false
theorem UT (a b c:Int):iy.f a b c=some (decide (b<=a/\a<=c)):=by
 unfold iy.f
 by_cases h:b<=a
 ·rw [if_pos h];simp [h]
 ·rw [if_neg h];simp [h]
end Go.Proofs.Ytnhknojfpjheoaa.PT
