/-
  Part 5 of the proof of this: The law FnCover answers true at every argument.
-/
import Derived.Test.YtnhknojfpjheoaaKCover2
import Derived.Test.YtnhknojfpjheoaaKCover4
namespace Go.Proofs.Ytnhknojfpjheoaa.P
open Go.RowKit Go.Proofs.YtnhknojfpjheoaaW.PrintWords Go.Proofs.YtnhknojfpjheoaaW.PrintLast Go.Proofs.YtnhknojfpjheoaaW.PrintMore
attribute [local go_sem] max2_int min2_int max_two min_two max_three min_three max_four min_four
set_option linter.all false
def bD.f (k:Nat) (a0:Int) (a1:Int):Option (Int×Int):=(dn.f k a0 a1).bind fun cQ=>(if a1<0 then (if (wrap64 (-cQ))=0 then (none) else ((bS.f k (wrap64 (Int.tdiv a0 (wrap64 (-cQ)))) (wrap64 (Int.tdiv a1 (wrap64 (-cQ))))).bind fun Cg=>(if Cg=true then (some (wrap64 (Int.tdiv a0 (wrap64 (-cQ))),wrap64 (Int.tdiv a1 (wrap64 (-cQ))))) else (some (0,0))))) else (if cQ=0 then (none) else ((bS.f k (wrap64 (Int.tdiv a0 cQ)) (wrap64 (Int.tdiv a1 cQ))).bind fun Ch=>(if Ch=true then (some (wrap64 (Int.tdiv a0 cQ),wrap64 (Int.tdiv a1 cQ))) else (some (0,0))))))
theorem bD.mono:∀a0 a1 k,aW (bD.f k a0 a1) (bD.f (k+1) a0 a1):=by
 intro a0 a1 k
 unfold bD.f
 repeat' first
  |(with_reducible exact bS.mono _ _ _)
  |(with_reducible exact dn.mono _ _ _)
  |(with_reducible exact aW.refl _)
  |(with_reducible exact aW.none _)
  |(with_reducible refine aW.ite ?_ ?_)
  |(with_reducible refine aW.bind ?_ (fun _=>?_))
def bD.T4:Bool×List (List Nat×List Nat):=(true,[([],[]),([],[]),([0,1],[0,1]),([],[]),([],[]),([3,4],[3,4]),([2,5],[2,5]),([],[]),([7,6,0,1,2,3,4,5,6,7],[6,7])])
def bD.B4:List Nat:=[0,0,3,0,0,24,63,0,255]
theorem bD.FO:kF .any (opsOf Try.f45 4)=bD.T4:=by kernel_rfl
theorem bD.AG:pZ bD.T4.2 bD.B4=true:=by kernel_rfl
set_option maxHeartbeats 8000000 in
set_option maxRecDepth 100000 in
theorem bD.calls (k:Nat) (a0:Int) (a1:Int) (r1:Int) (r2:Int) (w:World) (h:bD.f k a0 a1=some (r1,r2)):
 Calls Try.prog 45 #[.int .i64 a0,.int .i64 a1] w fun e w'=>e= .returned (.agg #[.int .i64 r1,.int .i64 r2])/\Below w.heap.size w w':=by
 have lY:=Try.underlying26
 have HB:=Aside0.mk (Below.refl w.heap.size w)
 have H:((dn.f k a0 a1).bind fun cQ=>(if a1<0 then (if (wrap64 (-cQ))=0 then (none) else ((bS.f k (wrap64 (Int.tdiv a0 (wrap64 (-cQ)))) (wrap64 (Int.tdiv a1 (wrap64 (-cQ))))).bind fun Cg=>(if Cg=true then (some (wrap64 (Int.tdiv a0 (wrap64 (-cQ))),wrap64 (Int.tdiv a1 (wrap64 (-cQ))))) else (some (0,0))))) else (if cQ=0 then (none) else ((bS.f k (wrap64 (Int.tdiv a0 cQ)) (wrap64 (Int.tdiv a1 cQ))).bind fun Ch=>(if Ch=true then (some (wrap64 (Int.tdiv a0 cQ),wrap64 (Int.tdiv a1 cQ))) else (some (0,0)))))))=some (r1,r2):=h
 clear h
 replace H:=Option.bind_eq_some_iff.mp H
 obtain ⟨cQ,iO,H⟩:=H
 replace H:(if a1<0 then (if (wrap64 (-cQ))=0 then (none) else ((bS.f k (wrap64 (Int.tdiv a0 (wrap64 (-cQ)))) (wrap64 (Int.tdiv a1 (wrap64 (-cQ))))).bind fun Cg=>(if Cg=true then (some (wrap64 (Int.tdiv a0 (wrap64 (-cQ))),wrap64 (Int.tdiv a1 (wrap64 (-cQ))))) else (some (0,0))))) else (if cQ=0 then (none) else ((bS.f k (wrap64 (Int.tdiv a0 cQ)) (wrap64 (Int.tdiv a1 cQ))).bind fun Ch=>(if Ch=true then (some (wrap64 (Int.tdiv a0 cQ),wrap64 (Int.tdiv a1 cQ))) else (some (0,0))))))=some (r1,r2):=H
 have A3:=Aside0.mk iO
 clear iO
 by_cases c4:a1<0
 ·rw [if_pos c4] at H
  have kP:decide (a1<0)=true:=decide_eq_true c4
  clear c4
  by_cases c5:(wrap64 (-cQ))=0
  ·rw [if_pos c5] at H
   exact absurd H (by simp)
  ·rw [if_neg c5] at H
   have sZ:((wrap64 (-cQ))==0)=false:=beq_eq_false_iff_ne.mpr c5
   have a8O:((wrap64 (-cQ)) !=0)=true:=bne_iff_ne.mpr c5
   replace H:=Option.bind_eq_some_iff.mp H
   obtain ⟨Cg,rO,H⟩:=H
   replace H:(if Cg=true then (some (wrap64 (Int.tdiv a0 (wrap64 (-cQ))),wrap64 (Int.tdiv a1 (wrap64 (-cQ))))) else (some (0,0)))=some (r1,r2):=H
   have A6:=Aside0.mk rO
   clear rO
   by_cases c7:Cg=true
   ·subst c7
    have H1:(some (wrap64 (Int.tdiv a0 (wrap64 (-cQ))),wrap64 (Int.tdiv a1 (wrap64 (-cQ)))))=some (r1,r2):=by rw [if_pos rfl] at H;exact H
    clear H
    have H:=H1
    clear H1
    simp only [Option.some.injEq,Prod.mk.injEq] at H
    obtain ⟨rfl,rfl⟩:=H
    go_enter Try.func45,Try.ntmps45
    try go_wp2_with (first|((with_reducible refine bk (N:=4) rfl ?_);refine bp ?hg (N:=4) ?hd (cs:= #[.int .i64 0,.int .i64 0]) (t:=26) ?hr ?_;(case hd=>rfl);(case hg=>rfl);(case hr=>first|(go_simp;done)|(go_simp;rfl));intro dW hg w8 aU hb;have ay:=Aside0.mk (ai ax hb);have aA:=Aside0.mk (aU);have aD:=Aside0.mk ((by rw [hg];exact (av ax):w.heap.size<=dW));have aR:=Aside0.mk ((by rw [hg];exact (av ax):w.heap.size<=dW));clear HB;have HB:=ay;have cq:=aA;have UK:=aD;have UL:=aR;clear ay aA aD aR;clear hb aU hg)|((with_reducible refine aZ (f:=61) rfl ?_);refine bO (some 9) rfl rfl Try.func61 (by kernel_rfl) rfl #[.int .i64 a0,.int .i64 a1] rfl (by (try simp only [List.map_toArray,List.map_cons,List.map_nil]);first|done|rfl|(simp only [List.length_drop,List.length_take];rfl)) ?_;(with_reducible refine (dn.calls k a0 a1 cQ _ A3.out).mono ?_);rintro e w9 ⟨rfl,hb⟩;refine ⟨_,rfl,?_⟩;have ay:=Aside0.mk (ah (g:=dW) (o:= .cells #[.int .i64 0,.int .i64 0] 26 (0,0)) (aJ cq) hb);have aA:=Aside0.mk (ai ax hb);clear cq;clear HB;have cq:=ay;have HB:=aA;clear ay aA;(try clear hb);(try clear hb2);(try clear hk);(try clear hi)))
    have ay:=Aside0.mk (ak cq.out)
    have aA:=Aside0.mk (bn HB.out)
    clear cq
    clear HB
    have cq:=ay
    have HB:=aA
    clear ay aA
    refine eG (n:=9) (S:=fun w'=>True) (ds:=[]) #[false,false,false,false,false,false,false,false,false] (by kernel_rfl) rfl rfl trivial (fun hHeld=>?_);refine jg bD.FO bD.AG (fun ck nZ=>?_)
    generalize w9.drew=lO at cq HB hHeld⊢
    refine bZ ck (i:=0) (N:=some 14) ?_
    refine bZ ck (i:=1) (N:=some 15) ?_
    refine bZ ck (i:=2) (N:=some 16) ?_
    refine bZ ck (i:=3) (N:=some 17) ?_
    refine bZ ck (i:=4) (N:=some 18) ?_
    refine bZ ck (i:=5) (N:=some 19) ?_
    refine bZ ck (i:=6) (N:=some 20) ?_
    refine fK (i:=7) (N:=some 6) #[true,true,true,true,true,true,true,true,false] rfl rfl (kN ck.out (by kernel_rfl)) (by decide) (fun K hK=>?_)
    refine Ah ?hg (N:=6) ?hd (cs:= #[.int .i64 0,.int .i64 0]) (t:=26) ?hr ?_;(case hd=>rfl);(case hg=>rfl);(case hr=>first|(go_simp;done)|(go_simp;rfl))
    intro kI hg fk aU hb
    have ay:=Aside0.mk (ah (g:=dW) (o:= .cells #[.int .i64 0,.int .i64 0] 26 (0,0)) (aJ cq) hb)
    have aA:=Aside0.mk (ai ax hb)
    have aD:=Aside0.mk (aU)
    have aR:=Aside0.mk ((by rw [hg];exact (av ax):w.heap.size<=kI))
    have bK:=Aside0.mk ((by rw [hg];exact (av ax):w.heap.size<=kI))
    have bT:=Aside0.mk ((by rw [hg];exact Nat.ne_of_lt (aY (g:=dW) (o:= .cells #[.int .i64 0,.int .i64 0] 26 (0,0)) (aJ cq)):dW≠kI))
    have cm:=Aside0.mk ((by rw [hg];exact Nat.ne_of_gt (aY (g:=dW) (o:= .cells #[.int .i64 0,.int .i64 0] 26 (0,0)) (aJ cq)):kI≠dW))
    clear cq
    clear HB
    have cq:=ay
    have HB:=aA
    have iE:=aD
    have b3t:=aR
    have b3u:=bK
    have kR:=bT
    have pK:=cm
    clear ay aA aD aR bK bT cm
    clear hb aU hg
    refine hK.out _ _ trivial (fun hHeld=>?_)
    clear hK K
    refine eP (a':=?_) ?_ ?_
    rotate_left
    ·show Act.put _ (some 6) _=_
     simp only [Act.put,List.setIfInBounds_toArray,List.set_cons_zero,List.set_cons_succ,cZ,eo]
     rfl
    refine fK (i:=8) (N:=none) #[true,true,true,true,true,true,true,true,true] rfl rfl (kN ck.out (by kernel_rfl)) (by decide) (fun K hK=>?_)
    have hs12:fk.cell? ⟨kI,0,none⟩=some (.int .i64 0):=(ag iE.out 0).trans rfl
    have hfs12:=aa iE.out 0
    have hns12_0:=kR.out
    have hms12_0:=pK.out
    have hs13:fk.cell? ⟨kI,1,none⟩=some (.int .i64 0):=(ag iE.out 1).trans rfl
    have hfs13:=aa iE.out 1
    have hns13_0:=kR.out
    have hms13_0:=pK.out
    refine ku (w1:=?_) (by rfl) rfl ?_ ?_
    rotate_left
    ·go_simp
     rfl
    refine hK.out _ _ trivial (fun hHeld=>?_)
    clear hK K
    refine fl (lS ck.out (by kernel_rfl)) ?_
    have b3v:=pK.out
    have b3w:=kR.out
    have DC:fk.cell? ⟨kI,0,none⟩=some (.int .i64 0):=(ag iE.out 0).trans rfl
    have DD:fk.cell? ⟨kI,1,none⟩=some (.int .i64 0):=(ag iE.out 1).trans rfl
    have DF:=aa iE.out 0
    have DG:=aa iE.out 1
    try go_wp2_with (first|((with_reducible refine aZ (f:=46) rfl ?_);refine bO (some 22) rfl rfl Try.func46 (by kernel_rfl) rfl #[.agg #[.int .i64 (wrap64 (Int.tdiv a0 (wrap64 (-cQ)))),.int .i64 (wrap64 (Int.tdiv a1 (wrap64 (-cQ))))]] rfl (by (try simp only [List.map_toArray,List.map_cons,List.map_nil]);first|done|rfl|(simp only [List.length_drop,List.length_take];rfl)) ?_;(with_reducible refine (bS.calls k (wrap64 (Int.tdiv a0 (wrap64 (-cQ)))) (wrap64 (Int.tdiv a1 (wrap64 (-cQ)))) true _ A6.out).mono ?_);rintro e lB ⟨rfl,hb⟩;refine ⟨_,rfl,?_⟩;have ay:=Aside0.mk (ah (g:=dW) (o:= .cells #[.int .i64 0,.int .i64 0] 26 (0,0)) (by (with_reducible repeat (first|refine au ?_ _|refine ak ?_|refine aq ?_ _));refine di ?_ kR.out _;(with_reducible repeat (first|refine au ?_ _|refine ak ?_|refine aq ?_ _));refine di ?_ kR.out _;(with_reducible repeat (first|refine au ?_ _|refine ak ?_|refine aq ?_ _));exact cq.out) hb);have aA:=Aside0.mk (ah (g:=kI) (o:= .cells #[.int .i64 (wrap64 (Int.tdiv a0 (wrap64 (-cQ)))),.int .i64 (wrap64 (Int.tdiv a1 (wrap64 (-cQ))))] 26 (0,0)) (by (with_reducible repeat (first|refine au ?_ _|refine ak ?_|refine aq ?_ _));refine aX (cs:= #[.int .i64 (wrap64 (Int.tdiv a0 (wrap64 (-cQ)))),.int .i64 0]) ?_ 1 _ rfl;(with_reducible repeat (first|refine au ?_ _|refine ak ?_|refine aq ?_ _));refine aX (cs:= #[.int .i64 0,.int .i64 0]) ?_ 0 _ rfl;(with_reducible repeat (first|refine au ?_ _|refine ak ?_|refine aq ?_ _));exact iE.out) hb);have aD:=Aside0.mk (ai ax hb);clear cq;clear iE;clear HB;have cq:=ay;have iE:=aA;have HB:=aD;clear ay aA aD;(try clear hb);(try clear hb2);(try clear hk);(try clear hi);have Kz:lB.cell? ⟨kI,0,none⟩=some (.int .i64 (wrap64 (Int.tdiv a0 (wrap64 (-cQ))))):=(ag iE.out 0).trans rfl;have KA:lB.cell? ⟨kI,1,none⟩=some (.int .i64 (wrap64 (Int.tdiv a1 (wrap64 (-cQ))))):=(ag iE.out 1).trans rfl;have KB:=aa iE.out 0;have KC:=aa iE.out 1;have JQ:lB.cell? ⟨dW,0,none⟩=some (.int .i64 0):=(ag cq.out 0).trans rfl;have JR:lB.cell? ⟨dW,1,none⟩=some (.int .i64 0):=(ag cq.out 1).trans rfl;have JS:=aa cq.out 0;have JT:=aa cq.out 1))
    refine bodyPost_ret (results_cell_row rfl _ _ dW 26 #[.int .i64 (wrap64 (Int.tdiv a0 (wrap64 (-cQ)))),.int .i64 (wrap64 (Int.tdiv a1 (wrap64 (-cQ))))] (0,0) _ rfl (by (with_reducible repeat (first|refine au ?_ _|refine ak ?_|refine aq ?_ _));refine aX (cs:= #[.int .i64 (wrap64 (Int.tdiv a0 (wrap64 (-cQ)))),.int .i64 0]) ?_ 1 _ rfl;(with_reducible repeat (first|refine au ?_ _|refine ak ?_|refine aq ?_ _));refine aX (cs:= #[.int .i64 0,.int .i64 0]) ?_ 0 _ rfl;(with_reducible repeat (first|refine au ?_ _|refine ak ?_|refine aq ?_ _));exact cq.out) Try.underlying26 rfl (by kernel_rfl)) rfl ?_
    exact ⟨by first|rfl|(simp [aM,aQ]<;>rfl)|(simp [*,aM,aQ]<;>rfl),ax⟩
   ·replace c7:=Bool.eq_false_iff.mpr c7
    subst c7
    have H1:(some (0,0))=some (r1,r2):=by rw [if_neg (show ¬(false=true) by decide)] at H;exact H
    clear H
    have H:=H1
    clear H1
    simp only [Option.some.injEq,Prod.mk.injEq] at H
    obtain ⟨rfl,rfl⟩:=H
    go_enter Try.func45,Try.ntmps45
    try go_wp2_with (first|((with_reducible refine bk (N:=4) rfl ?_);refine bp ?hg (N:=4) ?hd (cs:= #[.int .i64 0,.int .i64 0]) (t:=26) ?hr ?_;(case hd=>rfl);(case hg=>rfl);(case hr=>first|(go_simp;done)|(go_simp;rfl));intro dW hg w19 aU hb;have ay:=Aside0.mk (ai ax hb);have aA:=Aside0.mk (aU);have aD:=Aside0.mk ((by rw [hg];exact (av ax):w.heap.size<=dW));have aR:=Aside0.mk ((by rw [hg];exact (av ax):w.heap.size<=dW));clear HB;have HB:=ay;have cq:=aA;have UK:=aD;have UL:=aR;clear ay aA aD aR;clear hb aU hg)|((with_reducible refine aZ (f:=61) rfl ?_);refine bO (some 9) rfl rfl Try.func61 (by kernel_rfl) rfl #[.int .i64 a0,.int .i64 a1] rfl (by (try simp only [List.map_toArray,List.map_cons,List.map_nil]);first|done|rfl|(simp only [List.length_drop,List.length_take];rfl)) ?_;(with_reducible refine (dn.calls k a0 a1 cQ _ A3.out).mono ?_);rintro e sM ⟨rfl,hb⟩;refine ⟨_,rfl,?_⟩;have ay:=Aside0.mk (ah (g:=dW) (o:= .cells #[.int .i64 0,.int .i64 0] 26 (0,0)) (aJ cq) hb);have aA:=Aside0.mk (ai ax hb);clear cq;clear HB;have cq:=ay;have HB:=aA;clear ay aA;(try clear hb);(try clear hb2);(try clear hk);(try clear hi)))
    have ay:=Aside0.mk (ak cq.out)
    have aA:=Aside0.mk (bn HB.out)
    clear cq
    clear HB
    have cq:=ay
    have HB:=aA
    clear ay aA
    refine eG (n:=9) (S:=fun w'=>True) (ds:=[]) #[false,false,false,false,false,false,false,false,false] (by kernel_rfl) rfl rfl trivial (fun hHeld=>?_);refine jg bD.FO bD.AG (fun ck nZ=>?_)
    generalize sM.drew=w21 at cq HB hHeld⊢
    refine bZ ck (i:=0) (N:=some 14) ?_
    refine bZ ck (i:=1) (N:=some 15) ?_
    refine bZ ck (i:=2) (N:=some 16) ?_
    refine bZ ck (i:=3) (N:=some 17) ?_
    refine bZ ck (i:=4) (N:=some 18) ?_
    refine bZ ck (i:=5) (N:=some 19) ?_
    refine bZ ck (i:=6) (N:=some 20) ?_
    refine fK (i:=7) (N:=some 6) #[true,true,true,true,true,true,true,true,false] rfl rfl (kN ck.out (by kernel_rfl)) (by decide) (fun K hK=>?_)
    refine Ah ?hg (N:=6) ?hd (cs:= #[.int .i64 0,.int .i64 0]) (t:=26) ?hr ?_;(case hd=>rfl);(case hg=>rfl);(case hr=>first|(go_simp;done)|(go_simp;rfl))
    intro kI hg uB aU hb
    have ay:=Aside0.mk (ah (g:=dW) (o:= .cells #[.int .i64 0,.int .i64 0] 26 (0,0)) (aJ cq) hb)
    have aA:=Aside0.mk (ai ax hb)
    have aD:=Aside0.mk (aU)
    have aR:=Aside0.mk ((by rw [hg];exact (av ax):w.heap.size<=kI))
    have bK:=Aside0.mk ((by rw [hg];exact (av ax):w.heap.size<=kI))
    have bT:=Aside0.mk ((by rw [hg];exact Nat.ne_of_lt (aY (g:=dW) (o:= .cells #[.int .i64 0,.int .i64 0] 26 (0,0)) (aJ cq)):dW≠kI))
    have cm:=Aside0.mk ((by rw [hg];exact Nat.ne_of_gt (aY (g:=dW) (o:= .cells #[.int .i64 0,.int .i64 0] 26 (0,0)) (aJ cq)):kI≠dW))
    clear cq
    clear HB
    have cq:=ay
    have HB:=aA
    have iE:=aD
    have b3t:=aR
    have b3u:=bK
    have kR:=bT
    have pK:=cm
    clear ay aA aD aR bK bT cm
    clear hb aU hg
    refine hK.out _ _ trivial (fun hHeld=>?_)
    clear hK K
    refine eP (a':=?_) ?_ ?_
    rotate_left
    ·show Act.put _ (some 6) _=_
     simp only [Act.put,List.setIfInBounds_toArray,List.set_cons_zero,List.set_cons_succ,cZ,eo]
     rfl
    refine fK (i:=8) (N:=none) #[true,true,true,true,true,true,true,true,true] rfl rfl (kN ck.out (by kernel_rfl)) (by decide) (fun K hK=>?_)
    have hs23:uB.cell? ⟨kI,0,none⟩=some (.int .i64 0):=(ag iE.out 0).trans rfl
    have hfs23:=aa iE.out 0
    have hns23_0:=kR.out
    have hms23_0:=pK.out
    have hs24:uB.cell? ⟨kI,1,none⟩=some (.int .i64 0):=(ag iE.out 1).trans rfl
    have hfs24:=aa iE.out 1
    have hns24_0:=kR.out
    have hms24_0:=pK.out
    refine ku (w1:=?_) (by rfl) rfl ?_ ?_
    rotate_left
    ·go_simp
     rfl
    refine hK.out _ _ trivial (fun hHeld=>?_)
    clear hK K
    refine fl (lS ck.out (by kernel_rfl)) ?_
    have b3x:=pK.out
    have b3y:=kR.out
    have KD:uB.cell? ⟨kI,0,none⟩=some (.int .i64 0):=(ag iE.out 0).trans rfl
    have KE:uB.cell? ⟨kI,1,none⟩=some (.int .i64 0):=(ag iE.out 1).trans rfl
    have KF:=aa iE.out 0
    have KG:=aa iE.out 1
    try go_wp2_with (first|((with_reducible refine aZ (f:=46) rfl ?_);refine bO (some 22) rfl rfl Try.func46 (by kernel_rfl) rfl #[.agg #[.int .i64 (wrap64 (Int.tdiv a0 (wrap64 (-cQ)))),.int .i64 (wrap64 (Int.tdiv a1 (wrap64 (-cQ))))]] rfl (by (try simp only [List.map_toArray,List.map_cons,List.map_nil]);first|done|rfl|(simp only [List.length_drop,List.length_take];rfl)) ?_;(with_reducible refine (bS.calls k (wrap64 (Int.tdiv a0 (wrap64 (-cQ)))) (wrap64 (Int.tdiv a1 (wrap64 (-cQ)))) false _ A6.out).mono ?_);rintro e LY ⟨rfl,hb⟩;refine ⟨_,rfl,?_⟩;have ay:=Aside0.mk (ah (g:=dW) (o:= .cells #[.int .i64 0,.int .i64 0] 26 (0,0)) (by (with_reducible repeat (first|refine au ?_ _|refine ak ?_|refine aq ?_ _));refine di ?_ kR.out _;(with_reducible repeat (first|refine au ?_ _|refine ak ?_|refine aq ?_ _));refine di ?_ kR.out _;(with_reducible repeat (first|refine au ?_ _|refine ak ?_|refine aq ?_ _));exact cq.out) hb);have aA:=Aside0.mk (ah (g:=kI) (o:= .cells #[.int .i64 (wrap64 (Int.tdiv a0 (wrap64 (-cQ)))),.int .i64 (wrap64 (Int.tdiv a1 (wrap64 (-cQ))))] 26 (0,0)) (by (with_reducible repeat (first|refine au ?_ _|refine ak ?_|refine aq ?_ _));refine aX (cs:= #[.int .i64 (wrap64 (Int.tdiv a0 (wrap64 (-cQ)))),.int .i64 0]) ?_ 1 _ rfl;(with_reducible repeat (first|refine au ?_ _|refine ak ?_|refine aq ?_ _));refine aX (cs:= #[.int .i64 0,.int .i64 0]) ?_ 0 _ rfl;(with_reducible repeat (first|refine au ?_ _|refine ak ?_|refine aq ?_ _));exact iE.out) hb);have aD:=Aside0.mk (ai ax hb);clear cq;clear iE;clear HB;have cq:=ay;have iE:=aA;have HB:=aD;clear ay aA aD;(try clear hb);(try clear hb2);(try clear hk);(try clear hi);have tJ:LY.cell? ⟨dW,0,none⟩=some (.int .i64 0):=(ag cq.out 0).trans rfl;have tK:LY.cell? ⟨dW,1,none⟩=some (.int .i64 0):=(ag cq.out 1).trans rfl;have tL:=aa cq.out 0;have tM:=aa cq.out 1))
    refine bodyPost_ret (results_cell_row rfl _ _ dW 26 #[.int .i64 0,.int .i64 0] (0,0) _ rfl (by (with_reducible repeat (first|refine au ?_ _|refine ak ?_|refine aq ?_ _));refine aX (cs:= #[.int .i64 0,.int .i64 0]) ?_ 1 _ rfl;(with_reducible repeat (first|refine au ?_ _|refine ak ?_|refine aq ?_ _));refine aX (cs:= #[.int .i64 0,.int .i64 0]) ?_ 0 _ rfl;(with_reducible repeat (first|refine au ?_ _|refine ak ?_|refine aq ?_ _));exact cq.out) Try.underlying26 rfl (by kernel_rfl)) rfl ?_
    exact ⟨by first|rfl|(simp [aM,aQ]<;>rfl)|(simp [*,aM,aQ]<;>rfl),ax⟩
 ·rw [if_neg c4] at H
  have kP:decide (a1<0)=false:=decide_eq_false c4
  clear c4
  by_cases c29:cQ=0
  ·rw [if_pos c29] at H
   exact absurd H (by simp)
  ·rw [if_neg c29] at H
   have c29b0:(cQ==0)=false:=beq_eq_false_iff_ne.mpr c29
   have c29b1:(cQ !=0)=true:=bne_iff_ne.mpr c29
   replace H:=Option.bind_eq_some_iff.mp H
   obtain ⟨Ch,a9a,H⟩:=H
   replace H:(if Ch=true then (some (wrap64 (Int.tdiv a0 cQ),wrap64 (Int.tdiv a1 cQ))) else (some (0,0)))=some (r1,r2):=H
   have iO:=Aside0.mk a9a
   clear a9a
   by_cases c31:Ch=true
   ·subst c31
    have H1:(some (wrap64 (Int.tdiv a0 cQ),wrap64 (Int.tdiv a1 cQ)))=some (r1,r2):=by rw [if_pos rfl] at H;exact H
    clear H
    have H:=H1
    clear H1
    simp only [Option.some.injEq,Prod.mk.injEq] at H
    obtain ⟨rfl,rfl⟩:=H
    go_enter Try.func45,Try.ntmps45
    try go_wp2_with (first|((with_reducible refine bk (N:=4) rfl ?_);refine bp ?hg (N:=4) ?hd (cs:= #[.int .i64 0,.int .i64 0]) (t:=26) ?hr ?_;(case hd=>rfl);(case hg=>rfl);(case hr=>first|(go_simp;done)|(go_simp;rfl));intro dW hg qw aU hb;have ay:=Aside0.mk (ai ax hb);have aA:=Aside0.mk (aU);have aD:=Aside0.mk ((by rw [hg];exact (av ax):w.heap.size<=dW));have aR:=Aside0.mk ((by rw [hg];exact (av ax):w.heap.size<=dW));clear HB;have HB:=ay;have cq:=aA;have UK:=aD;have UL:=aR;clear ay aA aD aR;clear hb aU hg)|((with_reducible refine aZ (f:=61) rfl ?_);refine bO (some 9) rfl rfl Try.func61 (by kernel_rfl) rfl #[.int .i64 a0,.int .i64 a1] rfl (by (try simp only [List.map_toArray,List.map_cons,List.map_nil]);first|done|rfl|(simp only [List.length_drop,List.length_take];rfl)) ?_;(with_reducible refine (dn.calls k a0 a1 cQ _ A3.out).mono ?_);rintro e w33 ⟨rfl,hb⟩;refine ⟨_,rfl,?_⟩;have ay:=Aside0.mk (ah (g:=dW) (o:= .cells #[.int .i64 0,.int .i64 0] 26 (0,0)) (aJ cq) hb);have aA:=Aside0.mk (ai ax hb);clear cq;clear HB;have cq:=ay;have HB:=aA;clear ay aA;(try clear hb);(try clear hb2);(try clear hk);(try clear hi)))
    have ay:=Aside0.mk (ak cq.out)
    have aA:=Aside0.mk (bn HB.out)
    clear cq
    clear HB
    have cq:=ay
    have HB:=aA
    clear ay aA
    refine eG (n:=9) (S:=fun w'=>True) (ds:=[]) #[false,false,false,false,false,false,false,false,false] (by kernel_rfl) rfl rfl trivial (fun hHeld=>?_);refine jg bD.FO bD.AG (fun ck nZ=>?_)
    generalize w33.drew=w34 at cq HB hHeld⊢
    refine bZ ck (i:=0) (N:=some 14) ?_
    refine bZ ck (i:=1) (N:=some 15) ?_
    refine bZ ck (i:=2) (N:=some 16) ?_
    refine bZ ck (i:=3) (N:=some 17) ?_
    refine bZ ck (i:=4) (N:=some 18) ?_
    refine bZ ck (i:=5) (N:=some 19) ?_
    refine bZ ck (i:=6) (N:=some 20) ?_
    refine fK (i:=7) (N:=some 6) #[true,true,true,true,true,true,true,true,false] rfl rfl (kN ck.out (by kernel_rfl)) (by decide) (fun K hK=>?_)
    refine Ah ?hg (N:=6) ?hd (cs:= #[.int .i64 0,.int .i64 0]) (t:=26) ?hr ?_;(case hd=>rfl);(case hg=>rfl);(case hr=>first|(go_simp;done)|(go_simp;rfl))
    intro kJ hg pI aU hb
    have ay:=Aside0.mk (ah (g:=dW) (o:= .cells #[.int .i64 0,.int .i64 0] 26 (0,0)) (aJ cq) hb)
    have aA:=Aside0.mk (ai ax hb)
    have aD:=Aside0.mk (aU)
    have aR:=Aside0.mk ((by rw [hg];exact (av ax):w.heap.size<=kJ))
    have bK:=Aside0.mk ((by rw [hg];exact (av ax):w.heap.size<=kJ))
    have bT:=Aside0.mk ((by rw [hg];exact Nat.ne_of_lt (aY (g:=dW) (o:= .cells #[.int .i64 0,.int .i64 0] 26 (0,0)) (aJ cq)):dW≠kJ))
    have cm:=Aside0.mk ((by rw [hg];exact Nat.ne_of_gt (aY (g:=dW) (o:= .cells #[.int .i64 0,.int .i64 0] 26 (0,0)) (aJ cq)):kJ≠dW))
    clear cq
    clear HB
    have cq:=ay
    have HB:=aA
    have iF:=aD
    have b3z:=aR
    have b3A:=bK
    have kS:=bT
    have pL:=cm
    clear ay aA aD aR bK bT cm
    clear hb aU hg
    refine hK.out _ _ trivial (fun hHeld=>?_)
    clear hK K
    refine eP (a':=?_) ?_ ?_
    rotate_left
    ·show Act.put _ (some 6) _=_
     simp only [Act.put,List.setIfInBounds_toArray,List.set_cons_zero,List.set_cons_succ,cZ,eo]
     rfl
    refine fK (i:=8) (N:=none) #[true,true,true,true,true,true,true,true,true] rfl rfl (kN ck.out (by kernel_rfl)) (by decide) (fun K hK=>?_)
    have hs36:pI.cell? ⟨kJ,0,none⟩=some (.int .i64 0):=(ag iF.out 0).trans rfl
    have hfs36:=aa iF.out 0
    have hns36_0:=kS.out
    have hms36_0:=pL.out
    have hs37:pI.cell? ⟨kJ,1,none⟩=some (.int .i64 0):=(ag iF.out 1).trans rfl
    have hfs37:=aa iF.out 1
    have hns37_0:=kS.out
    have hms37_0:=pL.out
    refine ku (w1:=?_) (by rfl) rfl ?_ ?_
    rotate_left
    ·go_simp
     rfl
    refine hK.out _ _ trivial (fun hHeld=>?_)
    clear hK K
    refine fl (lS ck.out (by kernel_rfl)) ?_
    have b3B:=pL.out
    have b3C:=kS.out
    have DI:pI.cell? ⟨kJ,0,none⟩=some (.int .i64 0):=(ag iF.out 0).trans rfl
    have DJ:pI.cell? ⟨kJ,1,none⟩=some (.int .i64 0):=(ag iF.out 1).trans rfl
    have DK:=aa iF.out 0
    have DL:=aa iF.out 1
    try go_wp2_with (first|((with_reducible refine aZ (f:=46) rfl ?_);refine bO (some 22) rfl rfl Try.func46 (by kernel_rfl) rfl #[.agg #[.int .i64 (wrap64 (Int.tdiv a0 cQ)),.int .i64 (wrap64 (Int.tdiv a1 cQ))]] rfl (by (try simp only [List.map_toArray,List.map_cons,List.map_nil]);first|done|rfl|(simp only [List.length_drop,List.length_take];rfl)) ?_;(with_reducible refine (bS.calls k (wrap64 (Int.tdiv a0 cQ)) (wrap64 (Int.tdiv a1 cQ)) true _ iO.out).mono ?_);rintro e wL ⟨rfl,hb⟩;refine ⟨_,rfl,?_⟩;have ay:=Aside0.mk (ah (g:=dW) (o:= .cells #[.int .i64 0,.int .i64 0] 26 (0,0)) (by (with_reducible repeat (first|refine au ?_ _|refine ak ?_|refine aq ?_ _));refine di ?_ kS.out _;(with_reducible repeat (first|refine au ?_ _|refine ak ?_|refine aq ?_ _));refine di ?_ kS.out _;(with_reducible repeat (first|refine au ?_ _|refine ak ?_|refine aq ?_ _));exact cq.out) hb);have aA:=Aside0.mk (ah (g:=kJ) (o:= .cells #[.int .i64 (wrap64 (Int.tdiv a0 cQ)),.int .i64 (wrap64 (Int.tdiv a1 cQ))] 26 (0,0)) (by (with_reducible repeat (first|refine au ?_ _|refine ak ?_|refine aq ?_ _));refine aX (cs:= #[.int .i64 (wrap64 (Int.tdiv a0 cQ)),.int .i64 0]) ?_ 1 _ rfl;(with_reducible repeat (first|refine au ?_ _|refine ak ?_|refine aq ?_ _));refine aX (cs:= #[.int .i64 0,.int .i64 0]) ?_ 0 _ rfl;(with_reducible repeat (first|refine au ?_ _|refine ak ?_|refine aq ?_ _));exact iF.out) hb);have aD:=Aside0.mk (ai ax hb);clear cq;clear iF;clear HB;have cq:=ay;have iF:=aA;have HB:=aD;clear ay aA aD;(try clear hb);(try clear hb2);(try clear hk);(try clear hi);have KH:wL.cell? ⟨kJ,0,none⟩=some (.int .i64 (wrap64 (Int.tdiv a0 cQ))):=(ag iF.out 0).trans rfl;have KJ:wL.cell? ⟨kJ,1,none⟩=some (.int .i64 (wrap64 (Int.tdiv a1 cQ))):=(ag iF.out 1).trans rfl;have KL:=aa iF.out 0;have KM:=aa iF.out 1;have a5R:wL.cell? ⟨dW,0,none⟩=some (.int .i64 0):=(ag cq.out 0).trans rfl;have a5S:wL.cell? ⟨dW,1,none⟩=some (.int .i64 0):=(ag cq.out 1).trans rfl;have a5T:=aa cq.out 0;have a5U:=aa cq.out 1))
    refine bodyPost_ret (results_cell_row rfl _ _ dW 26 #[.int .i64 (wrap64 (Int.tdiv a0 cQ)),.int .i64 (wrap64 (Int.tdiv a1 cQ))] (0,0) _ rfl (by (with_reducible repeat (first|refine au ?_ _|refine ak ?_|refine aq ?_ _));refine aX (cs:= #[.int .i64 (wrap64 (Int.tdiv a0 cQ)),.int .i64 0]) ?_ 1 _ rfl;(with_reducible repeat (first|refine au ?_ _|refine ak ?_|refine aq ?_ _));refine aX (cs:= #[.int .i64 0,.int .i64 0]) ?_ 0 _ rfl;(with_reducible repeat (first|refine au ?_ _|refine ak ?_|refine aq ?_ _));exact cq.out) Try.underlying26 rfl (by kernel_rfl)) rfl ?_
    exact ⟨by first|rfl|(simp [aM,aQ]<;>rfl)|(simp [*,aM,aQ]<;>rfl),ax⟩
   ·replace c31:=Bool.eq_false_iff.mpr c31
    subst c31
    have H1:(some (0,0))=some (r1,r2):=by rw [if_neg (show ¬(false=true) by decide)] at H;exact H
    clear H
    have H:=H1
    clear H1
    simp only [Option.some.injEq,Prod.mk.injEq] at H
    obtain ⟨rfl,rfl⟩:=H
    go_enter Try.func45,Try.ntmps45
    try go_wp2_with (first|((with_reducible refine bk (N:=4) rfl ?_);refine bp ?hg (N:=4) ?hd (cs:= #[.int .i64 0,.int .i64 0]) (t:=26) ?hr ?_;(case hd=>rfl);(case hg=>rfl);(case hr=>first|(go_simp;done)|(go_simp;rfl));intro dW hg w43 aU hb;have ay:=Aside0.mk (ai ax hb);have aA:=Aside0.mk (aU);have aD:=Aside0.mk ((by rw [hg];exact (av ax):w.heap.size<=dW));have aR:=Aside0.mk ((by rw [hg];exact (av ax):w.heap.size<=dW));clear HB;have HB:=ay;have cq:=aA;have UK:=aD;have UL:=aR;clear ay aA aD aR;clear hb aU hg)|((with_reducible refine aZ (f:=61) rfl ?_);refine bO (some 9) rfl rfl Try.func61 (by kernel_rfl) rfl #[.int .i64 a0,.int .i64 a1] rfl (by (try simp only [List.map_toArray,List.map_cons,List.map_nil]);first|done|rfl|(simp only [List.length_drop,List.length_take];rfl)) ?_;(with_reducible refine (dn.calls k a0 a1 cQ _ A3.out).mono ?_);rintro e Bp ⟨rfl,hb⟩;refine ⟨_,rfl,?_⟩;have ay:=Aside0.mk (ah (g:=dW) (o:= .cells #[.int .i64 0,.int .i64 0] 26 (0,0)) (aJ cq) hb);have aA:=Aside0.mk (ai ax hb);clear cq;clear HB;have cq:=ay;have HB:=aA;clear ay aA;(try clear hb);(try clear hb2);(try clear hk);(try clear hi)))
    have ay:=Aside0.mk (ak cq.out)
    have aA:=Aside0.mk (bn HB.out)
    clear cq
    clear HB
    have cq:=ay
    have HB:=aA
    clear ay aA
    refine eG (n:=9) (S:=fun w'=>True) (ds:=[]) #[false,false,false,false,false,false,false,false,false] (by kernel_rfl) rfl rfl trivial (fun hHeld=>?_);refine jg bD.FO bD.AG (fun ck nZ=>?_)
    generalize Bp.drew=w45 at cq HB hHeld⊢
    refine bZ ck (i:=0) (N:=some 14) ?_
    refine bZ ck (i:=1) (N:=some 15) ?_
    refine bZ ck (i:=2) (N:=some 16) ?_
    refine bZ ck (i:=3) (N:=some 17) ?_
    refine bZ ck (i:=4) (N:=some 18) ?_
    refine bZ ck (i:=5) (N:=some 19) ?_
    refine bZ ck (i:=6) (N:=some 20) ?_
    refine fK (i:=7) (N:=some 6) #[true,true,true,true,true,true,true,true,false] rfl rfl (kN ck.out (by kernel_rfl)) (by decide) (fun K hK=>?_)
    refine Ah ?hg (N:=6) ?hd (cs:= #[.int .i64 0,.int .i64 0]) (t:=26) ?hr ?_;(case hd=>rfl);(case hg=>rfl);(case hr=>first|(go_simp;done)|(go_simp;rfl))
    intro kJ hg w46 aU hb
    have ay:=Aside0.mk (ah (g:=dW) (o:= .cells #[.int .i64 0,.int .i64 0] 26 (0,0)) (aJ cq) hb)
    have aA:=Aside0.mk (ai ax hb)
    have aD:=Aside0.mk (aU)
    have aR:=Aside0.mk ((by rw [hg];exact (av ax):w.heap.size<=kJ))
    have bK:=Aside0.mk ((by rw [hg];exact (av ax):w.heap.size<=kJ))
    have bT:=Aside0.mk ((by rw [hg];exact Nat.ne_of_lt (aY (g:=dW) (o:= .cells #[.int .i64 0,.int .i64 0] 26 (0,0)) (aJ cq)):dW≠kJ))
    have cm:=Aside0.mk ((by rw [hg];exact Nat.ne_of_gt (aY (g:=dW) (o:= .cells #[.int .i64 0,.int .i64 0] 26 (0,0)) (aJ cq)):kJ≠dW))
    clear cq
    clear HB
    have cq:=ay
    have HB:=aA
    have iF:=aD
    have b3z:=aR
    have b3A:=bK
    have kS:=bT
    have pL:=cm
    clear ay aA aD aR bK bT cm
    clear hb aU hg
    refine hK.out _ _ trivial (fun hHeld=>?_)
    clear hK K
    refine eP (a':=?_) ?_ ?_
    rotate_left
    ·show Act.put _ (some 6) _=_
     simp only [Act.put,List.setIfInBounds_toArray,List.set_cons_zero,List.set_cons_succ,cZ,eo]
     rfl
    refine fK (i:=8) (N:=none) #[true,true,true,true,true,true,true,true,true] rfl rfl (kN ck.out (by kernel_rfl)) (by decide) (fun K hK=>?_)
    have hs47:w46.cell? ⟨kJ,0,none⟩=some (.int .i64 0):=(ag iF.out 0).trans rfl
    have hfs47:=aa iF.out 0
    have hns47_0:=kS.out
    have hms47_0:=pL.out
    have hs48:w46.cell? ⟨kJ,1,none⟩=some (.int .i64 0):=(ag iF.out 1).trans rfl
    have hfs48:=aa iF.out 1
    have hns48_0:=kS.out
    have hms48_0:=pL.out
    refine ku (w1:=?_) (by rfl) rfl ?_ ?_
    rotate_left
    ·go_simp
     rfl
    refine hK.out _ _ trivial (fun hHeld=>?_)
    clear hK K
    refine fl (lS ck.out (by kernel_rfl)) ?_
    have hnb49:=pL.out
    have hnc49:=kS.out
    have hcz50_0:w46.cell? ⟨kJ,0,none⟩=some (.int .i64 0):=(ag iF.out 0).trans rfl
    have hcz50_1:w46.cell? ⟨kJ,1,none⟩=some (.int .i64 0):=(ag iF.out 1).trans rfl
    have hfz50_0:=aa iF.out 0
    have hfz50_1:=aa iF.out 1
    try go_wp2_with (first|((with_reducible refine aZ (f:=46) rfl ?_);refine bO (some 22) rfl rfl Try.func46 (by kernel_rfl) rfl #[.agg #[.int .i64 (wrap64 (Int.tdiv a0 cQ)),.int .i64 (wrap64 (Int.tdiv a1 cQ))]] rfl (by (try simp only [List.map_toArray,List.map_cons,List.map_nil]);first|done|rfl|(simp only [List.length_drop,List.length_take];rfl)) ?_;(with_reducible refine (bS.calls k (wrap64 (Int.tdiv a0 cQ)) (wrap64 (Int.tdiv a1 cQ)) false _ iO.out).mono ?_);rintro e w51 ⟨rfl,hb⟩;refine ⟨_,rfl,?_⟩;have ay:=Aside0.mk (ah (g:=dW) (o:= .cells #[.int .i64 0,.int .i64 0] 26 (0,0)) (by (with_reducible repeat (first|refine au ?_ _|refine ak ?_|refine aq ?_ _));refine di ?_ kS.out _;(with_reducible repeat (first|refine au ?_ _|refine ak ?_|refine aq ?_ _));refine di ?_ kS.out _;(with_reducible repeat (first|refine au ?_ _|refine ak ?_|refine aq ?_ _));exact cq.out) hb);have aA:=Aside0.mk (ah (g:=kJ) (o:= .cells #[.int .i64 (wrap64 (Int.tdiv a0 cQ)),.int .i64 (wrap64 (Int.tdiv a1 cQ))] 26 (0,0)) (by (with_reducible repeat (first|refine au ?_ _|refine ak ?_|refine aq ?_ _));refine aX (cs:= #[.int .i64 (wrap64 (Int.tdiv a0 cQ)),.int .i64 0]) ?_ 1 _ rfl;(with_reducible repeat (first|refine au ?_ _|refine ak ?_|refine aq ?_ _));refine aX (cs:= #[.int .i64 0,.int .i64 0]) ?_ 0 _ rfl;(with_reducible repeat (first|refine au ?_ _|refine ak ?_|refine aq ?_ _));exact iF.out) hb);have aD:=Aside0.mk (ai ax hb);clear cq;clear iF;clear HB;have cq:=ay;have iF:=aA;have HB:=aD;clear ay aA aD;(try clear hb);(try clear hb2);(try clear hk);(try clear hi);have a5V:w51.cell? ⟨dW,0,none⟩=some (.int .i64 0):=(ag cq.out 0).trans rfl;have a5W:w51.cell? ⟨dW,1,none⟩=some (.int .i64 0):=(ag cq.out 1).trans rfl;have a5X:=aa cq.out 0;have a5Y:=aa cq.out 1))
    refine bodyPost_ret (results_cell_row rfl _ _ dW 26 #[.int .i64 0,.int .i64 0] (0,0) _ rfl (by (with_reducible repeat (first|refine au ?_ _|refine ak ?_|refine aq ?_ _));refine aX (cs:= #[.int .i64 0,.int .i64 0]) ?_ 1 _ rfl;(with_reducible repeat (first|refine au ?_ _|refine ak ?_|refine aq ?_ _));refine aX (cs:= #[.int .i64 0,.int .i64 0]) ?_ 0 _ rfl;(with_reducible repeat (first|refine au ?_ _|refine ak ?_|refine aq ?_ _));exact cq.out) Try.underlying26 rfl (by kernel_rfl)) rfl ?_
    exact ⟨by first|rfl|(simp [aM,aQ]<;>rfl)|(simp [*,aM,aQ]<;>rfl),ax⟩
def ji.f (k:Nat) (aH:Int) (aG:Int) (bg:Int) (aV:Int):Option (Int×Int):=(bD.f k (wrap64 ((wrap64 (aH*aV))-(wrap64 (bg*aG)))) (wrap64 (aG*aV))).bind fun HV=>(some (HV.1,HV.2))
theorem ji.mono:∀a0 a1 a2 a3 k,aW (ji.f k a0 a1 a2 a3) (ji.f (k+1) a0 a1 a2 a3):=by
 intro a0 a1 a2 a3 k
 unfold ji.f
 repeat' first
  |(with_reducible exact bD.mono _ _ _)
  |(with_reducible exact aW.refl _)
  |(with_reducible exact aW.none _)
  |(with_reducible refine aW.ite ?_ ?_)
  |(with_reducible refine aW.bind ?_ (fun _=>?_))
set_option maxHeartbeats 8000000 in
set_option maxRecDepth 100000 in
theorem ji.calls (k:Nat) (aH:Int) (aG:Int) (bg:Int) (aV:Int) (r1:Int) (r2:Int) (w:World) (h:ji.f k aH aG bg aV=some (r1,r2)):
 Calls Try.prog 85 #[.agg #[.int .i64 aH,.int .i64 aG],.agg #[.int .i64 bg,.int .i64 aV]] w fun e w'=>e= .returned (.agg #[.int .i64 r1,.int .i64 r2])/\Below w.heap.size w w':=by
 have lY:=Try.underlying26
 have HB:=Aside0.mk (Below.refl w.heap.size w)
 have H:((bD.f k (wrap64 ((wrap64 (aH*aV))-(wrap64 (bg*aG)))) (wrap64 (aG*aV))).bind fun HV=>(some (HV.1,HV.2)))=some (r1,r2):=h
 clear h
 replace H:=Option.bind_eq_some_iff.mp H
 obtain ⟨⟨UM,a0V⟩,iO,H⟩:=H
 replace H:(some (UM,a0V))=some (r1,r2):=H
 have A3:=Aside0.mk iO
 clear iO
 simp only [Option.some.injEq,Prod.mk.injEq] at H
 obtain ⟨rfl,rfl⟩:=H
 go_enter Try.func85,Try.ntmps85
 go_wp2_with (first|((with_reducible refine bk (N:=2) rfl ?_);refine bp ?hg (N:=2) ?hd (cs:= #[.int .i64 aH,.int .i64 aG]) (t:=26) ?hr ?_;(case hd=>rfl);(case hg=>rfl);(case hr=>first|(go_simp;done)|(go_simp;rfl));intro ow hg w4 aU hb;have ay:=Aside0.mk (ai ax hb);have aA:=Aside0.mk (aU);have aD:=Aside0.mk ((by rw [hg];exact (av ax):w.heap.size<=ow));have aR:=Aside0.mk ((by rw [hg];exact (av ax):w.heap.size<=ow));clear HB;have HB:=ay;have mL:=aA;have GW377:=aD;have GE377:=aR;clear ay aA aD aR;clear hb aU hg)|((with_reducible refine bk (N:=3) rfl ?_);refine bp ?hg (N:=3) ?hd (cs:= #[.int .i64 bg,.int .i64 aV]) (t:=26) ?hr ?_;(case hd=>rfl);(case hg=>rfl);(case hr=>first|(go_simp;done)|(go_simp;rfl));intro qR hg w5 aU hb;have ay:=Aside0.mk (ah (g:=ow) (o:= .cells #[.int .i64 aH,.int .i64 aG] 26 (0,0)) (aJ mL) hb);have aA:=Aside0.mk (ai ax hb);have aD:=Aside0.mk (aU);have aR:=Aside0.mk ((by rw [hg];exact (av ax):w.heap.size<=qR));have bK:=Aside0.mk ((by rw [hg];exact (av ax):w.heap.size<=qR));have bT:=Aside0.mk ((by rw [hg];exact Nat.ne_of_lt (aY (g:=ow) (o:= .cells #[.int .i64 aH,.int .i64 aG] 26 (0,0)) (aJ mL)):ow≠qR));have cm:=Aside0.mk ((by rw [hg];exact Nat.ne_of_gt (aY (g:=ow) (o:= .cells #[.int .i64 aH,.int .i64 aG] 26 (0,0)) (aJ mL)):qR≠ow));clear mL;clear HB;have mL:=ay;have HB:=aA;have qT:=aD;have GW378:=aR;have GE378:=bK;have WY:=bT;have WZ:=cm;clear ay aA aD aR bK bT cm;clear hb aU hg)|((with_reducible refine bk (N:=4) rfl ?_);refine bp ?hg (N:=4) ?hd (cs:= #[.int .i64 0,.int .i64 0]) (t:=26) ?hr ?_;(case hd=>rfl);(case hg=>rfl);(case hr=>first|(go_simp;done)|(go_simp;rfl));intro tW hg w6 aU hb;have ay:=Aside0.mk (ah (g:=ow) (o:= .cells #[.int .i64 aH,.int .i64 aG] 26 (0,0)) (aJ mL) hb);have aA:=Aside0.mk (ah (g:=qR) (o:= .cells #[.int .i64 bg,.int .i64 aV] 26 (0,0)) (aJ qT) hb);have aD:=Aside0.mk (ai ax hb);have aR:=Aside0.mk (aU);have bK:=Aside0.mk ((by rw [hg];exact (av ax):w.heap.size<=tW));have bT:=Aside0.mk ((by rw [hg];exact (av ax):w.heap.size<=tW));have cm:=Aside0.mk ((by rw [hg];exact Nat.ne_of_lt (aY (g:=ow) (o:= .cells #[.int .i64 aH,.int .i64 aG] 26 (0,0)) (aJ mL)):ow≠tW));have iP:=Aside0.mk ((by rw [hg];exact Nat.ne_of_gt (aY (g:=ow) (o:= .cells #[.int .i64 aH,.int .i64 aG] 26 (0,0)) (aJ mL)):tW≠ow));have jk:=Aside0.mk ((by rw [hg];exact Nat.ne_of_lt (aY (g:=qR) (o:= .cells #[.int .i64 bg,.int .i64 aV] 26 (0,0)) (aJ qT)):qR≠tW));have ke:=Aside0.mk ((by rw [hg];exact Nat.ne_of_gt (aY (g:=qR) (o:= .cells #[.int .i64 bg,.int .i64 aV] 26 (0,0)) (aJ qT)):tW≠qR));clear mL;clear qT;clear HB;have mL:=ay;have qT:=aA;have HB:=aD;have xJ:=aR;have GW379:=bK;have GE379:=bT;have Xa:=cm;have Xb:=iP;have Xc:=jk;have Xd:=ke;clear ay aA aD aR bK bT cm iP jk ke;clear hb aU hg;have Fq:=WY.out;have Fs:=WZ.out;have KN:=Xa.out;have KO:=Xb.out;have wH:w6.cell? ⟨ow,0,none⟩=some (.int .i64 aH):=(ag mL.out 0).trans rfl;have wI:w6.cell? ⟨ow,1,none⟩=some (.int .i64 aG):=(ag mL.out 1).trans rfl;have wJ:=aa mL.out 0;have wK:=aa mL.out 1;have DM:=Xc.out;have DN:=Xd.out;have tF:w6.cell? ⟨qR,0,none⟩=some (.int .i64 bg):=(ag qT.out 0).trans rfl;have tG:w6.cell? ⟨qR,1,none⟩=some (.int .i64 aV):=(ag qT.out 1).trans rfl;have tH:=aa qT.out 0;have tI:=aa qT.out 1)|((with_reducible refine aZ (f:=45) rfl ?_);refine bO (some 21) rfl rfl Try.func45 (by kernel_rfl) rfl #[.int .i64 (wrap64 ((wrap64 (aH*aV))-(wrap64 (bg*aG)))),.int .i64 (wrap64 (aG*aV))] rfl (by (try simp only [List.map_toArray,List.map_cons,List.map_nil]);first|done|rfl|(simp only [List.length_drop,List.length_take];rfl)) ?_;(with_reducible refine (bD.calls k (wrap64 ((wrap64 (aH*aV))-(wrap64 (bg*aG)))) (wrap64 (aG*aV)) UM a0V _ A3.out).mono ?_);rintro e lD ⟨rfl,hb⟩;refine ⟨_,rfl,?_⟩;have ay:=Aside0.mk (ah (g:=ow) (o:= .cells #[.int .i64 aH,.int .i64 aG] 26 (0,0)) (aJ mL) hb);have aA:=Aside0.mk (ah (g:=qR) (o:= .cells #[.int .i64 bg,.int .i64 aV] 26 (0,0)) (aJ qT) hb);have aD:=Aside0.mk (ah (g:=tW) (o:= .cells #[.int .i64 0,.int .i64 0] 26 (0,0)) (aJ xJ) hb);have aR:=Aside0.mk (ai ax hb);clear mL;clear qT;clear xJ;clear HB;have mL:=ay;have qT:=aA;have xJ:=aD;have HB:=aR;clear ay aA aD aR;(try clear hb);(try clear hb2);(try clear hk);(try clear hi);have nC:lD.cell? ⟨tW,0,none⟩=some (.int .i64 0):=(ag xJ.out 0).trans rfl;have nD:lD.cell? ⟨tW,1,none⟩=some (.int .i64 0):=(ag xJ.out 1).trans rfl;have nE:=aa xJ.out 0;have nG:=aa xJ.out 1))
 refine bodyPost_ret (results_cell_row rfl _ _ tW 26 #[.int .i64 UM,.int .i64 a0V] (0,0) _ rfl (by (with_reducible repeat (first|refine au ?_ _|refine ak ?_|refine aq ?_ _));refine aX (cs:= #[.int .i64 UM,.int .i64 0]) ?_ 1 _ rfl;(with_reducible repeat (first|refine au ?_ _|refine ak ?_|refine aq ?_ _));refine aX (cs:= #[.int .i64 0,.int .i64 0]) ?_ 0 _ rfl;(with_reducible repeat (first|refine au ?_ _|refine ak ?_|refine aq ?_ _));exact xJ.out) Try.underlying26 rfl (by kernel_rfl)) rfl ?_
 exact ⟨by first|rfl|(simp [aM,aQ]<;>rfl)|(simp [*,aM,aQ]<;>rfl),ax⟩
def jl.f (k:Nat) (aH:Int) (aG:Int) (bg:Int) (aV:Int):Option (Int×Int):=(bD.f k (wrap64 (aH*bg)) (wrap64 (aG*aV))).bind fun Ia=>(some (Ia.1,Ia.2))
theorem jl.mono:∀a0 a1 a2 a3 k,aW (jl.f k a0 a1 a2 a3) (jl.f (k+1) a0 a1 a2 a3):=by
 intro a0 a1 a2 a3 k
 unfold jl.f
 repeat' first
  |(with_reducible exact bD.mono _ _ _)
  |(with_reducible exact aW.refl _)
  |(with_reducible exact aW.none _)
  |(with_reducible refine aW.ite ?_ ?_)
  |(with_reducible refine aW.bind ?_ (fun _=>?_))
set_option maxHeartbeats 8000000 in
set_option maxRecDepth 100000 in
theorem jl.calls (k:Nat) (aH:Int) (aG:Int) (bg:Int) (aV:Int) (r1:Int) (r2:Int) (w:World) (h:jl.f k aH aG bg aV=some (r1,r2)):
 Calls Try.prog 88 #[.agg #[.int .i64 aH,.int .i64 aG],.agg #[.int .i64 bg,.int .i64 aV]] w fun e w'=>e= .returned (.agg #[.int .i64 r1,.int .i64 r2])/\Below w.heap.size w w':=by
 have lY:=Try.underlying26
 have HB:=Aside0.mk (Below.refl w.heap.size w)
 have H:((bD.f k (wrap64 (aH*bg)) (wrap64 (aG*aV))).bind fun Ia=>(some (Ia.1,Ia.2)))=some (r1,r2):=h
 clear h
 replace H:=Option.bind_eq_some_iff.mp H
 obtain ⟨⟨UN,a0W⟩,iO,H⟩:=H
 replace H:(some (UN,a0W))=some (r1,r2):=H
 have A3:=Aside0.mk iO
 clear iO
 simp only [Option.some.injEq,Prod.mk.injEq] at H
 obtain ⟨rfl,rfl⟩:=H
 go_enter Try.func88,Try.ntmps88
 go_wp2_with (first|((with_reducible refine bk (N:=2) rfl ?_);refine bp ?hg (N:=2) ?hd (cs:= #[.int .i64 aH,.int .i64 aG]) (t:=26) ?hr ?_;(case hd=>rfl);(case hg=>rfl);(case hr=>first|(go_simp;done)|(go_simp;rfl));intro ox hg w4 aU hb;have ay:=Aside0.mk (ai ax hb);have aA:=Aside0.mk (aU);have aD:=Aside0.mk ((by rw [hg];exact (av ax):w.heap.size<=ox));have aR:=Aside0.mk ((by rw [hg];exact (av ax):w.heap.size<=ox));clear HB;have HB:=ay;have mM:=aA;have GW388:=aD;have GE388:=aR;clear ay aA aD aR;clear hb aU hg)|((with_reducible refine bk (N:=3) rfl ?_);refine bp ?hg (N:=3) ?hd (cs:= #[.int .i64 bg,.int .i64 aV]) (t:=26) ?hr ?_;(case hd=>rfl);(case hg=>rfl);(case hr=>first|(go_simp;done)|(go_simp;rfl));intro qU hg w5 aU hb;have ay:=Aside0.mk (ah (g:=ox) (o:= .cells #[.int .i64 aH,.int .i64 aG] 26 (0,0)) (aJ mM) hb);have aA:=Aside0.mk (ai ax hb);have aD:=Aside0.mk (aU);have aR:=Aside0.mk ((by rw [hg];exact (av ax):w.heap.size<=qU));have bK:=Aside0.mk ((by rw [hg];exact (av ax):w.heap.size<=qU));have bT:=Aside0.mk ((by rw [hg];exact Nat.ne_of_lt (aY (g:=ox) (o:= .cells #[.int .i64 aH,.int .i64 aG] 26 (0,0)) (aJ mM)):ox≠qU));have cm:=Aside0.mk ((by rw [hg];exact Nat.ne_of_gt (aY (g:=ox) (o:= .cells #[.int .i64 aH,.int .i64 aG] 26 (0,0)) (aJ mM)):qU≠ox));clear mM;clear HB;have mM:=ay;have HB:=aA;have qV:=aD;have GW389:=aR;have GE389:=bK;have Xe:=bT;have Xf:=cm;clear ay aA aD aR bK bT cm;clear hb aU hg)|((with_reducible refine bk (N:=4) rfl ?_);refine bp ?hg (N:=4) ?hd (cs:= #[.int .i64 0,.int .i64 0]) (t:=26) ?hr ?_;(case hd=>rfl);(case hg=>rfl);(case hr=>first|(go_simp;done)|(go_simp;rfl));intro tX hg w6 aU hb;have ay:=Aside0.mk (ah (g:=ox) (o:= .cells #[.int .i64 aH,.int .i64 aG] 26 (0,0)) (aJ mM) hb);have aA:=Aside0.mk (ah (g:=qU) (o:= .cells #[.int .i64 bg,.int .i64 aV] 26 (0,0)) (aJ qV) hb);have aD:=Aside0.mk (ai ax hb);have aR:=Aside0.mk (aU);have bK:=Aside0.mk ((by rw [hg];exact (av ax):w.heap.size<=tX));have bT:=Aside0.mk ((by rw [hg];exact (av ax):w.heap.size<=tX));have cm:=Aside0.mk ((by rw [hg];exact Nat.ne_of_lt (aY (g:=ox) (o:= .cells #[.int .i64 aH,.int .i64 aG] 26 (0,0)) (aJ mM)):ox≠tX));have iP:=Aside0.mk ((by rw [hg];exact Nat.ne_of_gt (aY (g:=ox) (o:= .cells #[.int .i64 aH,.int .i64 aG] 26 (0,0)) (aJ mM)):tX≠ox));have jk:=Aside0.mk ((by rw [hg];exact Nat.ne_of_lt (aY (g:=qU) (o:= .cells #[.int .i64 bg,.int .i64 aV] 26 (0,0)) (aJ qV)):qU≠tX));have ke:=Aside0.mk ((by rw [hg];exact Nat.ne_of_gt (aY (g:=qU) (o:= .cells #[.int .i64 bg,.int .i64 aV] 26 (0,0)) (aJ qV)):tX≠qU));clear mM;clear qV;clear HB;have mM:=ay;have qV:=aA;have HB:=aD;have xK:=aR;have GW390:=bK;have GE390:=bT;have Xg:=cm;have Xh:=iP;have Xi:=jk;have Xj:=ke;clear ay aA aD aR bK bT cm iP jk ke;clear hb aU hg;have Fq:=Xe.out;have Fs:=Xf.out;have KN:=Xg.out;have KO:=Xh.out;have wH:w6.cell? ⟨ox,0,none⟩=some (.int .i64 aH):=(ag mM.out 0).trans rfl;have wI:w6.cell? ⟨ox,1,none⟩=some (.int .i64 aG):=(ag mM.out 1).trans rfl;have wJ:=aa mM.out 0;have wK:=aa mM.out 1;have DM:=Xi.out;have DN:=Xj.out;have tF:w6.cell? ⟨qU,0,none⟩=some (.int .i64 bg):=(ag qV.out 0).trans rfl;have tG:w6.cell? ⟨qU,1,none⟩=some (.int .i64 aV):=(ag qV.out 1).trans rfl;have tH:=aa qV.out 0;have tI:=aa qV.out 1)|((with_reducible refine aZ (f:=45) rfl ?_);refine bO (some 15) rfl rfl Try.func45 (by kernel_rfl) rfl #[.int .i64 (wrap64 (aH*bg)),.int .i64 (wrap64 (aG*aV))] rfl (by (try simp only [List.map_toArray,List.map_cons,List.map_nil]);first|done|rfl|(simp only [List.length_drop,List.length_take];rfl)) ?_;(with_reducible refine (bD.calls k (wrap64 (aH*bg)) (wrap64 (aG*aV)) UN a0W _ A3.out).mono ?_);rintro e lD ⟨rfl,hb⟩;refine ⟨_,rfl,?_⟩;have ay:=Aside0.mk (ah (g:=ox) (o:= .cells #[.int .i64 aH,.int .i64 aG] 26 (0,0)) (aJ mM) hb);have aA:=Aside0.mk (ah (g:=qU) (o:= .cells #[.int .i64 bg,.int .i64 aV] 26 (0,0)) (aJ qV) hb);have aD:=Aside0.mk (ah (g:=tX) (o:= .cells #[.int .i64 0,.int .i64 0] 26 (0,0)) (aJ xK) hb);have aR:=Aside0.mk (ai ax hb);clear mM;clear qV;clear xK;clear HB;have mM:=ay;have qV:=aA;have xK:=aD;have HB:=aR;clear ay aA aD aR;(try clear hb);(try clear hb2);(try clear hk);(try clear hi);have nC:lD.cell? ⟨tX,0,none⟩=some (.int .i64 0):=(ag xK.out 0).trans rfl;have nD:lD.cell? ⟨tX,1,none⟩=some (.int .i64 0):=(ag xK.out 1).trans rfl;have nE:=aa xK.out 0;have nG:=aa xK.out 1))
 refine bodyPost_ret (results_cell_row rfl _ _ tX 26 #[.int .i64 UN,.int .i64 a0W] (0,0) _ rfl (by (with_reducible repeat (first|refine au ?_ _|refine ak ?_|refine aq ?_ _));refine aX (cs:= #[.int .i64 UN,.int .i64 0]) ?_ 1 _ rfl;(with_reducible repeat (first|refine au ?_ _|refine ak ?_|refine aq ?_ _));refine aX (cs:= #[.int .i64 0,.int .i64 0]) ?_ 0 _ rfl;(with_reducible repeat (first|refine au ?_ _|refine ak ?_|refine aq ?_ _));exact xK.out) Try.underlying26 rfl (by kernel_rfl)) rfl ?_
 exact ⟨by first|rfl|(simp [aM,aQ]<;>rfl)|(simp [*,aM,aQ]<;>rfl),ax⟩
def kf.f (k:Nat) (aH:Int) (aG:Int) (bg:Int) (aV:Int):Option (Int×Int):=(bD.f k (wrap64 (aH*aV)) (wrap64 (aG*bg))).bind fun Ib=>(some (Ib.1,Ib.2))
theorem kf.mono:∀a0 a1 a2 a3 k,aW (kf.f k a0 a1 a2 a3) (kf.f (k+1) a0 a1 a2 a3):=by
 intro a0 a1 a2 a3 k
 unfold kf.f
 repeat' first
  |(with_reducible exact bD.mono _ _ _)
  |(with_reducible exact aW.refl _)
  |(with_reducible exact aW.none _)
  |(with_reducible refine aW.ite ?_ ?_)
  |(with_reducible refine aW.bind ?_ (fun _=>?_))
set_option maxHeartbeats 8000000 in
set_option maxRecDepth 100000 in
theorem kf.calls (k:Nat) (aH:Int) (aG:Int) (bg:Int) (aV:Int) (r1:Int) (r2:Int) (w:World) (h:kf.f k aH aG bg aV=some (r1,r2)):
 Calls Try.prog 86 #[.agg #[.int .i64 aH,.int .i64 aG],.agg #[.int .i64 bg,.int .i64 aV]] w fun e w'=>e= .returned (.agg #[.int .i64 r1,.int .i64 r2])/\Below w.heap.size w w':=by
 have lY:=Try.underlying26
 have HB:=Aside0.mk (Below.refl w.heap.size w)
 have H:((bD.f k (wrap64 (aH*aV)) (wrap64 (aG*bg))).bind fun Ib=>(some (Ib.1,Ib.2)))=some (r1,r2):=h
 clear h
 replace H:=Option.bind_eq_some_iff.mp H
 obtain ⟨⟨UO,a0X⟩,iO,H⟩:=H
 replace H:(some (UO,a0X))=some (r1,r2):=H
 have A3:=Aside0.mk iO
 clear iO
 simp only [Option.some.injEq,Prod.mk.injEq] at H
 obtain ⟨rfl,rfl⟩:=H
 go_enter Try.func86,Try.ntmps86
 go_wp2_with (first|((with_reducible refine bk (N:=2) rfl ?_);refine bp ?hg (N:=2) ?hd (cs:= #[.int .i64 aH,.int .i64 aG]) (t:=26) ?hr ?_;(case hd=>rfl);(case hg=>rfl);(case hr=>first|(go_simp;done)|(go_simp;rfl));intro oy hg w4 aU hb;have ay:=Aside0.mk (ai ax hb);have aA:=Aside0.mk (aU);have aD:=Aside0.mk ((by rw [hg];exact (av ax):w.heap.size<=oy));have aR:=Aside0.mk ((by rw [hg];exact (av ax):w.heap.size<=oy));clear HB;have HB:=ay;have mN:=aA;have GW382:=aD;have GE382:=aR;clear ay aA aD aR;clear hb aU hg)|((with_reducible refine bk (N:=3) rfl ?_);refine bp ?hg (N:=3) ?hd (cs:= #[.int .i64 bg,.int .i64 aV]) (t:=26) ?hr ?_;(case hd=>rfl);(case hg=>rfl);(case hr=>first|(go_simp;done)|(go_simp;rfl));intro qW hg w5 aU hb;have ay:=Aside0.mk (ah (g:=oy) (o:= .cells #[.int .i64 aH,.int .i64 aG] 26 (0,0)) (aJ mN) hb);have aA:=Aside0.mk (ai ax hb);have aD:=Aside0.mk (aU);have aR:=Aside0.mk ((by rw [hg];exact (av ax):w.heap.size<=qW));have bK:=Aside0.mk ((by rw [hg];exact (av ax):w.heap.size<=qW));have bT:=Aside0.mk ((by rw [hg];exact Nat.ne_of_lt (aY (g:=oy) (o:= .cells #[.int .i64 aH,.int .i64 aG] 26 (0,0)) (aJ mN)):oy≠qW));have cm:=Aside0.mk ((by rw [hg];exact Nat.ne_of_gt (aY (g:=oy) (o:= .cells #[.int .i64 aH,.int .i64 aG] 26 (0,0)) (aJ mN)):qW≠oy));clear mN;clear HB;have mN:=ay;have HB:=aA;have qX:=aD;have GW383:=aR;have GE383:=bK;have Xk:=bT;have Xl:=cm;clear ay aA aD aR bK bT cm;clear hb aU hg)|((with_reducible refine bk (N:=4) rfl ?_);refine bp ?hg (N:=4) ?hd (cs:= #[.int .i64 0,.int .i64 0]) (t:=26) ?hr ?_;(case hd=>rfl);(case hg=>rfl);(case hr=>first|(go_simp;done)|(go_simp;rfl));intro tY hg w6 aU hb;have ay:=Aside0.mk (ah (g:=oy) (o:= .cells #[.int .i64 aH,.int .i64 aG] 26 (0,0)) (aJ mN) hb);have aA:=Aside0.mk (ah (g:=qW) (o:= .cells #[.int .i64 bg,.int .i64 aV] 26 (0,0)) (aJ qX) hb);have aD:=Aside0.mk (ai ax hb);have aR:=Aside0.mk (aU);have bK:=Aside0.mk ((by rw [hg];exact (av ax):w.heap.size<=tY));have bT:=Aside0.mk ((by rw [hg];exact (av ax):w.heap.size<=tY));have cm:=Aside0.mk ((by rw [hg];exact Nat.ne_of_lt (aY (g:=oy) (o:= .cells #[.int .i64 aH,.int .i64 aG] 26 (0,0)) (aJ mN)):oy≠tY));have iP:=Aside0.mk ((by rw [hg];exact Nat.ne_of_gt (aY (g:=oy) (o:= .cells #[.int .i64 aH,.int .i64 aG] 26 (0,0)) (aJ mN)):tY≠oy));have jk:=Aside0.mk ((by rw [hg];exact Nat.ne_of_lt (aY (g:=qW) (o:= .cells #[.int .i64 bg,.int .i64 aV] 26 (0,0)) (aJ qX)):qW≠tY));have ke:=Aside0.mk ((by rw [hg];exact Nat.ne_of_gt (aY (g:=qW) (o:= .cells #[.int .i64 bg,.int .i64 aV] 26 (0,0)) (aJ qX)):tY≠qW));clear mN;clear qX;clear HB;have mN:=ay;have qX:=aA;have HB:=aD;have xL:=aR;have GW384:=bK;have GE384:=bT;have Xm:=cm;have Xn:=iP;have Xo:=jk;have Xp:=ke;clear ay aA aD aR bK bT cm iP jk ke;clear hb aU hg;have Fq:=Xk.out;have Fs:=Xl.out;have KN:=Xm.out;have KO:=Xn.out;have wH:w6.cell? ⟨oy,0,none⟩=some (.int .i64 aH):=(ag mN.out 0).trans rfl;have wI:w6.cell? ⟨oy,1,none⟩=some (.int .i64 aG):=(ag mN.out 1).trans rfl;have wJ:=aa mN.out 0;have wK:=aa mN.out 1;have DM:=Xo.out;have DN:=Xp.out;have tF:w6.cell? ⟨qW,0,none⟩=some (.int .i64 bg):=(ag qX.out 0).trans rfl;have tG:w6.cell? ⟨qW,1,none⟩=some (.int .i64 aV):=(ag qX.out 1).trans rfl;have tH:=aa qX.out 0;have tI:=aa qX.out 1)|((with_reducible refine aZ (f:=45) rfl ?_);refine bO (some 15) rfl rfl Try.func45 (by kernel_rfl) rfl #[.int .i64 (wrap64 (aH*aV)),.int .i64 (wrap64 (aG*bg))] rfl (by (try simp only [List.map_toArray,List.map_cons,List.map_nil]);first|done|rfl|(simp only [List.length_drop,List.length_take];rfl)) ?_;(with_reducible refine (bD.calls k (wrap64 (aH*aV)) (wrap64 (aG*bg)) UO a0X _ A3.out).mono ?_);rintro e lD ⟨rfl,hb⟩;refine ⟨_,rfl,?_⟩;have ay:=Aside0.mk (ah (g:=oy) (o:= .cells #[.int .i64 aH,.int .i64 aG] 26 (0,0)) (aJ mN) hb);have aA:=Aside0.mk (ah (g:=qW) (o:= .cells #[.int .i64 bg,.int .i64 aV] 26 (0,0)) (aJ qX) hb);have aD:=Aside0.mk (ah (g:=tY) (o:= .cells #[.int .i64 0,.int .i64 0] 26 (0,0)) (aJ xL) hb);have aR:=Aside0.mk (ai ax hb);clear mN;clear qX;clear xL;clear HB;have mN:=ay;have qX:=aA;have xL:=aD;have HB:=aR;clear ay aA aD aR;(try clear hb);(try clear hb2);(try clear hk);(try clear hi);have nC:lD.cell? ⟨tY,0,none⟩=some (.int .i64 0):=(ag xL.out 0).trans rfl;have nD:lD.cell? ⟨tY,1,none⟩=some (.int .i64 0):=(ag xL.out 1).trans rfl;have nE:=aa xL.out 0;have nG:=aa xL.out 1))
 refine bodyPost_ret (results_cell_row rfl _ _ tY 26 #[.int .i64 UO,.int .i64 a0X] (0,0) _ rfl (by (with_reducible repeat (first|refine au ?_ _|refine ak ?_|refine aq ?_ _));refine aX (cs:= #[.int .i64 UO,.int .i64 0]) ?_ 1 _ rfl;(with_reducible repeat (first|refine au ?_ _|refine ak ?_|refine aq ?_ _));refine aX (cs:= #[.int .i64 0,.int .i64 0]) ?_ 0 _ rfl;(with_reducible repeat (first|refine au ?_ _|refine ak ?_|refine aq ?_ _));exact xL.out) Try.underlying26 rfl (by kernel_rfl)) rfl ?_
 exact ⟨by first|rfl|(simp [aM,aQ]<;>rfl)|(simp [*,aM,aQ]<;>rfl),ax⟩
def qY.f (aH:Int) (aG:Int):Option (Int):=some (mn (mx aH (-1)) 1)
set_option maxHeartbeats 8000000 in
set_option maxRecDepth 100000 in
theorem qY.calls (aH:Int) (aG:Int) (r:Int) (w:World) (h:qY.f aH aG=some r):
 Calls Try.prog 87 #[.agg #[.int .i64 aH,.int .i64 aG]] w fun e w'=>e= .returned (.int .i64 r)/\Below w.heap.size w w':=by
 have lY:=Try.underlying26
 have HB:=Aside0.mk (Below.refl w.heap.size w)
 have H:(some (mn (mx aH (-1)) 1))=some r:=h
 clear h
 obtain ⟨Xq,UQ⟩:∃j_:Int,(mx aH (-1))=j_:=⟨_,rfl⟩
 replace H:(some (mn (Xq) 1))=some r:=by first|(rw [UQ] at H;exact H)|(simp only [UQ] at H⊢;exact H)
 have hji2_:(if aH<(-1) then (-1) else aH)=Xq:=UQ
 obtain ⟨ji3,UR⟩:∃j_:Int,(mn (Xq) 1)=j_:=⟨_,rfl⟩
 replace H:(some ji3)=some r:=by first|(rw [UR] at H;exact H)|(simp only [UR] at H⊢;exact H)
 have hji3_:(if 1<(Xq) then 1 else (Xq))=ji3:=UR
 obtain rfl:=Option.some.inj H
 go_enter Try.func87,Try.ntmps87
 go_wp2_with (first|((with_reducible refine bk (N:=1) rfl ?_);refine bp ?hg (N:=1) ?hd (cs:= #[.int .i64 aH,.int .i64 aG]) (t:=26) ?hr ?_;(case hd=>rfl);(case hg=>rfl);(case hr=>first|(go_simp;done)|(go_simp;rfl));intro NC hg w4 aU hb;have ay:=Aside0.mk (ai ax hb);have aA:=Aside0.mk (aU);have aD:=Aside0.mk ((by rw [hg];exact (av ax):w.heap.size<=NC));have aR:=Aside0.mk ((by rw [hg];exact (av ax):w.heap.size<=NC));clear HB;have HB:=ay;have ND:=aA;have GW387:=aD;have GE387:=aR;clear ay aA aD aR;clear hb aU hg;have Pk:w4.cell? ⟨NC,0,none⟩=some (.int .i64 aH):=(ag ND.out 0).trans rfl;have Pm:w4.cell? ⟨NC,1,none⟩=some (.int .i64 aG):=(ag ND.out 1).trans rfl;have Pn:=aa ND.out 0;have Po:=aa ND.out 1))
 go_ret
 exact ⟨by first|rfl|(simp [aM,aQ]<;>rfl)|(simp only [<-UQ,<-UR];first|rfl|(simp [aM,aQ]<;>rfl))|(simp [*,aM,aQ]<;>rfl),ax⟩
def lQ.f (k:Nat) (aH:Int) (aG:Int) (bg:Int) (aV:Int):Option (Int×Int):=(bS.f k aH aG).bind fun KP=>(if KP=true then ((bS.f k bg aV).bind fun yj=>(if yj=true then ((bD.f k (wrap64 ((wrap64 (aH*aV))+(wrap64 (bg*aG)))) (wrap64 (aG*aV))).bind fun mO=>(some (mO.1,mO.2))) else (some (0,0)))) else (some (0,0)))
theorem lQ.mono:∀a0 a1 a2 a3 k,aW (lQ.f k a0 a1 a2 a3) (lQ.f (k+1) a0 a1 a2 a3):=by
 intro a0 a1 a2 a3 k
 unfold lQ.f
 repeat' first
  |(with_reducible exact bS.mono _ _ _)
  |(with_reducible exact bD.mono _ _ _)
  |(with_reducible exact aW.refl _)
  |(with_reducible exact aW.none _)
  |(with_reducible refine aW.ite ?_ ?_)
  |(with_reducible refine aW.bind ?_ (fun _=>?_))
set_option maxHeartbeats 8000000 in
set_option maxRecDepth 100000 in
theorem lQ.calls (k:Nat) (aH:Int) (aG:Int) (bg:Int) (aV:Int) (r1:Int) (r2:Int) (w:World) (h:lQ.f k aH aG bg aV=some (r1,r2)):
 Calls Try.prog 20 #[.agg #[.int .i64 aH,.int .i64 aG],.agg #[.int .i64 bg,.int .i64 aV]] w fun e w'=>e= .returned (.agg #[.int .i64 r1,.int .i64 r2])/\Below w.heap.size w w':=by
 have lY:=Try.underlying26
 have HB:=Aside0.mk (Below.refl w.heap.size w)
 have H:((bS.f k aH aG).bind fun KP=>(if KP=true then ((bS.f k bg aV).bind fun yj=>(if yj=true then ((bD.f k (wrap64 ((wrap64 (aH*aV))+(wrap64 (bg*aG)))) (wrap64 (aG*aV))).bind fun mO=>(some (mO.1,mO.2))) else (some (0,0)))) else (some (0,0))))=some (r1,r2):=h
 clear h
 replace H:=Option.bind_eq_some_iff.mp H
 obtain ⟨KP,iO,H⟩:=H
 replace H:(if KP=true then ((bS.f k bg aV).bind fun yj=>(if yj=true then ((bD.f k (wrap64 ((wrap64 (aH*aV))+(wrap64 (bg*aG)))) (wrap64 (aG*aV))).bind fun mO=>(some (mO.1,mO.2))) else (some (0,0)))) else (some (0,0)))=some (r1,r2):=H
 have A3:=Aside0.mk iO
 clear iO
 by_cases c4:KP=true
 ·subst c4
  have H1:((bS.f k bg aV).bind fun yj=>(if yj=true then ((bD.f k (wrap64 ((wrap64 (aH*aV))+(wrap64 (bg*aG)))) (wrap64 (aG*aV))).bind fun mO=>(some (mO.1,mO.2))) else (some (0,0))))=some (r1,r2):=by rw [if_pos rfl] at H;exact H
  clear H
  have H:=H1
  clear H1
  replace H:=Option.bind_eq_some_iff.mp H
  obtain ⟨yj,xM,H⟩:=H
  replace H:(if yj=true then ((bD.f k (wrap64 ((wrap64 (aH*aV))+(wrap64 (bg*aG)))) (wrap64 (aG*aV))).bind fun mO=>(some (mO.1,mO.2))) else (some (0,0)))=some (r1,r2):=H
  have A5:=Aside0.mk xM
  clear xM
  by_cases c6:yj=true
  ·subst c6
   have H1:((bD.f k (wrap64 ((wrap64 (aH*aV))+(wrap64 (bg*aG)))) (wrap64 (aG*aV))).bind fun mO=>(some (mO.1,mO.2)))=some (r1,r2):=by rw [if_pos rfl] at H;exact H
   clear H
   have H:=H1
   clear H1
   replace H:=Option.bind_eq_some_iff.mp H
   obtain ⟨⟨UT,a0Y⟩,BP,H⟩:=H
   replace H:(some (UT,a0Y))=some (r1,r2):=H
   have A7:=Aside0.mk BP
   clear BP
   simp only [Option.some.injEq,Prod.mk.injEq] at H
   obtain ⟨rfl,rfl⟩:=H
   go_enter Try.func20,Try.ntmps20
   go_wp2_with (first|((with_reducible refine bk (N:=2) rfl ?_);refine bp ?hg (N:=2) ?hd (cs:= #[.int .i64 aH,.int .i64 aG]) (t:=26) ?hr ?_;(case hd=>rfl);(case hg=>rfl);(case hr=>first|(go_simp;done)|(go_simp;rfl));intro dS hg w8 aU hb;have ay:=Aside0.mk (ai ax hb);have aA:=Aside0.mk (aU);have aD:=Aside0.mk ((by rw [hg];exact (av ax):w.heap.size<=dS));have aR:=Aside0.mk ((by rw [hg];exact (av ax):w.heap.size<=dS));clear HB;have HB:=ay;have cU:=aA;have a3L:=aD;have a3M:=aR;clear ay aA aD aR;clear hb aU hg)|((with_reducible refine bk (N:=3) rfl ?_);refine bp ?hg (N:=3) ?hd (cs:= #[.int .i64 bg,.int .i64 aV]) (t:=26) ?hr ?_;(case hd=>rfl);(case hg=>rfl);(case hr=>first|(go_simp;done)|(go_simp;rfl));intro eZ hg w9 aU hb;have ay:=Aside0.mk (ah (g:=dS) (o:= .cells #[.int .i64 aH,.int .i64 aG] 26 (0,0)) (aJ cU) hb);have aA:=Aside0.mk (ai ax hb);have aD:=Aside0.mk (aU);have aR:=Aside0.mk ((by rw [hg];exact (av ax):w.heap.size<=eZ));have bK:=Aside0.mk ((by rw [hg];exact (av ax):w.heap.size<=eZ));have bT:=Aside0.mk ((by rw [hg];exact Nat.ne_of_lt (aY (g:=dS) (o:= .cells #[.int .i64 aH,.int .i64 aG] 26 (0,0)) (aJ cU)):dS≠eZ));have cm:=Aside0.mk ((by rw [hg];exact Nat.ne_of_gt (aY (g:=dS) (o:= .cells #[.int .i64 aH,.int .i64 aG] 26 (0,0)) (aJ cU)):eZ≠dS));clear cU;clear HB;have cU:=ay;have HB:=aA;have eH:=aD;have a3N:=aR;have a3O:=bK;have uC:=bT;have uD:=cm;clear ay aA aD aR bK bT cm;clear hb aU hg)|((with_reducible refine bk (N:=4) rfl ?_);refine bp ?hg (N:=4) ?hd (cs:= #[.int .i64 0,.int .i64 0]) (t:=26) ?hr ?_;(case hd=>rfl);(case hg=>rfl);(case hr=>first|(go_simp;done)|(go_simp;rfl));intro fU hg lO aU hb;have ay:=Aside0.mk (ah (g:=dS) (o:= .cells #[.int .i64 aH,.int .i64 aG] 26 (0,0)) (aJ cU) hb);have aA:=Aside0.mk (ah (g:=eZ) (o:= .cells #[.int .i64 bg,.int .i64 aV] 26 (0,0)) (aJ eH) hb);have aD:=Aside0.mk (ai ax hb);have aR:=Aside0.mk (aU);have bK:=Aside0.mk ((by rw [hg];exact (av ax):w.heap.size<=fU));have bT:=Aside0.mk ((by rw [hg];exact (av ax):w.heap.size<=fU));have cm:=Aside0.mk ((by rw [hg];exact Nat.ne_of_lt (aY (g:=dS) (o:= .cells #[.int .i64 aH,.int .i64 aG] 26 (0,0)) (aJ cU)):dS≠fU));have iP:=Aside0.mk ((by rw [hg];exact Nat.ne_of_gt (aY (g:=dS) (o:= .cells #[.int .i64 aH,.int .i64 aG] 26 (0,0)) (aJ cU)):fU≠dS));have jk:=Aside0.mk ((by rw [hg];exact Nat.ne_of_lt (aY (g:=eZ) (o:= .cells #[.int .i64 bg,.int .i64 aV] 26 (0,0)) (aJ eH)):eZ≠fU));have ke:=Aside0.mk ((by rw [hg];exact Nat.ne_of_gt (aY (g:=eZ) (o:= .cells #[.int .i64 bg,.int .i64 aV] 26 (0,0)) (aJ eH)):fU≠eZ));clear cU;clear eH;clear HB;have cU:=ay;have eH:=aA;have HB:=aD;have fV:=aR;have a3P:=bK;have a3Q:=bT;have uE:=cm;have uF:=iP;have uG:=jk;have uH:=ke;clear ay aA aD aR bK bT cm iP jk ke;clear hb aU hg;have a3R:=uC.out;have a3S:=uD.out;have a3g:=uE.out;have a3h:=uF.out;have nC:lO.cell? ⟨dS,0,none⟩=some (.int .i64 aH):=(ag cU.out 0).trans rfl;have nD:lO.cell? ⟨dS,1,none⟩=some (.int .i64 aG):=(ag cU.out 1).trans rfl;have nE:=aa cU.out 0;have nG:=aa cU.out 1)|((with_reducible refine aZ (f:=46) rfl ?_);refine bO (some 6) rfl rfl Try.func46 (by kernel_rfl) rfl #[.agg #[.int .i64 aH,.int .i64 aG]] rfl (by (try simp only [List.map_toArray,List.map_cons,List.map_nil]);first|done|rfl|(simp only [List.length_drop,List.length_take];rfl)) ?_;(with_reducible refine (bS.calls k aH aG true _ A3.out).mono ?_);rintro e rQ ⟨rfl,hb⟩;refine ⟨_,rfl,?_⟩;have ay:=Aside0.mk (ah (g:=dS) (o:= .cells #[.int .i64 aH,.int .i64 aG] 26 (0,0)) (aJ cU) hb);have aA:=Aside0.mk (ah (g:=eZ) (o:= .cells #[.int .i64 bg,.int .i64 aV] 26 (0,0)) (aJ eH) hb);have aD:=Aside0.mk (ah (g:=fU) (o:= .cells #[.int .i64 0,.int .i64 0] 26 (0,0)) (aJ fV) hb);have aR:=Aside0.mk (ai ax hb);clear cU;clear eH;clear fV;clear HB;have cU:=ay;have eH:=aA;have fV:=aD;have HB:=aR;clear ay aA aD aR;(try clear hb);(try clear hb2);(try clear hk);(try clear hi);have hnb15:=uG.out;have hnc15:=uH.out;have a6n:rQ.cell? ⟨eZ,0,none⟩=some (.int .i64 bg):=(ag eH.out 0).trans rfl;have a6o:rQ.cell? ⟨eZ,1,none⟩=some (.int .i64 aV):=(ag eH.out 1).trans rfl;have a6p:=aa eH.out 0;have a6q:=aa eH.out 1)|(go_at_call 46;(with_reducible refine (bS.calls k bg aV true _ A5.out).mono ?_);rintro e Sa ⟨rfl,hb⟩;have ay:=Aside0.mk (ah (g:=dS) (o:= .cells #[.int .i64 aH,.int .i64 aG] 26 (0,0)) (aJ cU) hb);have aA:=Aside0.mk (ah (g:=eZ) (o:= .cells #[.int .i64 bg,.int .i64 aV] 26 (0,0)) (aJ eH) hb);have aD:=Aside0.mk (ah (g:=fU) (o:= .cells #[.int .i64 0,.int .i64 0] 26 (0,0)) (aJ fV) hb);have aR:=Aside0.mk (ai ax hb);clear cU;clear eH;clear fV;clear HB;have cU:=ay;have eH:=aA;have fV:=aD;have HB:=aR;clear ay aA aD aR;(try clear hb);(try clear hb2);(try clear hk);(try clear hi);have JQ:Sa.cell? ⟨dS,0,none⟩=some (.int .i64 aH):=(ag cU.out 0).trans rfl;have JR:Sa.cell? ⟨dS,1,none⟩=some (.int .i64 aG):=(ag cU.out 1).trans rfl;have JS:=aa cU.out 0;have JT:=aa cU.out 1;have JU:Sa.cell? ⟨eZ,0,none⟩=some (.int .i64 bg):=(ag eH.out 0).trans rfl;have JV:Sa.cell? ⟨eZ,1,none⟩=some (.int .i64 aV):=(ag eH.out 1).trans rfl;have JW:=aa eH.out 0;have JX:=aa eH.out 1)|((with_reducible refine aZ (f:=45) rfl ?_);refine bO (some 30) rfl rfl Try.func45 (by kernel_rfl) rfl #[.int .i64 (wrap64 ((wrap64 (aH*aV))+(wrap64 (bg*aG)))),.int .i64 (wrap64 (aG*aV))] rfl (by (try simp only [List.map_toArray,List.map_cons,List.map_nil]);first|done|rfl|(simp only [List.length_drop,List.length_take];rfl)) ?_;(with_reducible refine (bD.calls k (wrap64 ((wrap64 (aH*aV))+(wrap64 (bg*aG)))) (wrap64 (aG*aV)) UT a0Y _ A7.out).mono ?_);rintro e sM ⟨rfl,hb⟩;refine ⟨_,rfl,?_⟩;have ay:=Aside0.mk (ah (g:=dS) (o:= .cells #[.int .i64 aH,.int .i64 aG] 26 (0,0)) (aJ cU) hb);have aA:=Aside0.mk (ah (g:=eZ) (o:= .cells #[.int .i64 bg,.int .i64 aV] 26 (0,0)) (aJ eH) hb);have aD:=Aside0.mk (ah (g:=fU) (o:= .cells #[.int .i64 0,.int .i64 0] 26 (0,0)) (aJ fV) hb);have aR:=Aside0.mk (ai ax hb);clear cU;clear eH;clear fV;clear HB;have cU:=ay;have eH:=aA;have fV:=aD;have HB:=aR;clear ay aA aD aR;(try clear hb);(try clear hb2);(try clear hk);(try clear hi);have yU:sM.cell? ⟨fU,0,none⟩=some (.int .i64 0):=(ag fV.out 0).trans rfl;have yV:sM.cell? ⟨fU,1,none⟩=some (.int .i64 0):=(ag fV.out 1).trans rfl;have yX:=aa fV.out 0;have yY:=aa fV.out 1))
   refine bodyPost_ret (results_cell_row rfl _ _ fU 26 #[.int .i64 UT,.int .i64 a0Y] (0,0) _ rfl (by (with_reducible repeat (first|refine au ?_ _|refine ak ?_|refine aq ?_ _));refine aX (cs:= #[.int .i64 UT,.int .i64 0]) ?_ 1 _ rfl;(with_reducible repeat (first|refine au ?_ _|refine ak ?_|refine aq ?_ _));refine aX (cs:= #[.int .i64 0,.int .i64 0]) ?_ 0 _ rfl;(with_reducible repeat (first|refine au ?_ _|refine ak ?_|refine aq ?_ _));exact fV.out) Try.underlying26 rfl (by kernel_rfl)) rfl ?_
   exact ⟨by first|rfl|(simp [aM,aQ]<;>rfl)|(simp [*,aM,aQ]<;>rfl),ax⟩
  ·replace c6:=Bool.eq_false_iff.mpr c6
   subst c6
   have H1:(some (0,0))=some (r1,r2):=by rw [if_neg (show ¬(false=true) by decide)] at H;exact H
   clear H
   have H:=H1
   clear H1
   simp only [Option.some.injEq,Prod.mk.injEq] at H
   obtain ⟨rfl,rfl⟩:=H
   go_enter Try.func20,Try.ntmps20
   go_wp2_with (first|((with_reducible refine bk (N:=2) rfl ?_);refine bp ?hg (N:=2) ?hd (cs:= #[.int .i64 aH,.int .i64 aG]) (t:=26) ?hr ?_;(case hd=>rfl);(case hg=>rfl);(case hr=>first|(go_simp;done)|(go_simp;rfl));intro dS hg uB aU hb;have ay:=Aside0.mk (ai ax hb);have aA:=Aside0.mk (aU);have aD:=Aside0.mk ((by rw [hg];exact (av ax):w.heap.size<=dS));have aR:=Aside0.mk ((by rw [hg];exact (av ax):w.heap.size<=dS));clear HB;have HB:=ay;have cU:=aA;have a3L:=aD;have a3M:=aR;clear ay aA aD aR;clear hb aU hg)|((with_reducible refine bk (N:=3) rfl ?_);refine bp ?hg (N:=3) ?hd (cs:= #[.int .i64 bg,.int .i64 aV]) (t:=26) ?hr ?_;(case hd=>rfl);(case hg=>rfl);(case hr=>first|(go_simp;done)|(go_simp;rfl));intro eZ hg vD aU hb;have ay:=Aside0.mk (ah (g:=dS) (o:= .cells #[.int .i64 aH,.int .i64 aG] 26 (0,0)) (aJ cU) hb);have aA:=Aside0.mk (ai ax hb);have aD:=Aside0.mk (aU);have aR:=Aside0.mk ((by rw [hg];exact (av ax):w.heap.size<=eZ));have bK:=Aside0.mk ((by rw [hg];exact (av ax):w.heap.size<=eZ));have bT:=Aside0.mk ((by rw [hg];exact Nat.ne_of_lt (aY (g:=dS) (o:= .cells #[.int .i64 aH,.int .i64 aG] 26 (0,0)) (aJ cU)):dS≠eZ));have cm:=Aside0.mk ((by rw [hg];exact Nat.ne_of_gt (aY (g:=dS) (o:= .cells #[.int .i64 aH,.int .i64 aG] 26 (0,0)) (aJ cU)):eZ≠dS));clear cU;clear HB;have cU:=ay;have HB:=aA;have eH:=aD;have a3N:=aR;have a3O:=bK;have uC:=bT;have uD:=cm;clear ay aA aD aR bK bT cm;clear hb aU hg)|((with_reducible refine bk (N:=4) rfl ?_);refine bp ?hg (N:=4) ?hd (cs:= #[.int .i64 0,.int .i64 0]) (t:=26) ?hr ?_;(case hd=>rfl);(case hg=>rfl);(case hr=>first|(go_simp;done)|(go_simp;rfl));intro fU hg w24 aU hb;have ay:=Aside0.mk (ah (g:=dS) (o:= .cells #[.int .i64 aH,.int .i64 aG] 26 (0,0)) (aJ cU) hb);have aA:=Aside0.mk (ah (g:=eZ) (o:= .cells #[.int .i64 bg,.int .i64 aV] 26 (0,0)) (aJ eH) hb);have aD:=Aside0.mk (ai ax hb);have aR:=Aside0.mk (aU);have bK:=Aside0.mk ((by rw [hg];exact (av ax):w.heap.size<=fU));have bT:=Aside0.mk ((by rw [hg];exact (av ax):w.heap.size<=fU));have cm:=Aside0.mk ((by rw [hg];exact Nat.ne_of_lt (aY (g:=dS) (o:= .cells #[.int .i64 aH,.int .i64 aG] 26 (0,0)) (aJ cU)):dS≠fU));have iP:=Aside0.mk ((by rw [hg];exact Nat.ne_of_gt (aY (g:=dS) (o:= .cells #[.int .i64 aH,.int .i64 aG] 26 (0,0)) (aJ cU)):fU≠dS));have jk:=Aside0.mk ((by rw [hg];exact Nat.ne_of_lt (aY (g:=eZ) (o:= .cells #[.int .i64 bg,.int .i64 aV] 26 (0,0)) (aJ eH)):eZ≠fU));have ke:=Aside0.mk ((by rw [hg];exact Nat.ne_of_gt (aY (g:=eZ) (o:= .cells #[.int .i64 bg,.int .i64 aV] 26 (0,0)) (aJ eH)):fU≠eZ));clear cU;clear eH;clear HB;have cU:=ay;have eH:=aA;have HB:=aD;have fV:=aR;have a3P:=bK;have a3Q:=bT;have uE:=cm;have uF:=iP;have uG:=jk;have uH:=ke;clear ay aA aD aR bK bT cm iP jk ke;clear hb aU hg;have b3x:=uC.out;have b3y:=uD.out;have hnb26:=uE.out;have hnc26:=uF.out;have a6r:w24.cell? ⟨dS,0,none⟩=some (.int .i64 aH):=(ag cU.out 0).trans rfl;have a6s:w24.cell? ⟨dS,1,none⟩=some (.int .i64 aG):=(ag cU.out 1).trans rfl;have a6t:=aa cU.out 0;have a6u:=aa cU.out 1)|((with_reducible refine aZ (f:=46) rfl ?_);refine bO (some 6) rfl rfl Try.func46 (by kernel_rfl) rfl #[.agg #[.int .i64 aH,.int .i64 aG]] rfl (by (try simp only [List.map_toArray,List.map_cons,List.map_nil]);first|done|rfl|(simp only [List.length_drop,List.length_take];rfl)) ?_;(with_reducible refine (bS.calls k aH aG true _ A3.out).mono ?_);rintro e xB ⟨rfl,hb⟩;refine ⟨_,rfl,?_⟩;have ay:=Aside0.mk (ah (g:=dS) (o:= .cells #[.int .i64 aH,.int .i64 aG] 26 (0,0)) (aJ cU) hb);have aA:=Aside0.mk (ah (g:=eZ) (o:= .cells #[.int .i64 bg,.int .i64 aV] 26 (0,0)) (aJ eH) hb);have aD:=Aside0.mk (ah (g:=fU) (o:= .cells #[.int .i64 0,.int .i64 0] 26 (0,0)) (aJ fV) hb);have aR:=Aside0.mk (ai ax hb);clear cU;clear eH;clear fV;clear HB;have cU:=ay;have eH:=aA;have fV:=aD;have HB:=aR;clear ay aA aD aR;(try clear hb);(try clear hb2);(try clear hk);(try clear hi);have b3g:=uG.out;have b3h:=uH.out;have a5N:xB.cell? ⟨eZ,0,none⟩=some (.int .i64 bg):=(ag eH.out 0).trans rfl;have a5O:xB.cell? ⟨eZ,1,none⟩=some (.int .i64 aV):=(ag eH.out 1).trans rfl;have a5P:=aa eH.out 0;have a5Q:=aa eH.out 1)|(go_at_call 46;(with_reducible refine (bS.calls k bg aV false _ A5.out).mono ?_);rintro e w31 ⟨rfl,hb⟩;have ay:=Aside0.mk (ah (g:=dS) (o:= .cells #[.int .i64 aH,.int .i64 aG] 26 (0,0)) (aJ cU) hb);have aA:=Aside0.mk (ah (g:=eZ) (o:= .cells #[.int .i64 bg,.int .i64 aV] 26 (0,0)) (aJ eH) hb);have aD:=Aside0.mk (ah (g:=fU) (o:= .cells #[.int .i64 0,.int .i64 0] 26 (0,0)) (aJ fV) hb);have aR:=Aside0.mk (ai ax hb);clear cU;clear eH;clear fV;clear HB;have cU:=ay;have eH:=aA;have fV:=aD;have HB:=aR;clear ay aA aD aR;(try clear hb);(try clear hb2);(try clear hk);(try clear hi);have hcz32_0:w31.cell? ⟨fU,0,none⟩=some (.int .i64 0):=(ag fV.out 0).trans rfl;have hcz32_1:w31.cell? ⟨fU,1,none⟩=some (.int .i64 0):=(ag fV.out 1).trans rfl;have hfz32_0:=aa fV.out 0;have hfz32_1:=aa fV.out 1))
   refine bodyPost_ret (results_cell_row rfl _ _ fU 26 #[.int .i64 0,.int .i64 0] (0,0) _ rfl (by (with_reducible repeat (first|refine au ?_ _|refine ak ?_|refine aq ?_ _));refine aX (cs:= #[.int .i64 0,.int .i64 0]) ?_ 1 _ rfl;(with_reducible repeat (first|refine au ?_ _|refine ak ?_|refine aq ?_ _));refine aX (cs:= #[.int .i64 0,.int .i64 0]) ?_ 0 _ rfl;(with_reducible repeat (first|refine au ?_ _|refine ak ?_|refine aq ?_ _));exact fV.out) Try.underlying26 rfl (by kernel_rfl)) rfl ?_
   exact ⟨by first|rfl|(simp [aM,aQ]<;>rfl)|(simp [*,aM,aQ]<;>rfl),ax⟩
 ·replace c4:=Bool.eq_false_iff.mpr c4
  subst c4
  have H1:(some (0,0))=some (r1,r2):=by rw [if_neg (show ¬(false=true) by decide)] at H;exact H
  clear H
  have H:=H1
  clear H1
  simp only [Option.some.injEq,Prod.mk.injEq] at H
  obtain ⟨rfl,rfl⟩:=H
  go_enter Try.func20,Try.ntmps20
  go_wp2_with (first|((with_reducible refine bk (N:=2) rfl ?_);refine bp ?hg (N:=2) ?hd (cs:= #[.int .i64 aH,.int .i64 aG]) (t:=26) ?hr ?_;(case hd=>rfl);(case hg=>rfl);(case hr=>first|(go_simp;done)|(go_simp;rfl));intro dS hg w33 aU hb;have ay:=Aside0.mk (ai ax hb);have aA:=Aside0.mk (aU);have aD:=Aside0.mk ((by rw [hg];exact (av ax):w.heap.size<=dS));have aR:=Aside0.mk ((by rw [hg];exact (av ax):w.heap.size<=dS));clear HB;have HB:=ay;have cU:=aA;have a3L:=aD;have a3M:=aR;clear ay aA aD aR;clear hb aU hg)|((with_reducible refine bk (N:=3) rfl ?_);refine bp ?hg (N:=3) ?hd (cs:= #[.int .i64 bg,.int .i64 aV]) (t:=26) ?hr ?_;(case hd=>rfl);(case hg=>rfl);(case hr=>first|(go_simp;done)|(go_simp;rfl));intro eZ hg w34 aU hb;have ay:=Aside0.mk (ah (g:=dS) (o:= .cells #[.int .i64 aH,.int .i64 aG] 26 (0,0)) (aJ cU) hb);have aA:=Aside0.mk (ai ax hb);have aD:=Aside0.mk (aU);have aR:=Aside0.mk ((by rw [hg];exact (av ax):w.heap.size<=eZ));have bK:=Aside0.mk ((by rw [hg];exact (av ax):w.heap.size<=eZ));have bT:=Aside0.mk ((by rw [hg];exact Nat.ne_of_lt (aY (g:=dS) (o:= .cells #[.int .i64 aH,.int .i64 aG] 26 (0,0)) (aJ cU)):dS≠eZ));have cm:=Aside0.mk ((by rw [hg];exact Nat.ne_of_gt (aY (g:=dS) (o:= .cells #[.int .i64 aH,.int .i64 aG] 26 (0,0)) (aJ cU)):eZ≠dS));clear cU;clear HB;have cU:=ay;have HB:=aA;have eH:=aD;have a3N:=aR;have a3O:=bK;have uC:=bT;have uD:=cm;clear ay aA aD aR bK bT cm;clear hb aU hg)|((with_reducible refine bk (N:=4) rfl ?_);refine bp ?hg (N:=4) ?hd (cs:= #[.int .i64 0,.int .i64 0]) (t:=26) ?hr ?_;(case hd=>rfl);(case hg=>rfl);(case hr=>first|(go_simp;done)|(go_simp;rfl));intro fU hg pI aU hb;have ay:=Aside0.mk (ah (g:=dS) (o:= .cells #[.int .i64 aH,.int .i64 aG] 26 (0,0)) (aJ cU) hb);have aA:=Aside0.mk (ah (g:=eZ) (o:= .cells #[.int .i64 bg,.int .i64 aV] 26 (0,0)) (aJ eH) hb);have aD:=Aside0.mk (ai ax hb);have aR:=Aside0.mk (aU);have bK:=Aside0.mk ((by rw [hg];exact (av ax):w.heap.size<=fU));have bT:=Aside0.mk ((by rw [hg];exact (av ax):w.heap.size<=fU));have cm:=Aside0.mk ((by rw [hg];exact Nat.ne_of_lt (aY (g:=dS) (o:= .cells #[.int .i64 aH,.int .i64 aG] 26 (0,0)) (aJ cU)):dS≠fU));have iP:=Aside0.mk ((by rw [hg];exact Nat.ne_of_gt (aY (g:=dS) (o:= .cells #[.int .i64 aH,.int .i64 aG] 26 (0,0)) (aJ cU)):fU≠dS));have jk:=Aside0.mk ((by rw [hg];exact Nat.ne_of_lt (aY (g:=eZ) (o:= .cells #[.int .i64 bg,.int .i64 aV] 26 (0,0)) (aJ eH)):eZ≠fU));have ke:=Aside0.mk ((by rw [hg];exact Nat.ne_of_gt (aY (g:=eZ) (o:= .cells #[.int .i64 bg,.int .i64 aV] 26 (0,0)) (aJ eH)):fU≠eZ));clear cU;clear eH;clear HB;have cU:=ay;have eH:=aA;have HB:=aD;have fV:=aR;have a3P:=bK;have a3Q:=bT;have uE:=cm;have uF:=iP;have uG:=jk;have uH:=ke;clear ay aA aD aR bK bT cm iP jk ke;clear hb aU hg;have b3D:=uC.out;have b3E:=uD.out;have hnb37:=uE.out;have hnc37:=uF.out;have Sb:pI.cell? ⟨dS,0,none⟩=some (.int .i64 aH):=(ag cU.out 0).trans rfl;have Sc:pI.cell? ⟨dS,1,none⟩=some (.int .i64 aG):=(ag cU.out 1).trans rfl;have Sd:=aa cU.out 0;have Sh:=aa cU.out 1)|((with_reducible refine aZ (f:=46) rfl ?_);refine bO (some 6) rfl rfl Try.func46 (by kernel_rfl) rfl #[.agg #[.int .i64 aH,.int .i64 aG]] rfl (by (try simp only [List.map_toArray,List.map_cons,List.map_nil]);first|done|rfl|(simp only [List.length_drop,List.length_take];rfl)) ?_;(with_reducible refine (bS.calls k aH aG false _ A3.out).mono ?_);rintro e LZ ⟨rfl,hb⟩;refine ⟨_,rfl,?_⟩;have ay:=Aside0.mk (ah (g:=dS) (o:= .cells #[.int .i64 aH,.int .i64 aG] 26 (0,0)) (aJ cU) hb);have aA:=Aside0.mk (ah (g:=eZ) (o:= .cells #[.int .i64 bg,.int .i64 aV] 26 (0,0)) (aJ eH) hb);have aD:=Aside0.mk (ah (g:=fU) (o:= .cells #[.int .i64 0,.int .i64 0] 26 (0,0)) (aJ fV) hb);have aR:=Aside0.mk (ai ax hb);clear cU;clear eH;clear fV;clear HB;have cU:=ay;have eH:=aA;have fV:=aD;have HB:=aR;clear ay aA aD aR;(try clear hb);(try clear hb2);(try clear hk);(try clear hi);have hnb40:=uH.out;have hnc40:=uG.out;have KH:LZ.cell? ⟨fU,0,none⟩=some (.int .i64 0):=(ag fV.out 0).trans rfl;have KJ:LZ.cell? ⟨fU,1,none⟩=some (.int .i64 0):=(ag fV.out 1).trans rfl;have KL:=aa fV.out 0;have KM:=aa fV.out 1))
  refine bodyPost_ret (results_cell_row rfl _ _ fU 26 #[.int .i64 0,.int .i64 0] (0,0) _ rfl (by (with_reducible repeat (first|refine au ?_ _|refine ak ?_|refine aq ?_ _));refine aX (cs:= #[.int .i64 0,.int .i64 0]) ?_ 1 _ rfl;(with_reducible repeat (first|refine au ?_ _|refine ak ?_|refine aq ?_ _));refine aX (cs:= #[.int .i64 0,.int .i64 0]) ?_ 0 _ rfl;(with_reducible repeat (first|refine au ?_ _|refine ak ?_|refine aq ?_ _));exact fV.out) Try.underlying26 rfl (by kernel_rfl)) rfl ?_
  exact ⟨by first|rfl|(simp [aM,aQ]<;>rfl)|(simp [*,aM,aQ]<;>rfl),ax⟩
def vP.f (a0:Int):Option (Int×Int):=some (a0,1)
set_option maxHeartbeats 8000000 in
set_option maxRecDepth 100000 in
theorem vP.calls (a0:Int) (r1:Int) (r2:Int) (w:World) (h:vP.f a0=some (r1,r2)):
 Calls Try.prog 55 #[.int .i64 a0] w fun e w'=>e= .returned (.agg #[.int .i64 r1,.int .i64 r2])/\Below w.heap.size w w':=by
 have lY:=Try.underlying26
 have HB:=Aside0.mk (Below.refl w.heap.size w)
 have H:(some (a0,1))=some (r1,r2):=h
 clear h
 simp only [Option.some.injEq,Prod.mk.injEq] at H
 obtain ⟨rfl,rfl⟩:=H
 go_enter Try.func55,Try.ntmps55
 go_wp2_with (first|((with_reducible refine bk (N:=2) rfl ?_);refine bp ?hg (N:=2) ?hd (cs:= #[.int .i64 0,.int .i64 0]) (t:=26) ?hr ?_;(case hd=>rfl);(case hg=>rfl);(case hr=>first|(go_simp;done)|(go_simp;rfl));intro Ic hg w2 aU hb;have ay:=Aside0.mk (ai ax hb);have aA:=Aside0.mk (aU);have aD:=Aside0.mk ((by rw [hg];exact (av ax):w.heap.size<=Ic));have aR:=Aside0.mk ((by rw [hg];exact (av ax):w.heap.size<=Ic));clear HB;have HB:=ay;have Ie:=aA;have GW296:=aD;have GE296:=aR;clear ay aA aD aR;clear hb aU hg;have hcz3_0:w2.cell? ⟨Ic,0,none⟩=some (.int .i64 0):=(ag Ie.out 0).trans rfl;have hcz3_1:w2.cell? ⟨Ic,1,none⟩=some (.int .i64 0):=(ag Ie.out 1).trans rfl;have hfz3_0:=aa Ie.out 0;have hfz3_1:=aa Ie.out 1))
 refine bodyPost_ret (results_cell_row rfl _ _ Ic 26 #[.int .i64 a0,.int .i64 1] (0,0) _ rfl (by (with_reducible repeat (first|refine au ?_ _|refine ak ?_|refine aq ?_ _));refine aX (cs:= #[.int .i64 a0,.int .i64 0]) ?_ 1 _ rfl;(with_reducible repeat (first|refine au ?_ _|refine ak ?_|refine aq ?_ _));refine aX (cs:= #[.int .i64 0,.int .i64 0]) ?_ 0 _ rfl;(with_reducible repeat (first|refine au ?_ _|refine ak ?_|refine aq ?_ _));exact Ie.out) Try.underlying26 rfl (by kernel_rfl)) rfl ?_
 exact ⟨by first|rfl|(simp [aM,aQ]<;>rfl)|(simp [*,aM,aQ]<;>rfl),ax⟩
def dX.f:Nat->Int->Int->Option (Int)
 |0,_,_=>none
 |k+1,a0,a1=>if a1=0 then (some a0) else ((dX.f k a1 (Int.tmod a0 a1)).bind fun KQ=>(some KQ))
theorem dX.cH:∀k,(∀y0 y1,aW (dX.f k y0 y1) (dX.f (k+1) y0 y1))
 |0=>fun _ _ r h=>by simp [dX.f] at h
 |k+1=>by
  have dP:=dX.cH k
  ·intro y0 y1
   unfold dX.f
   repeat' first
   |(with_reducible exact dP _ _)
   |(with_reducible exact aW.refl _)
   |(with_reducible exact aW.none _)
   |(with_reducible refine aW.ite ?_ ?_)
   |(with_reducible refine aW.bind ?_ (fun _=>?_))
theorem dX.mono:∀a0 a1 k,aW (dX.f k a0 a1) (dX.f (k+1) a0 a1):=by
 intro a0 a1 k
 have dP:=dX.cH k
 exact dP a0 a1
set_option maxHeartbeats 8000000 in
set_option maxRecDepth 100000 in
theorem dX.calls (k:Nat):∀(a0:Int) (a1:Int) (r:Int) (w:World) (h:dX.f k a0 a1=some r),
 Calls Try.prog 67 #[.int .i64 a0,.int .i64 a1] w fun e w'=>e= .returned (.int .i64 r)/\bl w w':=by
 induction k using Nat.strongRecOn with
 |_ k ih=>
 intro a0 a1 r w h
 cases k with
 |zero=>exact absurd h (by simp [dX.f])
 |succ k=>
 simp only [dX.f] at h
 have H:(if a1=0 then (some a0) else ((dX.f k a1 (Int.tmod a0 a1)).bind fun KQ=>(some KQ)))=some r:=h
 clear h
 by_cases c3:a1=0
 ·rw [if_pos c3] at H
  have gw:(a1==0)=true:=beq_iff_eq.mpr c3
  have mz:(a1 !=0)=false:=bne_eq_false_iff_eq.mpr c3
  clear c3
  obtain rfl:=Option.some.inj H
  go_enter Try.func67,Try.ntmps67
  go_wp2
  go_ret
  exact ⟨by first|rfl|(simp;done)|(simp [*];done),by repeat (first|exact bl.refl _|apply bl.step)⟩
 ·rw [if_neg c3] at H
  have gw:(a1==0)=false:=beq_eq_false_iff_ne.mpr c3
  have mz:(a1 !=0)=true:=bne_iff_ne.mpr c3
  replace H:=Option.bind_eq_some_iff.mp H
  obtain ⟨KQ,xE,H⟩:=H
  replace H:(some KQ)=some r:=H
  have A4:=Aside0.mk xE
  clear xE
  obtain rfl:=Option.some.inj H
  go_enter Try.func67,Try.ntmps67
  go_wp2_with (first|((with_reducible refine aZ (f:=67) rfl ?_);refine bO (some 12) rfl rfl Try.func67 (by kernel_rfl) rfl #[.int .i64 a1,.int .i64 (Int.tmod a0 a1)] rfl (by (try simp only [List.map_toArray,List.map_cons,List.map_nil]);first|done|rfl|(simp only [List.length_drop,List.length_take];rfl)) ?_;(with_reducible refine (ih k (by omega) a1 (Int.tmod a0 a1) KQ _ A4.out).mono ?_);rintro e w' ⟨rfl,⟨nd,rfl⟩⟩;refine ⟨_,rfl,?_⟩))
  go_ret
  exact ⟨by first|rfl|(simp;done)|(simp [*];done),by repeat (first|exact bl.refl _|apply bl.step)⟩
def iG.f (a0:Int):Option (Int):=if a0<0 then (some (wrap64 (-a0))) else (some a0)
set_option maxHeartbeats 8000000 in
set_option maxRecDepth 100000 in
theorem iG.calls (a0:Int) (r:Int) (w:World) (h:iG.f a0=some r):
 Calls Try.prog 68 #[.int .i64 a0] w fun e w'=>e= .returned (.int .i64 r)/\bl w w':=by
 have H:(if a0<0 then (some (wrap64 (-a0))) else (some a0))=some r:=h
 clear h
 by_cases c2:a0<0
 ·rw [if_pos c2] at H
  have Fe:decide (a0<0)=true:=decide_eq_true c2
  clear c2
  obtain rfl:=Option.some.inj H
  go_enter Try.func68,Try.ntmps68
  go_wp2
  go_ret
  exact ⟨by first|rfl|(simp;done)|(simp [*];done),by repeat (first|exact bl.refl _|apply bl.step)⟩
 ·rw [if_neg c2] at H
  have Fe:decide (a0<0)=false:=decide_eq_false c2
  clear c2
  obtain rfl:=Option.some.inj H
  go_enter Try.func68,Try.ntmps68
  go_wp2
  go_ret
  exact ⟨by first|rfl|(simp;done)|(simp [*];done),by repeat (first|exact bl.refl _|apply bl.step)⟩
def cr.f (k:Nat) (a0:Int) (a1:Int):Option (Int×Int):=(iG.f a0).bind fun vt=>((iG.f a1).bind fun t116=>((dX.f k vt t116).bind fun t117=>(if a1<0 then (if (wrap64 (-t117))=0 then (none) else (some (wrap64 (Int.tdiv a0 (wrap64 (-t117))),wrap64 (Int.tdiv a1 (wrap64 (-t117)))))) else (if t117=0 then (none) else (some (wrap64 (Int.tdiv a0 t117),wrap64 (Int.tdiv a1 t117)))))))
theorem cr.mono:∀a0 a1 k,aW (cr.f k a0 a1) (cr.f (k+1) a0 a1):=by
 intro a0 a1 k
 unfold cr.f
 repeat' first
  |(with_reducible exact dX.mono _ _ _)
  |(with_reducible exact aW.refl _)
  |(with_reducible exact aW.none _)
  |(with_reducible refine aW.ite ?_ ?_)
  |(with_reducible refine aW.bind ?_ (fun _=>?_))
def cr.T4:Bool×List (List Nat×List Nat):=(true,[([],[]),([],[]),([0,1],[0,1]),([],[]),([],[]),([3,4],[3,4]),([2,5],[2,5]),([6,0,1,2,3,4,5,6],[6])])
def cr.B4:List Nat:=[0,0,3,0,0,24,63,127]
theorem cr.FO:kF .any (opsOf Try.f66 4)=cr.T4:=by kernel_rfl
theorem cr.AG:pZ cr.T4.2 cr.B4=true:=by kernel_rfl
set_option maxHeartbeats 8000000 in
set_option maxRecDepth 100000 in
theorem cr.calls (k:Nat) (a0:Int) (a1:Int) (r1:Int) (r2:Int) (w:World) (h:cr.f k a0 a1=some (r1,r2)):
 Calls Try.prog 66 #[.int .i64 a0,.int .i64 a1] w fun e w'=>e= .returned (.agg #[.int .i64 r1,.int .i64 r2])/\Below w.heap.size w w':=by
 have lY:=Try.underlying26
 have HB:=Aside0.mk (Below.refl w.heap.size w)
 have H:((iG.f a0).bind fun vt=>((iG.f a1).bind fun t116=>((dX.f k vt t116).bind fun t117=>(if a1<0 then (if (wrap64 (-t117))=0 then (none) else (some (wrap64 (Int.tdiv a0 (wrap64 (-t117))),wrap64 (Int.tdiv a1 (wrap64 (-t117)))))) else (if t117=0 then (none) else (some (wrap64 (Int.tdiv a0 t117),wrap64 (Int.tdiv a1 t117))))))))=some (r1,r2):=h
 clear h
 replace H:=Option.bind_eq_some_iff.mp H
 obtain ⟨vt,iO,H⟩:=H
 replace H:((iG.f a1).bind fun t116=>((dX.f k vt t116).bind fun t117=>(if a1<0 then (if (wrap64 (-t117))=0 then (none) else (some (wrap64 (Int.tdiv a0 (wrap64 (-t117))),wrap64 (Int.tdiv a1 (wrap64 (-t117)))))) else (if t117=0 then (none) else (some (wrap64 (Int.tdiv a0 t117),wrap64 (Int.tdiv a1 t117)))))))=some (r1,r2):=H
 have A3:=Aside0.mk iO
 clear iO
 replace H:=Option.bind_eq_some_iff.mp H
 obtain ⟨t116,xE,H⟩:=H
 replace H:((dX.f k vt t116).bind fun t117=>(if a1<0 then (if (wrap64 (-t117))=0 then (none) else (some (wrap64 (Int.tdiv a0 (wrap64 (-t117))),wrap64 (Int.tdiv a1 (wrap64 (-t117)))))) else (if t117=0 then (none) else (some (wrap64 (Int.tdiv a0 t117),wrap64 (Int.tdiv a1 t117))))))=some (r1,r2):=H
 have A4:=Aside0.mk xE
 clear xE
 replace H:=Option.bind_eq_some_iff.mp H
 obtain ⟨t117,xM,H⟩:=H
 replace H:(if a1<0 then (if (wrap64 (-t117))=0 then (none) else (some (wrap64 (Int.tdiv a0 (wrap64 (-t117))),wrap64 (Int.tdiv a1 (wrap64 (-t117)))))) else (if t117=0 then (none) else (some (wrap64 (Int.tdiv a0 t117),wrap64 (Int.tdiv a1 t117)))))=some (r1,r2):=H
 have A5:=Aside0.mk xM
 clear xM
 by_cases c6:a1<0
 ·rw [if_pos c6] at H
  have oQ:decide (a1<0)=true:=decide_eq_true c6
  clear c6
  by_cases c7:(wrap64 (-t117))=0
  ·rw [if_pos c7] at H
   exact absurd H (by simp)
  ·rw [if_neg c7] at H
   have si:((wrap64 (-t117))==0)=false:=beq_eq_false_iff_ne.mpr c7
   have a8x:((wrap64 (-t117)) !=0)=true:=bne_iff_ne.mpr c7
   simp only [Option.some.injEq,Prod.mk.injEq] at H
   obtain ⟨rfl,rfl⟩:=H
   go_enter Try.func66,Try.ntmps66
   try go_wp2_with (first|((with_reducible refine bk (N:=4) rfl ?_);refine bp ?hg (N:=4) ?hd (cs:= #[.int .i64 0,.int .i64 0]) (t:=26) ?hr ?_;(case hd=>rfl);(case hg=>rfl);(case hr=>first|(go_simp;done)|(go_simp;rfl));intro mP hg w8 aU hb;have ay:=Aside0.mk (ai ax hb);have aA:=Aside0.mk (aU);have aD:=Aside0.mk ((by rw [hg];exact (av ax):w.heap.size<=mP));have aR:=Aside0.mk ((by rw [hg];exact (av ax):w.heap.size<=mP));clear HB;have HB:=ay;have fH:=aA;have b3F:=aD;have b3G:=aR;clear ay aA aD aR;clear hb aU hg)|((with_reducible refine aZ (f:=68) rfl ?_);refine bO (some 7) rfl rfl Try.func68 (by kernel_rfl) rfl #[.int .i64 a0] rfl (by (try simp only [List.map_toArray,List.map_cons,List.map_nil]);first|done|rfl|(simp only [List.length_drop,List.length_take];rfl)) ?_;(with_reducible refine (iG.calls a0 vt _ A3.out).mono ?_);rintro e w' ⟨rfl,⟨nd,rfl⟩⟩;refine ⟨_,rfl,?_⟩;(try (rw [iC w8];generalize fY:World.drewN w8 _=w8;have ay:Aside0 (w8.heap[mP]? =some (.cells #[.int .i64 0,.int .i64 0] 26 (0,0))):=⟨by rw [<-fY];exact (aJ fH)⟩;have aA:Aside0 (Below w.heap.size w w8):=⟨by rw [<-fY];exact ax⟩;clear fH HB fY;have fH:=ay;have HB:=aA;clear ay aA)))|((with_reducible refine aZ (f:=68) rfl ?_);refine bO (some 9) rfl rfl Try.func68 (by kernel_rfl) rfl #[.int .i64 a1] rfl (by (try simp only [List.map_toArray,List.map_cons,List.map_nil]);first|done|rfl|(simp only [List.length_drop,List.length_take];rfl)) ?_;(with_reducible refine (iG.calls a1 t116 _ A4.out).mono ?_);rintro e w' ⟨rfl,⟨nd,rfl⟩⟩;refine ⟨_,rfl,?_⟩;(try (rw [iC w8];generalize fY:World.drewN w8 _=w8;have ay:Aside0 (w8.heap[mP]? =some (.cells #[.int .i64 0,.int .i64 0] 26 (0,0))):=⟨by rw [<-fY];exact (aJ fH)⟩;have aA:Aside0 (Below w.heap.size w w8):=⟨by rw [<-fY];exact ax⟩;clear fH HB fY;have fH:=ay;have HB:=aA;clear ay aA)))|((with_reducible refine aZ (f:=67) rfl ?_);refine bO (some 10) rfl rfl Try.func67 (by kernel_rfl) rfl #[.int .i64 vt,.int .i64 t116] rfl (by (try simp only [List.map_toArray,List.map_cons,List.map_nil]);first|done|rfl|(simp only [List.length_drop,List.length_take];rfl)) ?_;(with_reducible refine (dX.calls k vt t116 t117 _ A5.out).mono ?_);rintro e w' ⟨rfl,⟨nd,rfl⟩⟩;refine ⟨_,rfl,?_⟩;(try (rw [iC w8];generalize fY:World.drewN w8 _=w8;have ay:Aside0 (w8.heap[mP]? =some (.cells #[.int .i64 0,.int .i64 0] 26 (0,0))):=⟨by rw [<-fY];exact (aJ fH)⟩;have aA:Aside0 (Below w.heap.size w w8):=⟨by rw [<-fY];exact ax⟩;clear fH HB fY;have fH:=ay;have HB:=aA;clear ay aA))))
   have ay:=Aside0.mk (ak fH.out)
   have aA:=Aside0.mk (bn HB.out)
   clear fH
   clear HB
   have fH:=ay
   have HB:=aA
   clear ay aA
   refine eG (n:=8) (S:=fun w'=>True) (ds:=[]) #[false,false,false,false,false,false,false,false] (by kernel_rfl) rfl rfl trivial (fun hHeld=>?_);refine jg cr.FO cr.AG (fun ck nZ=>?_)
   generalize w8.drew=w9 at fH HB hHeld⊢
   refine bZ ck (i:=0) (N:=some 15) ?_
   refine bZ ck (i:=1) (N:=some 16) ?_
   refine bZ ck (i:=2) (N:=some 17) ?_
   refine bZ ck (i:=3) (N:=some 18) ?_
   refine bZ ck (i:=4) (N:=some 19) ?_
   refine bZ ck (i:=5) (N:=some 20) ?_
   refine bZ ck (i:=6) (N:=some 21) ?_
   refine fK (i:=7) (N:=none) #[true,true,true,true,true,true,true,true] rfl rfl (kN ck.out (by kernel_rfl)) (by decide) (fun K hK=>?_)
   have hs10:w9.cell? ⟨mP,0,none⟩=some (.int .i64 0):=(ag fH.out 0).trans rfl
   have hfs10:=aa fH.out 0
   have hs11:w9.cell? ⟨mP,1,none⟩=some (.int .i64 0):=(ag fH.out 1).trans rfl
   have hfs11:=aa fH.out 1
   refine ku (w1:=?_) (by rfl) rfl ?_ ?_
   rotate_left
   ·go_simp
    rfl
   refine hK.out _ _ trivial (fun hHeld=>?_)
   clear hK K
   refine fl (lS ck.out (by kernel_rfl)) ?_
   try go_wp2
   refine bodyPost_ret (results_cell_row rfl _ _ mP 26 #[.int .i64 (wrap64 (Int.tdiv a0 (wrap64 (-t117)))),.int .i64 (wrap64 (Int.tdiv a1 (wrap64 (-t117))))] (0,0) _ rfl (by (with_reducible repeat (first|refine au ?_ _|refine ak ?_|refine aq ?_ _));refine aX (cs:= #[.int .i64 (wrap64 (Int.tdiv a0 (wrap64 (-t117)))),.int .i64 0]) ?_ 1 _ rfl;(with_reducible repeat (first|refine au ?_ _|refine ak ?_|refine aq ?_ _));refine aX (cs:= #[.int .i64 0,.int .i64 0]) ?_ 0 _ rfl;(with_reducible repeat (first|refine au ?_ _|refine ak ?_|refine aq ?_ _));exact fH.out) Try.underlying26 rfl (by kernel_rfl)) rfl ?_
   exact ⟨by first|rfl|(simp [aM,aQ]<;>rfl)|(simp [*,aM,aQ]<;>rfl),ax⟩
 ·rw [if_neg c6] at H
  have oQ:decide (a1<0)=false:=decide_eq_false c6
  clear c6
  by_cases c12:t117=0
  ·rw [if_pos c12] at H
   exact absurd H (by simp)
  ·rw [if_neg c12] at H
   have Uy:(t117==0)=false:=beq_eq_false_iff_ne.mpr c12
   have c12b1:(t117 !=0)=true:=bne_iff_ne.mpr c12
   simp only [Option.some.injEq,Prod.mk.injEq] at H
   obtain ⟨rfl,rfl⟩:=H
   go_enter Try.func66,Try.ntmps66
   try go_wp2_with (first|((with_reducible refine bk (N:=4) rfl ?_);refine bp ?hg (N:=4) ?hd (cs:= #[.int .i64 0,.int .i64 0]) (t:=26) ?hr ?_;(case hd=>rfl);(case hg=>rfl);(case hr=>first|(go_simp;done)|(go_simp;rfl));intro mP hg nY aU hb;have ay:=Aside0.mk (ai ax hb);have aA:=Aside0.mk (aU);have aD:=Aside0.mk ((by rw [hg];exact (av ax):w.heap.size<=mP));have aR:=Aside0.mk ((by rw [hg];exact (av ax):w.heap.size<=mP));clear HB;have HB:=ay;have fH:=aA;have b3F:=aD;have b3G:=aR;clear ay aA aD aR;clear hb aU hg)|((with_reducible refine aZ (f:=68) rfl ?_);refine bO (some 7) rfl rfl Try.func68 (by kernel_rfl) rfl #[.int .i64 a0] rfl (by (try simp only [List.map_toArray,List.map_cons,List.map_nil]);first|done|rfl|(simp only [List.length_drop,List.length_take];rfl)) ?_;(with_reducible refine (iG.calls a0 vt _ A3.out).mono ?_);rintro e w' ⟨rfl,⟨nd,rfl⟩⟩;refine ⟨_,rfl,?_⟩;(try (rw [iC nY];generalize fY:World.drewN nY _=nY;have ay:Aside0 (nY.heap[mP]? =some (.cells #[.int .i64 0,.int .i64 0] 26 (0,0))):=⟨by rw [<-fY];exact (aJ fH)⟩;have aA:Aside0 (Below w.heap.size w nY):=⟨by rw [<-fY];exact ax⟩;clear fH HB fY;have fH:=ay;have HB:=aA;clear ay aA)))|((with_reducible refine aZ (f:=68) rfl ?_);refine bO (some 9) rfl rfl Try.func68 (by kernel_rfl) rfl #[.int .i64 a1] rfl (by (try simp only [List.map_toArray,List.map_cons,List.map_nil]);first|done|rfl|(simp only [List.length_drop,List.length_take];rfl)) ?_;(with_reducible refine (iG.calls a1 t116 _ A4.out).mono ?_);rintro e w' ⟨rfl,⟨nd,rfl⟩⟩;refine ⟨_,rfl,?_⟩;(try (rw [iC nY];generalize fY:World.drewN nY _=nY;have ay:Aside0 (nY.heap[mP]? =some (.cells #[.int .i64 0,.int .i64 0] 26 (0,0))):=⟨by rw [<-fY];exact (aJ fH)⟩;have aA:Aside0 (Below w.heap.size w nY):=⟨by rw [<-fY];exact ax⟩;clear fH HB fY;have fH:=ay;have HB:=aA;clear ay aA)))|((with_reducible refine aZ (f:=67) rfl ?_);refine bO (some 10) rfl rfl Try.func67 (by kernel_rfl) rfl #[.int .i64 vt,.int .i64 t116] rfl (by (try simp only [List.map_toArray,List.map_cons,List.map_nil]);first|done|rfl|(simp only [List.length_drop,List.length_take];rfl)) ?_;(with_reducible refine (dX.calls k vt t116 t117 _ A5.out).mono ?_);rintro e w' ⟨rfl,⟨nd,rfl⟩⟩;refine ⟨_,rfl,?_⟩;(try (rw [iC nY];generalize fY:World.drewN nY _=nY;have ay:Aside0 (nY.heap[mP]? =some (.cells #[.int .i64 0,.int .i64 0] 26 (0,0))):=⟨by rw [<-fY];exact (aJ fH)⟩;have aA:Aside0 (Below w.heap.size w nY):=⟨by rw [<-fY];exact ax⟩;clear fH HB fY;have fH:=ay;have HB:=aA;clear ay aA))))
   have ay:=Aside0.mk (ak fH.out)
   have aA:=Aside0.mk (bn HB.out)
   clear fH
   clear HB
   have fH:=ay
   have HB:=aA
   clear ay aA
   refine eG (n:=8) (S:=fun w'=>True) (ds:=[]) #[false,false,false,false,false,false,false,false] (by kernel_rfl) rfl rfl trivial (fun hHeld=>?_);refine jg cr.FO cr.AG (fun ck nZ=>?_)
   generalize nY.drew=rQ at fH HB hHeld⊢
   refine bZ ck (i:=0) (N:=some 15) ?_
   refine bZ ck (i:=1) (N:=some 16) ?_
   refine bZ ck (i:=2) (N:=some 17) ?_
   refine bZ ck (i:=3) (N:=some 18) ?_
   refine bZ ck (i:=4) (N:=some 19) ?_
   refine bZ ck (i:=5) (N:=some 20) ?_
   refine bZ ck (i:=6) (N:=some 21) ?_
   refine fK (i:=7) (N:=none) #[true,true,true,true,true,true,true,true] rfl rfl (kN ck.out (by kernel_rfl)) (by decide) (fun K hK=>?_)
   have hs15:rQ.cell? ⟨mP,0,none⟩=some (.int .i64 0):=(ag fH.out 0).trans rfl
   have hfs15:=aa fH.out 0
   have b7B:rQ.cell? ⟨mP,1,none⟩=some (.int .i64 0):=(ag fH.out 1).trans rfl
   have b3H:=aa fH.out 1
   refine ku (w1:=?_) (by rfl) rfl ?_ ?_
   rotate_left
   ·go_simp
    rfl
   refine hK.out _ _ trivial (fun hHeld=>?_)
   clear hK K
   refine fl (lS ck.out (by kernel_rfl)) ?_
   try go_wp2
   refine bodyPost_ret (results_cell_row rfl _ _ mP 26 #[.int .i64 (wrap64 (Int.tdiv a0 t117)),.int .i64 (wrap64 (Int.tdiv a1 t117))] (0,0) _ rfl (by (with_reducible repeat (first|refine au ?_ _|refine ak ?_|refine aq ?_ _));refine aX (cs:= #[.int .i64 (wrap64 (Int.tdiv a0 t117)),.int .i64 0]) ?_ 1 _ rfl;(with_reducible repeat (first|refine au ?_ _|refine ak ?_|refine aq ?_ _));refine aX (cs:= #[.int .i64 0,.int .i64 0]) ?_ 0 _ rfl;(with_reducible repeat (first|refine au ?_ _|refine ak ?_|refine aq ?_ _));exact fH.out) Try.underlying26 rfl (by kernel_rfl)) rfl ?_
   exact ⟨by first|rfl|(simp [aM,aQ]<;>rfl)|(simp [*,aM,aQ]<;>rfl),ax⟩
def fL.f (k:Nat) (aH:Int) (aG:Int) (bg:Int) (aV:Int):Option (Int×Int):=(cr.f k (wrap64 ((wrap64 (aH*aV))+(wrap64 (bg*aG)))) (wrap64 (aG*aV))).bind fun Ig=>(some (Ig.1,Ig.2))
theorem fL.mono:∀a0 a1 a2 a3 k,aW (fL.f k a0 a1 a2 a3) (fL.f (k+1) a0 a1 a2 a3):=by
 intro a0 a1 a2 a3 k
 unfold fL.f
 repeat' first
  |(with_reducible exact cr.mono _ _ _)
  |(with_reducible exact aW.refl _)
  |(with_reducible exact aW.none _)
  |(with_reducible refine aW.ite ?_ ?_)
  |(with_reducible refine aW.bind ?_ (fun _=>?_))
set_option maxHeartbeats 8000000 in
set_option maxRecDepth 100000 in
theorem fL.calls (k:Nat) (aH:Int) (aG:Int) (bg:Int) (aV:Int) (r1:Int) (r2:Int) (w:World) (h:fL.f k aH aG bg aV=some (r1,r2)):
 Calls Try.prog 51 #[.agg #[.int .i64 aH,.int .i64 aG],.agg #[.int .i64 bg,.int .i64 aV]] w fun e w'=>e= .returned (.agg #[.int .i64 r1,.int .i64 r2])/\Below w.heap.size w w':=by
 have lY:=Try.underlying26
 have HB:=Aside0.mk (Below.refl w.heap.size w)
 have H:((cr.f k (wrap64 ((wrap64 (aH*aV))+(wrap64 (bg*aG)))) (wrap64 (aG*aV))).bind fun Ig=>(some (Ig.1,Ig.2)))=some (r1,r2):=h
 clear h
 replace H:=Option.bind_eq_some_iff.mp H
 obtain ⟨⟨UU,t175⟩,iO,H⟩:=H
 replace H:(some (UU,t175))=some (r1,r2):=H
 have A3:=Aside0.mk iO
 clear iO
 simp only [Option.some.injEq,Prod.mk.injEq] at H
 obtain ⟨rfl,rfl⟩:=H
 go_enter Try.func51,Try.ntmps51
 go_wp2_with (first|((with_reducible refine bk (N:=2) rfl ?_);refine bp ?hg (N:=2) ?hd (cs:= #[.int .i64 aH,.int .i64 aG]) (t:=26) ?hr ?_;(case hd=>rfl);(case hg=>rfl);(case hr=>first|(go_simp;done)|(go_simp;rfl));intro oz hg w4 aU hb;have ay:=Aside0.mk (ai ax hb);have aA:=Aside0.mk (aU);have aD:=Aside0.mk ((by rw [hg];exact (av ax):w.heap.size<=oz));have aR:=Aside0.mk ((by rw [hg];exact (av ax):w.heap.size<=oz));clear HB;have HB:=ay;have mQ:=aA;have GW171:=aD;have GE171:=aR;clear ay aA aD aR;clear hb aU hg)|((with_reducible refine bk (N:=3) rfl ?_);refine bp ?hg (N:=3) ?hd (cs:= #[.int .i64 bg,.int .i64 aV]) (t:=26) ?hr ?_;(case hd=>rfl);(case hg=>rfl);(case hr=>first|(go_simp;done)|(go_simp;rfl));intro qZ hg w5 aU hb;have ay:=Aside0.mk (ah (g:=oz) (o:= .cells #[.int .i64 aH,.int .i64 aG] 26 (0,0)) (aJ mQ) hb);have aA:=Aside0.mk (ai ax hb);have aD:=Aside0.mk (aU);have aR:=Aside0.mk ((by rw [hg];exact (av ax):w.heap.size<=qZ));have bK:=Aside0.mk ((by rw [hg];exact (av ax):w.heap.size<=qZ));have bT:=Aside0.mk ((by rw [hg];exact Nat.ne_of_lt (aY (g:=oz) (o:= .cells #[.int .i64 aH,.int .i64 aG] 26 (0,0)) (aJ mQ)):oz≠qZ));have cm:=Aside0.mk ((by rw [hg];exact Nat.ne_of_gt (aY (g:=oz) (o:= .cells #[.int .i64 aH,.int .i64 aG] 26 (0,0)) (aJ mQ)):qZ≠oz));clear mQ;clear HB;have mQ:=ay;have HB:=aA;have rf:=aD;have GW172:=aR;have GE172:=bK;have Xr:=bT;have Xt:=cm;clear ay aA aD aR bK bT cm;clear hb aU hg)|((with_reducible refine bk (N:=4) rfl ?_);refine bp ?hg (N:=4) ?hd (cs:= #[.int .i64 0,.int .i64 0]) (t:=26) ?hr ?_;(case hd=>rfl);(case hg=>rfl);(case hr=>first|(go_simp;done)|(go_simp;rfl));intro tZ hg w6 aU hb;have ay:=Aside0.mk (ah (g:=oz) (o:= .cells #[.int .i64 aH,.int .i64 aG] 26 (0,0)) (aJ mQ) hb);have aA:=Aside0.mk (ah (g:=qZ) (o:= .cells #[.int .i64 bg,.int .i64 aV] 26 (0,0)) (aJ rf) hb);have aD:=Aside0.mk (ai ax hb);have aR:=Aside0.mk (aU);have bK:=Aside0.mk ((by rw [hg];exact (av ax):w.heap.size<=tZ));have bT:=Aside0.mk ((by rw [hg];exact (av ax):w.heap.size<=tZ));have cm:=Aside0.mk ((by rw [hg];exact Nat.ne_of_lt (aY (g:=oz) (o:= .cells #[.int .i64 aH,.int .i64 aG] 26 (0,0)) (aJ mQ)):oz≠tZ));have iP:=Aside0.mk ((by rw [hg];exact Nat.ne_of_gt (aY (g:=oz) (o:= .cells #[.int .i64 aH,.int .i64 aG] 26 (0,0)) (aJ mQ)):tZ≠oz));have jk:=Aside0.mk ((by rw [hg];exact Nat.ne_of_lt (aY (g:=qZ) (o:= .cells #[.int .i64 bg,.int .i64 aV] 26 (0,0)) (aJ rf)):qZ≠tZ));have ke:=Aside0.mk ((by rw [hg];exact Nat.ne_of_gt (aY (g:=qZ) (o:= .cells #[.int .i64 bg,.int .i64 aV] 26 (0,0)) (aJ rf)):tZ≠qZ));clear mQ;clear rf;clear HB;have mQ:=ay;have rf:=aA;have HB:=aD;have xN:=aR;have GW173:=bK;have GE173:=bT;have Xu:=cm;have Xv:=iP;have Xw:=jk;have Xx:=ke;clear ay aA aD aR bK bT cm iP jk ke;clear hb aU hg;have Fq:=Xr.out;have Fs:=Xt.out;have KN:=Xu.out;have KO:=Xv.out;have wH:w6.cell? ⟨oz,0,none⟩=some (.int .i64 aH):=(ag mQ.out 0).trans rfl;have wI:w6.cell? ⟨oz,1,none⟩=some (.int .i64 aG):=(ag mQ.out 1).trans rfl;have wJ:=aa mQ.out 0;have wK:=aa mQ.out 1;have DM:=Xw.out;have DN:=Xx.out;have tF:w6.cell? ⟨qZ,0,none⟩=some (.int .i64 bg):=(ag rf.out 0).trans rfl;have tG:w6.cell? ⟨qZ,1,none⟩=some (.int .i64 aV):=(ag rf.out 1).trans rfl;have tH:=aa rf.out 0;have tI:=aa rf.out 1)|((with_reducible refine aZ (f:=66) rfl ?_);refine bO (some 21) rfl rfl Try.func66 (by kernel_rfl) rfl #[.int .i64 (wrap64 ((wrap64 (aH*aV))+(wrap64 (bg*aG)))),.int .i64 (wrap64 (aG*aV))] rfl (by (try simp only [List.map_toArray,List.map_cons,List.map_nil]);first|done|rfl|(simp only [List.length_drop,List.length_take];rfl)) ?_;(with_reducible refine (cr.calls k (wrap64 ((wrap64 (aH*aV))+(wrap64 (bg*aG)))) (wrap64 (aG*aV)) UU t175 _ A3.out).mono ?_);rintro e lD ⟨rfl,hb⟩;refine ⟨_,rfl,?_⟩;have ay:=Aside0.mk (ah (g:=oz) (o:= .cells #[.int .i64 aH,.int .i64 aG] 26 (0,0)) (aJ mQ) hb);have aA:=Aside0.mk (ah (g:=qZ) (o:= .cells #[.int .i64 bg,.int .i64 aV] 26 (0,0)) (aJ rf) hb);have aD:=Aside0.mk (ah (g:=tZ) (o:= .cells #[.int .i64 0,.int .i64 0] 26 (0,0)) (aJ xN) hb);have aR:=Aside0.mk (ai ax hb);clear mQ;clear rf;clear xN;clear HB;have mQ:=ay;have rf:=aA;have xN:=aD;have HB:=aR;clear ay aA aD aR;(try clear hb);(try clear hb2);(try clear hk);(try clear hi);have nC:lD.cell? ⟨tZ,0,none⟩=some (.int .i64 0):=(ag xN.out 0).trans rfl;have nD:lD.cell? ⟨tZ,1,none⟩=some (.int .i64 0):=(ag xN.out 1).trans rfl;have nE:=aa xN.out 0;have nG:=aa xN.out 1))
 refine bodyPost_ret (results_cell_row rfl _ _ tZ 26 #[.int .i64 UU,.int .i64 t175] (0,0) _ rfl (by (with_reducible repeat (first|refine au ?_ _|refine ak ?_|refine aq ?_ _));refine aX (cs:= #[.int .i64 UU,.int .i64 0]) ?_ 1 _ rfl;(with_reducible repeat (first|refine au ?_ _|refine ak ?_|refine aq ?_ _));refine aX (cs:= #[.int .i64 0,.int .i64 0]) ?_ 0 _ rfl;(with_reducible repeat (first|refine au ?_ _|refine ak ?_|refine aq ?_ _));exact xN.out) Try.underlying26 rfl (by kernel_rfl)) rfl ?_
 exact ⟨by first|rfl|(simp [aM,aQ]<;>rfl)|(simp [*,aM,aQ]<;>rfl),ax⟩
def jK.f (k:Nat) (aH:Int) (aG:Int) (bg:Int) (aV:Int):Option (Int×Int):=(cr.f k (wrap64 ((wrap64 (aH*aV))-(wrap64 (bg*aG)))) (wrap64 (aG*aV))).bind fun Ih=>(some (Ih.1,Ih.2))
theorem jK.mono:∀a0 a1 a2 a3 k,aW (jK.f k a0 a1 a2 a3) (jK.f (k+1) a0 a1 a2 a3):=by
 intro a0 a1 a2 a3 k
 unfold jK.f
 repeat' first
  |(with_reducible exact cr.mono _ _ _)
  |(with_reducible exact aW.refl _)
  |(with_reducible exact aW.none _)
  |(with_reducible refine aW.ite ?_ ?_)
  |(with_reducible refine aW.bind ?_ (fun _=>?_))
set_option maxHeartbeats 8000000 in
set_option maxRecDepth 100000 in
theorem jK.calls (k:Nat) (aH:Int) (aG:Int) (bg:Int) (aV:Int) (r1:Int) (r2:Int) (w:World) (h:jK.f k aH aG bg aV=some (r1,r2)):
 Calls Try.prog 63 #[.agg #[.int .i64 aH,.int .i64 aG],.agg #[.int .i64 bg,.int .i64 aV]] w fun e w'=>e= .returned (.agg #[.int .i64 r1,.int .i64 r2])/\Below w.heap.size w w':=by
 have lY:=Try.underlying26
 have HB:=Aside0.mk (Below.refl w.heap.size w)
 have H:((cr.f k (wrap64 ((wrap64 (aH*aV))-(wrap64 (bg*aG)))) (wrap64 (aG*aV))).bind fun Ih=>(some (Ih.1,Ih.2)))=some (r1,r2):=h
 clear h
 replace H:=Option.bind_eq_some_iff.mp H
 obtain ⟨⟨UW,t127⟩,iO,H⟩:=H
 replace H:(some (UW,t127))=some (r1,r2):=H
 have A3:=Aside0.mk iO
 clear iO
 simp only [Option.some.injEq,Prod.mk.injEq] at H
 obtain ⟨rfl,rfl⟩:=H
 go_enter Try.func63,Try.ntmps63
 go_wp2_with (first|((with_reducible refine bk (N:=2) rfl ?_);refine bp ?hg (N:=2) ?hd (cs:= #[.int .i64 aH,.int .i64 aG]) (t:=26) ?hr ?_;(case hd=>rfl);(case hg=>rfl);(case hr=>first|(go_simp;done)|(go_simp;rfl));intro oA hg w4 aU hb;have ay:=Aside0.mk (ai ax hb);have aA:=Aside0.mk (aU);have aD:=Aside0.mk ((by rw [hg];exact (av ax):w.heap.size<=oA));have aR:=Aside0.mk ((by rw [hg];exact (av ax):w.heap.size<=oA));clear HB;have HB:=ay;have mR:=aA;have GW123:=aD;have GE123:=aR;clear ay aA aD aR;clear hb aU hg)|((with_reducible refine bk (N:=3) rfl ?_);refine bp ?hg (N:=3) ?hd (cs:= #[.int .i64 bg,.int .i64 aV]) (t:=26) ?hr ?_;(case hd=>rfl);(case hg=>rfl);(case hr=>first|(go_simp;done)|(go_simp;rfl));intro ri hg w5 aU hb;have ay:=Aside0.mk (ah (g:=oA) (o:= .cells #[.int .i64 aH,.int .i64 aG] 26 (0,0)) (aJ mR) hb);have aA:=Aside0.mk (ai ax hb);have aD:=Aside0.mk (aU);have aR:=Aside0.mk ((by rw [hg];exact (av ax):w.heap.size<=ri));have bK:=Aside0.mk ((by rw [hg];exact (av ax):w.heap.size<=ri));have bT:=Aside0.mk ((by rw [hg];exact Nat.ne_of_lt (aY (g:=oA) (o:= .cells #[.int .i64 aH,.int .i64 aG] 26 (0,0)) (aJ mR)):oA≠ri));have cm:=Aside0.mk ((by rw [hg];exact Nat.ne_of_gt (aY (g:=oA) (o:= .cells #[.int .i64 aH,.int .i64 aG] 26 (0,0)) (aJ mR)):ri≠oA));clear mR;clear HB;have mR:=ay;have HB:=aA;have rj:=aD;have GW124:=aR;have GE124:=bK;have Xy:=bT;have Xz:=cm;clear ay aA aD aR bK bT cm;clear hb aU hg)|((with_reducible refine bk (N:=4) rfl ?_);refine bp ?hg (N:=4) ?hd (cs:= #[.int .i64 0,.int .i64 0]) (t:=26) ?hr ?_;(case hd=>rfl);(case hg=>rfl);(case hr=>first|(go_simp;done)|(go_simp;rfl));intro ua hg w6 aU hb;have ay:=Aside0.mk (ah (g:=oA) (o:= .cells #[.int .i64 aH,.int .i64 aG] 26 (0,0)) (aJ mR) hb);have aA:=Aside0.mk (ah (g:=ri) (o:= .cells #[.int .i64 bg,.int .i64 aV] 26 (0,0)) (aJ rj) hb);have aD:=Aside0.mk (ai ax hb);have aR:=Aside0.mk (aU);have bK:=Aside0.mk ((by rw [hg];exact (av ax):w.heap.size<=ua));have bT:=Aside0.mk ((by rw [hg];exact (av ax):w.heap.size<=ua));have cm:=Aside0.mk ((by rw [hg];exact Nat.ne_of_lt (aY (g:=oA) (o:= .cells #[.int .i64 aH,.int .i64 aG] 26 (0,0)) (aJ mR)):oA≠ua));have iP:=Aside0.mk ((by rw [hg];exact Nat.ne_of_gt (aY (g:=oA) (o:= .cells #[.int .i64 aH,.int .i64 aG] 26 (0,0)) (aJ mR)):ua≠oA));have jk:=Aside0.mk ((by rw [hg];exact Nat.ne_of_lt (aY (g:=ri) (o:= .cells #[.int .i64 bg,.int .i64 aV] 26 (0,0)) (aJ rj)):ri≠ua));have ke:=Aside0.mk ((by rw [hg];exact Nat.ne_of_gt (aY (g:=ri) (o:= .cells #[.int .i64 bg,.int .i64 aV] 26 (0,0)) (aJ rj)):ua≠ri));clear mR;clear rj;clear HB;have mR:=ay;have rj:=aA;have HB:=aD;have xO:=aR;have GW125:=bK;have GE125:=bT;have XA:=cm;have XB:=iP;have XC:=jk;have XD:=ke;clear ay aA aD aR bK bT cm iP jk ke;clear hb aU hg;have Fq:=Xy.out;have Fs:=Xz.out;have KN:=XA.out;have KO:=XB.out;have wH:w6.cell? ⟨oA,0,none⟩=some (.int .i64 aH):=(ag mR.out 0).trans rfl;have wI:w6.cell? ⟨oA,1,none⟩=some (.int .i64 aG):=(ag mR.out 1).trans rfl;have wJ:=aa mR.out 0;have wK:=aa mR.out 1;have DM:=XC.out;have DN:=XD.out;have tF:w6.cell? ⟨ri,0,none⟩=some (.int .i64 bg):=(ag rj.out 0).trans rfl;have tG:w6.cell? ⟨ri,1,none⟩=some (.int .i64 aV):=(ag rj.out 1).trans rfl;have tH:=aa rj.out 0;have tI:=aa rj.out 1)|((with_reducible refine aZ (f:=66) rfl ?_);refine bO (some 21) rfl rfl Try.func66 (by kernel_rfl) rfl #[.int .i64 (wrap64 ((wrap64 (aH*aV))-(wrap64 (bg*aG)))),.int .i64 (wrap64 (aG*aV))] rfl (by (try simp only [List.map_toArray,List.map_cons,List.map_nil]);first|done|rfl|(simp only [List.length_drop,List.length_take];rfl)) ?_;(with_reducible refine (cr.calls k (wrap64 ((wrap64 (aH*aV))-(wrap64 (bg*aG)))) (wrap64 (aG*aV)) UW t127 _ A3.out).mono ?_);rintro e lD ⟨rfl,hb⟩;refine ⟨_,rfl,?_⟩;have ay:=Aside0.mk (ah (g:=oA) (o:= .cells #[.int .i64 aH,.int .i64 aG] 26 (0,0)) (aJ mR) hb);have aA:=Aside0.mk (ah (g:=ri) (o:= .cells #[.int .i64 bg,.int .i64 aV] 26 (0,0)) (aJ rj) hb);have aD:=Aside0.mk (ah (g:=ua) (o:= .cells #[.int .i64 0,.int .i64 0] 26 (0,0)) (aJ xO) hb);have aR:=Aside0.mk (ai ax hb);clear mR;clear rj;clear xO;clear HB;have mR:=ay;have rj:=aA;have xO:=aD;have HB:=aR;clear ay aA aD aR;(try clear hb);(try clear hb2);(try clear hk);(try clear hi);have nC:lD.cell? ⟨ua,0,none⟩=some (.int .i64 0):=(ag xO.out 0).trans rfl;have nD:lD.cell? ⟨ua,1,none⟩=some (.int .i64 0):=(ag xO.out 1).trans rfl;have nE:=aa xO.out 0;have nG:=aa xO.out 1))
 refine bodyPost_ret (results_cell_row rfl _ _ ua 26 #[.int .i64 UW,.int .i64 t127] (0,0) _ rfl (by (with_reducible repeat (first|refine au ?_ _|refine ak ?_|refine aq ?_ _));refine aX (cs:= #[.int .i64 UW,.int .i64 0]) ?_ 1 _ rfl;(with_reducible repeat (first|refine au ?_ _|refine ak ?_|refine aq ?_ _));refine aX (cs:= #[.int .i64 0,.int .i64 0]) ?_ 0 _ rfl;(with_reducible repeat (first|refine au ?_ _|refine ak ?_|refine aq ?_ _));exact xO.out) Try.underlying26 rfl (by kernel_rfl)) rfl ?_
 exact ⟨by first|rfl|(simp [aM,aQ]<;>rfl)|(simp [*,aM,aQ]<;>rfl),ax⟩
end Go.Proofs.Ytnhknojfpjheoaa.P
