/-
  Part 14 of the proof of this: The law FnExactPlanOK answers true at every argument.
-/
import Derived.Test.YtkckdphjhlbdcaaKPlanOK2
import Derived.Test.YtkckdphjhlbdcaaKPlanOK10
import Derived.Test.YtkckdphjhlbdcaaKPlanOK11
import Derived.Test.YtkckdphjhlbdcaaKPlanOK13
import Derived.Deep.RegionHeld3
namespace Go.Proofs.Ytkckdphjhlbdcaa.PT
open Go.RowKit Go.Proofs.Ytkckdphjhlbdcaa.P Go.Proofs.YtkckdphjhlbdcaaW.PrintWords Go.Proofs.YtkckdphjhlbdcaaW.PrintLast Go.Proofs.Ytkckdphjhlbdcaa.EvKit
set_option linter.all false
theorem Cb (a b c:Int) (W:World):Calls Try.prog 25 #[.int .i64 a,.int .i64 b,.int .i64 c] W fun e w'=>e= .returned (.bool (decide (b<=a/\a<=c)))/\aW W w':=fH.calls a b c _ W (Db a b c)
theorem SH (A0:Option Addr) (c0:Nat) (a:List Int) (A1:Option Addr) (c1:Nat) (b:List Int) (W:World) (h0:Kd.C (Kd.int .i64) W A0 a.length a) (hc0:a.length<=c0) (h1:Kd.C (Kd.int .i64) W A1 b.length b) (hc1:b.length<=c1) (ha:a.length<=1048576) (hb:b.length<=1048576):
 Calls Try.prog 27 #[.slice A0 a.length c0,.slice A1 b.length c1] W fun e w'=>e= .returned (.bool (a.all (fun v=>decide (v∈b))))/\aW W w':=by
 obtain ⟨k,hk⟩:=Ev.rounds (Od a b ha hb)
 exact bT.calls k A0 c0 a A1 c1 b _ W h0 hc0 h1 hc1 hk
theorem Xn (K:Int) (hK0:0<=K) (hK:K<=6) (A0:Option Addr) (c0:Nat) (l:List Int) (W:World) (h0:Kd.C (Kd.int .i64) W A0 l.length l) (hc0:l.length<=c0) (hl:l.length<=1048576):
 Calls Try.prog 24 #[.slice A0 l.length c0,.int .i64 K] W fun e w'=>e= .returned (.bool (iA (-1) l&&l.all (fun v=>decide (v<K))))/\aW W w':=by
 obtain ⟨k,hk⟩:=Ev.rounds (Mj K hK0 hK l (by omega))
 exact bZ.calls k A0 c0 l K _ W h0 hc0 hk
theorem Oz (k:Int) (AE:Option Addr) (cE:Nat) (aa:List (List Int)) (W:World) (hE:Kd.C mN W AE aa.length aa) (yT:aa.length<=cE) (sG:∀x,x∈aa->x.length<=1048576):
 Calls Try.prog 23 #[.int .i64 k,.slice AE aa.length cE] W fun e w'=>e= .returned (.bool (kC k aa))/\aW W w':=by
 obtain ⟨j,hj⟩:=Ev.rounds (Xh k aa sG)
 exact aQ.calls j k AE cE aa _ W hE yT hj
def pT (n:Nat) (wq:Nat->Int×Int):tQ:=(List.range n).map (fun i=>⟨(wq i).1,(wq i).2⟩)
theorem DG (n:Nat) (wq:Nat->Int×Int):(pT n wq).length=n:=by unfold pT;simp
theorem SI {n:Nat} {wq:Nat->Int×Int} {i:Nat} (h:i<n):(aZ (pT n wq) (i:Int)).f0=(wq i).1/\(aZ (pT n wq) (i:Int)).f1=(wq i).2:=by
 unfold aZ pT
 rw [Int.toNat_natCast]
 simp [List.getD_eq_getElem?_getD,h]
set_option maxHeartbeats 8000000 in
set_option maxRecDepth 100000 in
theorem Tj {w:World} {aa au:List (List Int)} {par home:List Int} {bg:tQ} {AE A0 A1 A2 A3:Option Addr} {cE c0 c1 c2 c3:Nat} (k n d:Int) (wq:Nat->Int×Int) (m:Int×Int)
 (hE:Kd.C mN w AE aa.length aa) (yT:aa.length<=cE) (hP:BX w au par home bg A0 A1 A2 A3 c0 c1 c2 c3) (hrow:∀i,(au.getD i []).length<=1048576) (sG:∀x,x∈aa->x.length<=1048576)
 (hWs:kC k aa=true->ir k au par bg.length=true->∀W:World,Kd.C mN W A0 au.length au->Kd.C mN W AE aa.length aa->
   Calls Try.prog 28 #[.slice A0 au.length c0,.slice AE aa.length cE] W fun e w'=>∃(Aw:Option Addr) (cw:Nat),e= .returned (.tuple #[.slice Aw au.length cw,.agg #[.int .i64 m.1,.int .i64 m.2]])/\Kd.C gY w' Aw (pT au.length wq).length (pT au.length wq)/\Below W.heap.size W w'):
 Calls Try.prog 7 #[.int .i64 k,.slice AE aa.length cE,.agg #[.slice A0 au.length c0,.slice A1 par.length c1,.slice A2 home.length c2,.slice A3 bg.length c3,.int .i64 n,.int .i64 d]] w fun e w'=>e= .returned (.bool (eO k aa au par home bg n d wq m))/\Below w.heap.size w w':=by
 have qY:=Aside0.mk (fun W (hB:Below w.heap.size w W)=>Oz k AE cE aa W (Kd.bp hE hB) yT sG)
 have HP:=Aside0.mk hP
 have HE:=Aside0.mk hE
 have qg:=Aside0.mk hrow
 have pX:=Aside0.mk hWs
 have eN:=Aside0.mk (Below.refl w.heap.size w)
 have rP:Aside0 ((w.alloc (.cells #[.slice A0 au.length c0,.slice A1 par.length c1,.slice A2 home.length c2,.slice A3 bg.length c3,.int .i64 n,.int .i64 d] 36)).heap[w.heap.size]? =some (.cells #[.slice A0 au.length c0,.slice A1 par.length c1,.slice A2 home.length c2,.slice A3 bg.length c3,.int .i64 n,.int .i64 d] 36 (0,0))):=⟨dn w _⟩
 have hul:=Try.underlying36
 have hur:=Try.underlying34
 have heq:=a5T
 clear hE hP hrow sG hWs
 by_cases a1:kC k aa=true
 case neg=>
  have a1:=Bool.eq_false_iff.2 a1
  rw [a1] at qY
  have HF:Aside0 (eO k aa au par home bg n d wq m=false):=⟨Vc a1⟩
  clear pX
  go_enter Try.func7,Try.ntmps7
  go_wp2_with (first|(go_at_call 23;(with_reducible refine (qY.out _ (aT eN.out _)).mono ?_);rintro e w2 ⟨rfl,hb⟩;have fQ:=Aside0.mk (ah (aT eN.out _) (dH hb));have lY:=Aside0.mk (aj rP.out (dH hb));obtain ⟨hz0,hz1,hz2,hz3,oL,oZ⟩:=kP lY.out;clear hb))
  go_ret
  exact ⟨by rw [HF.out];rfl,fQ.out⟩
 rw [a1] at qY
 by_cases q1:au.length<=12
 case neg=>
  have q1d:decide ((au.length:Int)>12)=true:=decide_eq_true (by omega)
  have q1n:decide (12<au.length)=true:=decide_eq_true (by omega)
  have HF:Aside0 (eO k aa au par home bg n d wq m=false):=⟨Av (by unfold ir;rw [decide_eq_false (fun h=>q1 h.1),Bool.false_and])⟩
  clear pX a1 q1
  go_enter Try.func7,Try.ntmps7
  go_wp2_with (first|(go_at_call 23;(with_reducible refine (qY.out _ (aT eN.out _)).mono ?_);rintro e w2 ⟨rfl,hb⟩;have fQ:=Aside0.mk (ah (aT eN.out _) (dH hb));have lY:=Aside0.mk (aj rP.out (dH hb));obtain ⟨hz0,hz1,hz2,hz3,oL,oZ⟩:=kP lY.out;clear hb))
  go_ret
  exact ⟨by rw [HF.out];rfl,fQ.out⟩
 have q1d:decide ((au.length:Int)>12)=false:=decide_eq_false (by omega)
 have q1n:decide (12<au.length)=false:=decide_eq_false (by omega)
 by_cases q2:par.length=au.length
 case neg=>
  have q2d:((par.length:Int) !=(au.length:Int))=true:=by rw [bne_iff_ne];omega
  have HF:Aside0 (eO k aa au par home bg n d wq m=false):=⟨Av (by unfold ir;rw [decide_eq_false (fun h=>q2 h.2.1),Bool.false_and])⟩
  clear pX a1 q2
  go_enter Try.func7,Try.ntmps7
  go_wp2_with (first|(go_at_call 23;(with_reducible refine (qY.out _ (aT eN.out _)).mono ?_);rintro e w2 ⟨rfl,hb⟩;have fQ:=Aside0.mk (ah (aT eN.out _) (dH hb));have lY:=Aside0.mk (aj rP.out (dH hb));obtain ⟨hz0,hz1,hz2,hz3,oL,oZ⟩:=kP lY.out;clear hb))
  go_ret
  exact ⟨by rw [HF.out];rfl,fQ.out⟩
 have q2d:((par.length:Int) !=(au.length:Int))=false:=by rw [q2];simp
 have ER:=Aside0.mk q2
 clear q2
 by_cases a3:home.length=aa.length
 case neg=>
  have a3d:((home.length:Int) !=(aa.length:Int))=true:=by rw [bne_iff_ne];omega
  have HF:Aside0 (eO k aa au par home bg n d wq m=false):=⟨Vd a3⟩
  clear pX a1 a3
  go_enter Try.func7,Try.ntmps7
  go_wp2_with (first|(go_at_call 23;(with_reducible refine (qY.out _ (aT eN.out _)).mono ?_);rintro e w2 ⟨rfl,hb⟩;have fQ:=Aside0.mk (ah (aT eN.out _) (dH hb));have lY:=Aside0.mk (aj rP.out (dH hb));obtain ⟨hz0,hz1,hz2,hz3,oL,oZ⟩:=kP lY.out;clear hb))
  go_ret
  exact ⟨by rw [HF.out];rfl,fQ.out⟩
 have a3d:((home.length:Int) !=(aa.length:Int))=false:=by rw [a3];simp
 have H3:=Aside0.mk a3
 clear a3
 by_cases q4:bg.length=au.length
 case neg=>
  have q4d:((bg.length:Int) !=(au.length:Int))=true:=by rw [bne_iff_ne];omega
  have HF:Aside0 (eO k aa au par home bg n d wq m=false):=⟨Av (by unfold ir;rw [decide_eq_false (fun h=>q4 h.2.2),Bool.false_and])⟩
  clear pX a1 q4
  go_enter Try.func7,Try.ntmps7
  go_wp2_with (first|(go_at_call 23;(with_reducible refine (qY.out _ (aT eN.out _)).mono ?_);rintro e w2 ⟨rfl,hb⟩;have fQ:=Aside0.mk (ah (aT eN.out _) (dH hb));have lY:=Aside0.mk (aj rP.out (dH hb));obtain ⟨hz0,hz1,hz2,hz3,oL,oZ⟩:=kP lY.out;clear hb))
  go_ret
  exact ⟨by rw [HF.out];rfl,fQ.out⟩
 have q4d:((bg.length:Int) !=(au.length:Int))=false:=by rw [q4];simp
 have HW:=Aside0.mk q4
 clear q4
 obtain ⟨K,rfl,hK6⟩:=Xg a1
 have hne:=(JC a1).1
 have H1:=Aside0.mk a1
 have HL6:Aside0 (∀i,(aa.getD i []).length<=6):=⟨fun i=>by
  by_cases hj:i<aa.length
  ·have:aa.getD i []=aa[i]:=by simp [List.getD_eq_getElem?_getD,hj]
   rw [this];exact sR (List.all_eq_true.1 (JC a1).2 _ (List.getElem_mem hj))
  ·have:aa.getD i []=[]:=by simp [List.getD_eq_getElem?_getD,hj]
   rw [this];simp⟩
 replace pX:=Aside0.mk (pX.out a1)
 clear a1
 go_enter Try.func7,Try.ntmps7
 go_wp2_with (first|(go_at_call 23;(with_reducible refine (qY.out _ (aT eN.out _)).mono ?_);rintro e w2 ⟨rfl,hb⟩;have fQ:=Aside0.mk (ah (aT eN.out _) (dH hb));have lY:=Aside0.mk (aj rP.out (dH hb));obtain ⟨hz0,hz1,hz2,hz3,oL,oZ⟩:=kP lY.out;clear hb))
 replace HP:=Aside0.mk (HP.out.below fQ.out)
 replace HE:=Aside0.mk (Kd.bp HE.out fQ.out)
 have di:=Aside0.mk fQ.out
 clear qY eN rP fQ hz0 hz1 hz2 hz3 oL oZ
 go_loopw [52] (fun iv wr=>∃i:Nat,iv= .int .i64 (i:Int)/\i<=au.length/\Aside0 (∀j,j<i->tS (K:Int) au par j=true)/\Aside0 (Below w2.heap.size w2 wr)) (fun iv _=>au.length -(intOf iv).toNat)
 case atStart=>exact ⟨0,rfl,by omega,⟨fun j hj=>by omega⟩,⟨by repeat (first|exact Below.refl _ _|apply aI)⟩⟩
 case round=>
  obtain ⟨i,rfl,hi,HA,HB⟩:=hrel
  by_cases hlt:i<au.length
  ·obtain ⟨ad,Ai,ci,e,hx,hlx,kA⟩:=mY HP.out.mI hlt
   obtain ⟨RX,e1,hp⟩:=pQ HP.out.wL (show i<par.length by have:=ER.out;omega)
   cases e;cases e1
   obtain ⟨hz0,hz1,hz2,hz3,oL,oZ⟩:=kP (aj lY.out HB.out)
   replace hx:=(HB.out.cell (World.block_lt_of_cell? w2 _ hx)).trans hx
   replace hp:=(HB.out.cell (World.block_lt_of_cell? w2 _ hp)).trans hp
   have HI:=Aside0.mk hlt
   have oK:=Aside0.mk (Kd.bp kA HB.out)
   have gb:=Aside0.mk (fun W (hW:Below wr.heap.size wr W)=>Xn (K:Int) (by omega) (by omega) Ai ci (au.getD i []) W (Kd.bp oK.out hW) hlx (qg.out i))
   have jZ:=Aside0.mk (fun W=>Cb (par.getD i 0) ((i:Int)+1) ((au.length:Int)- 1) W)
   have qQ:Aside0 (Below wr.heap.size wr wr):=⟨Below.refl _ _⟩
   have hpl:(i:Int)<(par.length:Int):=by have:=ER.out;omega
   have fE:Aside0 (wrap64 ((i:Int)+1)=((i+1:Nat):Int)):=⟨dQ (by omega)⟩
   have kB:Aside0 (tS (K:Int) au par i=(wM (K:Int) (au.getD i [])&&yg au.length i (par.getD i 0))):=⟨rfl⟩
   have gp:Aside0 (tS (K:Int) au par i=false->eO (K:Int) aa au par home bg n d wq m=false):=⟨fun h=>Av (Fz hlt h)⟩
   have kG:Aside0 (tS (K:Int) au par i=true->∀j,j<i+1->tS (K:Int) au par j=true):=⟨fun h j hj=>(Nat.lt_succ_iff_lt_or_eq.1 hj).elim (HA.out j) (fun e=>by rw [e];exact h)⟩
   have kN:Aside0 (wM (K:Int) (au.getD i [])=(decide (0<(au.getD i []).length)&&(iA (-1) (au.getD i [])&&(au.getD i []).all (fun v=>decide (v<(K:Int)))))):=⟨rfl⟩
   have g0:(0:Int)<=(i:Int):=by omega
   have g1:(i:Int)<(au.length:Int):=by omega
   have oB:decide ((i:Int)<(au.length:Int))=true:=decide_eq_true g1
   have mW:decide (i<au.length)=true:=decide_eq_true hlt
   clear hlx kA hi hlt HA
   generalize tS (K:Int) au par i=one at*
   generalize au.getD i []=row at*
   generalize par.getD i 0=p at*
   generalize wM (K:Int) row=bb at*
   generalize (iA (-1) row&&row.all (fun v=>decide (v<(K:Int))))=sb at*
   by_cases r0:row.length=0
   ·have HE:Aside0 (eO (K:Int) aa au par home bg n d wq m=false):=⟨gp.out (by rw [kB.out,kN.out,decide_eq_false (by omega),Bool.false_and,Bool.false_and])⟩
    have RY:((row.length:Int)==0)=true:=by rw [beq_iff_eq];omega
    clear gp kB gb jZ kG oK kN r0
    go_wp2
    go_ret
    exact ⟨by rw [HE.out];rfl,ah di.out HB.out⟩
   have RY:((row.length:Int)==0)=false:=by rw [beq_eq_false_iff_ne];omega
   replace kN:Aside0 (bb=sb):=⟨by rw [kN.out,decide_eq_true (by omega),Bool.true_and]⟩
   clear r0 oK
   cases sb with
   |false=>
    have HE:Aside0 (eO (K:Int) aa au par home bg n d wq m=false):=⟨gp.out (by rw [kB.out,kN.out,Bool.false_and])⟩
    clear gp kB jZ kG kN
    go_wp2_with (first|(go_at_call 24;(with_reducible refine (gb.out _ qQ.out).mono ?_);rintro e w' ⟨rfl,⟨nd,rfl⟩⟩))
    go_ret
    exact ⟨by rw [HE.out];rfl,ah di.out (bu HB.out _)⟩
   |true=>
    by_cases pm:p= -1
    ·have sZ:Aside0 (one=true):=⟨by rw [kB.out,kN.out];unfold yg;rw [decide_eq_true (.inl pm)];rfl⟩
     have pmd:(p != -1)=false:=by simp [pm]
     clear gp kB jZ kN pm
     go_wp2_with (first|(go_at_call 24;(with_reducible refine (gb.out _ qQ.out).mono ?_);rintro e w' ⟨rfl,⟨nd,rfl⟩⟩))
     go_wp2
     go_roundw
     case rel=>exact ⟨i+1,by first|(rw [fE.out];done)|rfl|(simp;done),HI.out,⟨kG.out sZ.out⟩,⟨by repeat (first|exact HB.out|refine bu ?_ _|apply aI)⟩⟩
     case measure=>(try rw [fE.out]);have:=HI.out;simp [intOf];omega
    ·have pmd:(p != -1)=true:=by simp [pm]
     by_cases pw:(i:Int)+1<=p/\p<=(au.length:Int)- 1
     ·have sZ:Aside0 (one=true):=⟨by rw [kB.out,kN.out];unfold yg;rw [decide_eq_true (.inr pw)];rfl⟩
      rw [decide_eq_true pw] at jZ
      clear gp kB kN pm pw
      go_wp2_with (first|(go_at_call 24;(with_reducible refine (gb.out _ qQ.out).mono ?_);rintro e w' ⟨rfl,⟨nd,rfl⟩⟩)|(go_at_call 25;(with_reducible refine (jZ.out _).mono ?_);rintro e w' ⟨rfl,⟨nd2,rfl⟩⟩))
      go_wp2
      go_roundw
      case rel=>exact ⟨i+1,by first|(rw [fE.out];done)|rfl|(simp;done),HI.out,⟨kG.out sZ.out⟩,⟨by repeat (first|exact HB.out|refine bu ?_ _|apply aI)⟩⟩
      case measure=>(try rw [fE.out]);have:=HI.out;simp [intOf];omega
     ·have HE:Aside0 (eO (K:Int) aa au par home bg n d wq m=false):=⟨gp.out (by rw [kB.out];unfold yg;rw [decide_eq_false (fun h=>h.elim pm pw),Bool.and_false])⟩
      rw [decide_eq_false pw] at jZ
      clear gp kB kN pm pw kG
      go_wp2_with (first|(go_at_call 24;(with_reducible refine (gb.out _ qQ.out).mono ?_);rintro e w' ⟨rfl,⟨nd,rfl⟩⟩)|(go_at_call 25;(with_reducible refine (jZ.out _).mono ?_);rintro e w' ⟨rfl,⟨nd2,rfl⟩⟩))
      go_wp2
      go_ret
      exact ⟨by rw [HE.out];rfl,ah di.out (by repeat (first|exact HB.out|refine bu ?_ _|apply aI))⟩
  have sS:i=au.length:=by omega
  subst sS
  have oB:decide ((au.length:Int)<(au.length:Int))=false:=decide_eq_false (by omega)
  have mW:decide (au.length<au.length)=false:=decide_eq_false (by omega)
  have a2:ir (K:Int) au par bg.length=true:=by unfold ir;rw [decide_eq_true ⟨q1,ER.out,HW.out⟩,Bool.true_and,List.all_eq_true];exact fun j hj=>HA.out j (List.mem_range.1 hj)
  have ue:=Aside0.mk (Sa (bg:=bg) a2)
  have H2:=Aside0.mk a2
  replace pX:=Aside0.mk (pX.out a2)
  clear hlt hi HA a2
  go_wp2
  go_loopw [10] (fun iv wr=>∃v:Nat,iv= .int .i64 (v:Int)/\v<=K/\Aside0 (∀u,u<v->pR au par (u:Int)=true)/\Aside0 (Below w2.heap.size w2 wr)) (fun iv _=>K -(intOf iv).toNat)
  case atStart=>exact ⟨0,rfl,by omega,⟨fun j hj=>by omega⟩,HB⟩
  case round=>
   clear HB
   obtain ⟨v,rfl,hv,IX,HB⟩:=hrel
   by_cases hlt:v<K
   ·obtain ⟨hz0,hz1,hz2,hz3,oL,oZ⟩:=kP (aj lY.out HB.out)
    have HI:=Aside0.mk hlt
    have xz:=Aside0.mk (Oy n d (v:Int) (HP.out.below HB.out) ue.out q1 qg.out)
    have HKv:Aside0 (wrap64 ((v:Int)+1)=((v+1:Nat):Int)):=⟨dQ (by omega)⟩
    have HF:Aside0 (pR au par (v:Int)=false->eO (K:Int) aa au par home bg n d wq m=false):=⟨fun h=>Ve (by omega) h⟩
    have f1:(v:Int)<(K:Int):=by omega
    have f1d:decide ((v:Int)<(K:Int))=true:=decide_eq_true f1
    have f1n:decide (v<K)=true:=decide_eq_true hlt
    clear hlt hv
    cases hh:pR au par (v:Int) with
    |false=>
     rw [hh] at xz
     replace HF:=Aside0.mk (HF.out hh)
     clear hh
     go_wp2_with (first|(go_at_call 26;(with_reducible refine xz.out.mono ?_);rintro e w4 ⟨rfl,hb⟩;have AO:=Aside0.mk (ah HB.out hb);clear hb))
     go_ret
     exact ⟨by rw [HF.out];rfl,ah di.out AO.out⟩
    |true=>
     rw [hh] at xz
     have sZ:=Aside0.mk hh
     clear hh HF
     go_wp2_with (first|(go_at_call 26;(with_reducible refine xz.out.mono ?_);rintro e w4 ⟨rfl,hb⟩;have AO:=Aside0.mk (ah HB.out hb);clear hb))
     go_roundw
     case rel=>exact ⟨v+1,by first|(rw [HKv.out];done)|rfl|(simp;done),HI.out,⟨fun j hj=>(Nat.lt_succ_iff_lt_or_eq.1 hj).elim (IX.out j) (fun e=>by rw [e];exact sZ.out)⟩,AO⟩
     case measure=>(try rw [HKv.out]);have:=HI.out;simp [intOf];omega
   have hvK:v=K:=by omega
   subst hvK
   have f1d:decide ((v:Int)<(v:Int))=false:=decide_eq_false (by omega)
   have f1n:decide (v<v)=false:=decide_eq_false (by omega)
   clear hlt hv
   go_wp2
   go_loopw [97] (fun iv wj=>∃i:Nat,iv= .int .i64 (i:Int)/\i<=aa.length/\Aside0 (∀j,j<i->pS au (aa.getD j []) (home.getD j 0)=true)/\Aside0 (Below w2.heap.size w2 wj)) (fun iv _=>aa.length -(intOf iv).toNat)
   case atStart=>exact ⟨0,rfl,by omega,⟨fun j hj=>by omega⟩,HB⟩
   case round=>
    clear HB
    obtain ⟨i,rfl,hi,wP,HB⟩:=hrel
    by_cases hlt:i<aa.length
    ·obtain ⟨hz0,hz1,hz2,hz3,oL,oZ⟩:=kP (aj lY.out HB.out)
     obtain ⟨ade,Ae,ce,e,hx,hlx,kA⟩:=mY HE.out hlt
     obtain ⟨Jc,e2,hh⟩:=pQ HP.out.vv (show i<home.length by have:=H3.out;omega)
     cases e;cases e2
     replace hx:=(HB.out.cell (World.block_lt_of_cell? w2 _ hx)).trans hx
     replace hh:=(HB.out.cell (World.block_lt_of_cell? w2 _ hh)).trans hh
     have hhl:(i:Int)<(home.length:Int):=by have:=H3.out;omega
     have HI:=Aside0.mk hlt
     have oK:=Aside0.mk (Kd.bp kA HB.out)
     have HLx:=Aside0.mk (HL6.out i)
     have fE:Aside0 (wrap64 ((i:Int)+1)=((i+1:Nat):Int)):=⟨dQ (by omega)⟩
     have gp:Aside0 (pS au (aa.getD i []) (home.getD i 0)=false->eO (v:Int) aa au par home bg n d wq m=false):=⟨fun h=>Vf hlt h⟩
     have kG:Aside0 (pS au (aa.getD i []) (home.getD i 0)=true->∀j,j<i+1->pS au (aa.getD j []) (home.getD j 0)=true):=⟨fun h j hj=>(Nat.lt_succ_iff_lt_or_eq.1 hj).elim (wP.out j) (fun e=>by rw [e];exact h)⟩
     have g0:(0:Int)<=(i:Int):=by omega
     have e1:(i:Int)<(aa.length:Int):=by omega
     have e1d:decide ((i:Int)<(aa.length:Int))=true:=decide_eq_true e1
     have NK:decide (i<aa.length)=true:=decide_eq_true hlt
     have jS:Aside0 (pS au (aa.getD i []) (home.getD i 0)=if (aa.getD i []).length=0 then decide (home.getD i 0= -1) else decide (0<=home.getD i 0/\home.getD i 0<=(au.length:Int)- 1)&&(aa.getD i []).all (fun v=>decide (v∈au.getD (home.getD i 0).toNat []))):=⟨rfl⟩
     have yj:=Aside0.mk (fun W=>Cb (home.getD i 0) 0 ((au.length:Int)- 1) W)
     clear kA hi hlt wP
     generalize pS au (aa.getD i []) (home.getD i 0)=one at*
     generalize aa.getD i []=row at*
     generalize home.getD i 0=h at*
     by_cases r0:row.length=0
     ·have RY:((row.length:Int)==0)=true:=by rw [beq_iff_eq];omega
      by_cases hm:h= -1
      ·have sZ:Aside0 (one=true):=⟨by rw [jS.out,if_pos r0,decide_eq_true hm]⟩
       have hmd:(h != -1)=false:=by rw [hm];rfl
       clear r0 hm gp jS yj oK
       go_wp2
       go_roundw
       case rel=>exact ⟨i+1,by first|(rw [fE.out];done)|rfl|(simp;done),HI.out,⟨kG.out sZ.out⟩,HB⟩
       case measure=>(try rw [fE.out]);have:=HI.out;simp [intOf];omega
      ·have HF:Aside0 (eO (v:Int) aa au par home bg n d wq m=false):=⟨gp.out (by rw [jS.out,if_pos r0,decide_eq_false hm])⟩
       have hmd:(h != -1)=true:=by rw [bne_iff_ne];exact hm
       clear r0 hm gp jS yj oK kG
       go_wp2
       go_ret
       exact ⟨by rw [HF.out];rfl,ah di.out HB.out⟩
     ·have RY:((row.length:Int)==0)=false:=by rw [beq_eq_false_iff_ne];omega
      by_cases hw:0<=h/\h<=(au.length:Int)- 1
      ·rw [decide_eq_true hw] at yj
       have hq:h.toNat<au.length:=by omega
       obtain ⟨ad,Aq,cq,e,SJ,NU,hCq⟩:=mY HP.out.mI hq
       cases e
       replace SJ:=(HB.out.cell (World.block_lt_of_cell? w2 _ SJ)).trans SJ
       have Af:=Aside0.mk (fun W (hW:Below wr.heap.size wr W)=>SH Ae ce row Aq cq (au.getD h.toNat []) W (Kd.bp oK.out hW) hlx (Kd.bp hCq (ah HB.out hW)) NU (by have:=HLx.out;omega) (qg.out _))
       have qQ:Aside0 (Below wr.heap.size wr wr):=⟨Below.refl _ _⟩
       have JX:Aside0 (one=row.all (fun v=>decide (v∈au.getD h.toNat []))):=⟨by rw [jS.out,if_neg r0,decide_eq_true hw,Bool.true_and]⟩
       have p1:=hw.1
       have p2:h<(au.length:Int):=by omega
       clear r0 hw jS hCq NU hq oK HLx
       generalize au.getD h.toNat []=GK at*
       generalize row.all (fun v=>decide (v∈GK))=y at*
       cases y with
       |true=>
        clear gp
        go_wp2
        go_quiet (first|(go_at_call 25;(with_reducible refine (yj.out _).mono ?_);rintro e w' ⟨rfl,⟨nd,rfl⟩⟩;(try first|exact ⟨rfl,_,World.drewN_drewN _ _ _⟩|exact ⟨rfl,_,Eq.trans (World.drewN_drewN _ _ _) (congrArg (World.drewN _) (Nat.add_assoc _ _ _))⟩))|(go_at_call 27;(with_reducible refine (Af.out _ (by repeat (first|exact qQ.out|refine bu ?_ _|apply aI))).mono ?_);rintro e w' ⟨rfl,⟨nd,rfl⟩⟩;(try first|exact ⟨rfl,_,World.drewN_drewN _ _ _⟩|exact ⟨rfl,_,Eq.trans (World.drewN_drewN _ _ _) (congrArg (World.drewN _) (Nat.add_assoc _ _ _))⟩)))
        go_wp2
        go_roundw
        case rel=>exact ⟨i+1,by first|(rw [fE.out];done)|rfl|(simp;done),HI.out,⟨kG.out JX.out⟩,⟨by repeat (first|exact HB.out|refine bu ?_ _|apply aI)⟩⟩
        case measure=>(try rw [fE.out]);have:=HI.out;simp [intOf];omega
       |false=>
        have HF:Aside0 (eO (v:Int) aa au par home bg n d wq m=false):=⟨gp.out JX.out⟩
        clear gp kG
        go_wp2
        go_quiet (first|(go_at_call 25;(with_reducible refine (yj.out _).mono ?_);rintro e w' ⟨rfl,⟨nd,rfl⟩⟩;(try first|exact ⟨rfl,_,World.drewN_drewN _ _ _⟩|exact ⟨rfl,_,Eq.trans (World.drewN_drewN _ _ _) (congrArg (World.drewN _) (Nat.add_assoc _ _ _))⟩))|(go_at_call 27;(with_reducible refine (Af.out _ (by repeat (first|exact qQ.out|refine bu ?_ _|apply aI))).mono ?_);rintro e w' ⟨rfl,⟨nd,rfl⟩⟩;(try first|exact ⟨rfl,_,World.drewN_drewN _ _ _⟩|exact ⟨rfl,_,Eq.trans (World.drewN_drewN _ _ _) (congrArg (World.drewN _) (Nat.add_assoc _ _ _))⟩)))
        go_wp2
        go_ret
        exact ⟨by rw [HF.out];rfl,ah di.out (by repeat (first|exact HB.out|refine bu ?_ _|apply aI))⟩
      ·have HF:Aside0 (eO (v:Int) aa au par home bg n d wq m=false):=⟨gp.out (by rw [jS.out,if_neg r0,decide_eq_false hw,Bool.false_and])⟩
       rw [decide_eq_false hw] at yj
       clear r0 hw gp jS oK kG
       go_wp2
       go_quiet (first|(go_at_call 25;(with_reducible refine (yj.out _).mono ?_);rintro e w' ⟨rfl,⟨nd,rfl⟩⟩;(try first|exact ⟨rfl,_,World.drewN_drewN _ _ _⟩|exact ⟨rfl,_,Eq.trans (World.drewN_drewN _ _ _) (congrArg (World.drewN _) (Nat.add_assoc _ _ _))⟩)))
       go_wp2
       go_ret
       exact ⟨by rw [HF.out];rfl,ah di.out (by repeat (first|exact HB.out|refine bu ?_ _|apply aI))⟩
    have sS:i=aa.length:=by omega
    subst sS
    have e1d:decide ((aa.length:Int)<(aa.length:Int))=false:=decide_eq_false (by omega)
    have NK:decide (aa.length<aa.length)=false:=decide_eq_false (by omega)
    obtain ⟨hz0,hz1,hz2,hz3,oL,oZ⟩:=kP (aj lY.out HB.out)
    have HWc:=Aside0.mk (pX.out wr (Kd.bp HP.out.mI HB.out) (Kd.bp HE.out HB.out))
    have HWL:Aside0 ((pT au.length wq).length=au.length):=⟨DG _ _⟩
    clear hlt hi pX
    generalize Nv:m.1=m1 at*
    generalize hm2:m.2=m2 at*
    have HM1:=Aside0.mk Nv
    have HM2:=Aside0.mk hm2
    clear Nv hm2
    go_wp2_with (first|(go_at_call 28;(with_reducible refine HWc.out.mono ?_);rintro e w5 ⟨Aw,cw,rfl,hCw,hb⟩;have HCw:=Aside0.mk hCw;have qI:=Aside0.mk (ah HB.out hb);clear hb hCw))
    have HMx:Aside0 ((w5.alloc (.cells #[.int .i64 m1,.int .i64 m2] 34)).heap[w5.heap.size]? =some (.cells #[.int .i64 m1,.int .i64 m2] 34 (0,0))):=⟨dn w5 _⟩
    have BK:Aside0 (Below w2.heap.size w2 (w5.alloc (.cells #[.int .i64 m1,.int .i64 m2] 34))):=⟨aT qI.out _⟩
    replace HCw:=Aside0.mk (Kd.bp HCw.out (aT (Below.refl w5.heap.size w5) (.cells #[.int .i64 m1,.int .i64 m2] 34)))
    replace HP:=Aside0.mk (HP.out.below BK.out)
    replace lY:=Aside0.mk (aj lY.out BK.out)
    replace di:=Aside0.mk (ah di.out BK.out)
    clear HB qI hz0 hz1 hz2 hz3 oL oZ HWc BK
    generalize w5.alloc (.cells #[.int .i64 m1,.int .i64 m2] 34)=w6 at*
    go_loopw [144] (fun iv wl=>∃i:Nat,iv= .int .i64 (i:Int)/\i<=au.length/\Aside0 (∀j,j<i->qU bg wq j=true)/\Aside0 (Below w6.heap.size w6 wl)) (fun iv _=>au.length -(intOf iv).toNat)
    case atStart=>exact ⟨0,rfl,by omega,⟨fun j hj=>by omega⟩,⟨by repeat (first|exact Below.refl _ _|apply aI)⟩⟩
    case round=>
     obtain ⟨i,rfl,hi,yG,HB⟩:=hrel
     by_cases hlt:i<au.length
     ·obtain ⟨adw,ew,Fe,hq1⟩:=GL HCw.out (show i<(pT au.length wq).length by have:=HWL.out;omega)
      rw [(SI hlt).1] at Fe
      rw [(SI hlt).2] at hq1
      obtain ⟨AP,e3,hw0,hw1⟩:=GL HP.out.tR (show i<bg.length by have:=HW.out;omega)
      cases ew;cases e3
      obtain ⟨hz0,hz1,hz2,hz3,oL,oZ⟩:=kP (aj lY.out HB.out)
      replace Fe:=(HB.out.cell (World.block_lt_of_cell? w6 _ Fe)).trans Fe
      replace hq1:=(HB.out.cell (World.block_lt_of_cell? w6 _ hq1)).trans hq1
      replace hw0:=(HB.out.cell (World.block_lt_of_cell? w6 _ hw0)).trans hw0
      replace hw1:=(HB.out.cell (World.block_lt_of_cell? w6 _ hw1)).trans hw1
      have hwl:(i:Int)<(bg.length:Int):=by have:=HW.out;omega
      have HI:=Aside0.mk hlt
      have fE:Aside0 (wrap64 ((i:Int)+1)=((i+1:Nat):Int)):=⟨dQ (by omega)⟩
      have gp:Aside0 (qU bg wq i=false->eO (v:Int) aa au par home bg n d wq m=false):=⟨fun h=>Vg hlt h⟩
      have kG:Aside0 (qU bg wq i=true->∀j,j<i+1->qU bg wq j=true):=⟨fun h j hj=>(Nat.lt_succ_iff_lt_or_eq.1 hj).elim (yG.out j) (fun e=>by rw [e];exact h)⟩
      have kB:Aside0 (qU bg wq i=((wq i).1==(aZ bg (i:Int)).f0&&(wq i).2==(aZ bg (i:Int)).f1)):=⟨rfl⟩
      have g0:(0:Int)<=(i:Int):=by omega
      have e1:(i:Int)<(au.length:Int):=by omega
      have e1d:decide ((i:Int)<(au.length:Int))=true:=decide_eq_true e1
      have NK:decide (i<au.length)=true:=decide_eq_true hlt
      clear hi hlt yG
      generalize qU bg wq i=one at*
      generalize (aZ bg (i:Int)).f0=p0 at*
      generalize (aZ bg (i:Int)).f1=p1 at*
      generalize (wq i).1=q0 at*
      generalize (wq i).2=q1 at*
      have HQ:Aside0 ((!(q0==p0)|| !(q1==p1))= !one):=⟨by rw [kB.out];cases (q0==p0)<;>cases (q1==p1)<;>rfl⟩
      clear kB
      cases one with
      |true=>
       have hq:=HQ.out
       rw [Bool.not_true] at hq
       clear HQ gp
       go_wp2
       go_quiet (fail)
       go_wp2
       go_roundw
       case rel=>exact ⟨i+1,by first|(rw [fE.out];done)|rfl|(simp;done),HI.out,⟨kG.out (by first|exact trivial|rfl)⟩,⟨by repeat (first|exact HB.out|refine bu ?_ _|apply aI)⟩⟩
       case measure=>(try rw [fE.out]);have:=HI.out;simp [intOf];omega
      |false=>
       have hq:=HQ.out
       rw [Bool.not_false] at hq
       have HF:Aside0 (eO (v:Int) aa au par home bg n d wq m=false):=⟨gp.out (by first|exact trivial|rfl)⟩
       clear HQ gp kG
       go_wp2
       go_quiet (fail)
       go_wp2
       go_ret
       exact ⟨by rw [HF.out];rfl,ah di.out (by repeat (first|exact HB.out|refine bu ?_ _|apply aI))⟩
     have sS:i=au.length:=by omega
     subst sS
     have g9d:decide ((au.length:Int)<(au.length:Int))=false:=decide_eq_false (by omega)
     have HF:Aside0 (eO (v:Int) aa au par home bg n d wq m=(m1==n&&m2==d)):=⟨by
      rw [a0A H1.out H2.out H3.out (fun u hu=>IX.out u (by omega)) wP.out yG.out,HM1.out,HM2.out,Bool.beq_comm (a:=n),Bool.beq_comm (a:=d)]⟩
     obtain ⟨hz0,hz1,hz2,hz3,oL,oZ⟩:=kP (aj lY.out HB.out)
     have hm0:wr.cell? ⟨w5.heap.size,0,none⟩=some (.int .i64 m1):=(ag (aj HMx.out HB.out) 0).trans rfl
     have Nv:wr.cell? ⟨w5.heap.size,1,none⟩=some (.int .i64 m2):=(ag (aj HMx.out HB.out) 1).trans rfl
     clear hlt hi IX wP yG
     go_wp2
     go_ret
     exact ⟨by rw [HF.out];rfl,ah di.out HB.out⟩
def mz (p:Int->Bool):List Int->Nat->Int
 | [],_=> -1
 |x::r,i=>if p x=true then i else mz p r (i+1)
theorem JY (p:Int->Bool):∀(l:List Int) (i:Nat),decide (mz p l i>=0)=l.any p
 | [],i=>rfl
 |x::r,i=>by
  by_cases h:p x=true
  ·have e:mz p (x::r) i=(i:Int):=if_pos h
   rw [e,List.any_cons,h,Bool.true_or];exact decide_eq_true (by omega)
  ·have e:mz p (x::r) i=mz p r (i+1):=if_neg h
   rw [e,JY p r (i+1),List.any_cons,Bool.eq_false_iff.mpr h,Bool.false_or]
set_option maxHeartbeats 1000000 in
theorem Xo (A:Option Addr) (c:Nat) (l:List Int) (g:Nat) (v:Int) (w:World) (hr:Kd.C (Kd.int .i64) w A l.length l) (hc:l.length<=c) (hl:l.length<=1048576) (hg:w.cell? ⟨g,0,none⟩=some (.slice A l.length c)):
 Calls Try.prog 56 #[.int .i64 v,.pointer (some ⟨g,0,none⟩)] w fun e w'=>e= .returned (.bool (!decide (v∈l)))/\Below w.heap.size w w':=by
 obtain ⟨k,hk⟩:=Ev.rounds (rD l v hl)
 have HC:=Aside0.mk (dP.calls k A c l v _ w hr hc hk)
 clear hr hk
 generalize decide (v∈l)=y at*
 go_enter Try.func56,Try.ntmps56
 go_wp2_with (first|(go_at_call 54;(with_reducible refine HC.out.mono ?_);rintro e w1 ⟨rfl,hb1⟩;have di:=Aside0.mk (dH hb1);clear hb1))
 go_ret
 exact ⟨rfl,di.out⟩
set_option maxHeartbeats 2000000 in
set_option maxRecDepth 100000 in
theorem Tk (p:Int->Bool) (A:Option Addr) (c:Nat) (l:List Int) (g:Nat) (w:World) (hr:Kd.C (Kd.int .i64) w A l.length l) (hc:l.length<=c)
 (hF:∀v W,Below w.heap.size w W->Calls Try.prog 56 #[.int .i64 v,.pointer (some ⟨g,0,none⟩)] W fun e w'=>e= .returned (.bool (p v))/\Below W.heap.size W w'):
 Calls Try.prog 73 #[.slice A l.length c,.func (.func 56) #[] #[.pointer (some ⟨g,0,none⟩)]] w fun e w'=>e= .returned (.int .i64 (mz p l 0))/\Below w.heap.size w w':=by
 have HR:=Aside0.mk hr
 have hlen:l.length<=9223372036854775807:=hr.2.1
 have HF:=Aside0.mk hF
 clear hr hF
 go_enter Try.func73,Try.ntmps73
 go_wp2
 go_loopw [8] (fun iv wr=>∃i:Nat,iv= .int .i64 (i:Int)/\i<=l.length/\Aside0 (mz p l 0=mz p (l.drop i) i)/\Aside0 (Below w.heap.size w wr)) (fun iv _=>l.length -(intOf iv).toNat)
 case atStart=>exact ⟨0,rfl,by omega,⟨by simp⟩,⟨by repeat (first|exact Below.refl _ _|apply aI)⟩⟩
 case round=>
  obtain ⟨i,rfl,hi,HE,HB⟩:=hrel
  by_cases hlt:i<l.length
  ·obtain ⟨ad,e,hx⟩:=pQ HR.out hlt
   rw [<-NX hlt] at hx
   have qo:=Aside0.mk (HF.out l[i] wr HB.out)
   have td:Aside0 (mz p l 0=if p l[i]=true then (i:Int) else mz p (l.drop (i+1)) (i+1)):=⟨by rw [HE.out,List.drop_eq_getElem_cons hlt];rfl⟩
   cases e
   replace hx:=(HB.out.cell (World.block_lt_of_cell? w _ hx)).trans hx
   have HI:=Aside0.mk hlt
   have fE:Aside0 (wrap64 ((i:Int)+1)=((i+1:Nat):Int)):=⟨dQ (by omega)⟩
   have g0:(0:Int)<=(i:Int):=by omega
   have g1:(i:Int)<(l.length:Int):=by omega
   have oB:decide ((i:Int)<(l.length:Int))=true:=decide_eq_true g1
   have mW:decide (i<l.length)=true:=decide_eq_true hlt
   clear hi HE
   generalize l[i]=row at*
   generalize p row=y at*
   clear hlt
   cases y with
   |true=>
    have nP:Aside0 (mz p l 0=(i:Int)):=⟨by rw [td.out,if_pos rfl]⟩
    clear td
    go_wp2_with (first|(go_at_call 56;(with_reducible refine qo.out.mono ?_);rintro e w1 ⟨rfl,hb1⟩;have di:=Aside0.mk (ah HB.out hb1);clear hb1 qo))
    go_ret
    exact ⟨by rw [nP.out];first|done|rfl,di.out⟩
   |false=>
    have nP:Aside0 (mz p l 0=mz p (l.drop (i+1)) (i+1)):=⟨by rw [td.out,if_neg (by decide)]⟩
    clear td
    go_wp2_with (first|(go_at_call 56;(with_reducible refine qo.out.mono ?_);rintro e w1 ⟨rfl,hb1⟩;have di:=Aside0.mk (ah HB.out hb1);clear hb1 qo))
    go_roundw
    case rel=>exact ⟨i+1,by first|(rw [fE.out];done)|rfl|(simp;done),HI.out,nP,di⟩
    case measure=>(try rw [fE.out]);have:=HI.out;simp [intOf];omega
  ·have hil:i=l.length:=by omega
   have nP:Aside0 (mz p l 0= -1):=⟨by rw [HE.out,hil,List.drop_length];rfl⟩
   have oB:decide ((i:Int)<(l.length:Int))=false:=decide_eq_false (by omega)
   have mW:decide (i<l.length)=false:=decide_eq_false hlt
   clear hil hlt hi HE
   go_wp2
   go_ret
   exact ⟨by rw [nP.out];first|done|rfl,HB.out⟩
set_option maxHeartbeats 2000000 in
set_option maxRecDepth 100000 in
theorem MB (p:Int->Bool) (A:Option Addr) (c:Nat) (l:List Int) (g:Nat) (w:World) (hr:Kd.C (Kd.int .i64) w A l.length l) (hc:l.length<=c)
 (hF:∀v W,Below w.heap.size w W->Calls Try.prog 56 #[.int .i64 v,.pointer (some ⟨g,0,none⟩)] W fun e w'=>e= .returned (.bool (p v))/\Below W.heap.size W w'):
 Calls Try.prog 55 #[.slice A l.length c,.func (.func 56) #[] #[.pointer (some ⟨g,0,none⟩)]] w fun e w'=>e= .returned (.bool (l.any p))/\Below w.heap.size w w':=by
 have HI:=Aside0.mk (Tk p A c l g w hr hc hF)
 have HA:Aside0 (decide (mz p l 0>=0)=l.any p):=⟨JY p l 0⟩
 clear hr hc hF
 generalize mz p l 0=x at*
 go_enter Try.func55,Try.ntmps55
 go_wp2_with (first|(go_at_call 73;(with_reducible refine HI.out.mono ?_);rintro e w1 ⟨rfl,hb1⟩;have di:=Aside0.mk hb1;clear hb1))
 go_ret
 exact ⟨by rw [<-HA.out];first|done|rfl,di.out⟩
def a3E (av e:List Int):Option Bool:=if av.length<=1048576 then some (e.all (fun v=>decide (v∈av))) else none
set_option maxHeartbeats 2000000 in
set_option maxRecDepth 100000 in
theorem a0N (A0:Option Addr) (c0:Nat) (av:List Int) (A1:Option Addr) (c1:Nat) (l:List Int) (r:Bool) (w:World) (fl:Kd.C (Kd.int .i64) w A0 av.length av) (hc0:av.length<=c0) (hr1:Kd.C (Kd.int .i64) w A1 l.length l) (hc1:l.length<=c1) (h:a3E av l=some r):
 Calls Try.prog 35 #[.slice A0 av.length c0,.slice A1 l.length c1] w fun e w'=>e= .returned (.bool r)/\Below w.heap.size w w':=by
 unfold a3E at h
 by_cases hb:av.length<=1048576
 ·rw [if_pos hb] at h
  obtain rfl:=Option.some.inj h
  have HO:=Aside0.mk (fun W (hB:Below w.heap.size w W) (hg:W.cell? ⟨w.heap.size,0,none⟩=some (.slice A0 av.length c0))=>MB (fun v=> !decide (v∈av)) A1 c1 l w.heap.size W (Kd.bp hr1 hB) hc1 (fun v W' zO=>Xo A0 c0 av w.heap.size v W' (Kd.bp fl (ah hB zO)) hc0 hb ((zO.cell (World.block_lt_of_cell? W _ hg)).trans hg)))
  have HE:Aside0 ((!l.any (fun v=> !decide (v∈av)))=l.all (fun v=>decide (v∈av))):=⟨by rw [List.all_eq_not_any_not]⟩
  have HB:=Aside0.mk (Below.refl w.heap.size w)
  clear fl hr1 h hb
  generalize l.any (fun v=> !decide (v∈av))=y at*
  go_enter Try.func35,Try.ntmps35
  go_wp2_with (first|(go_at_call 55;(with_reducible refine (HO.out _ (aT HB.out _) (by go_simp)).mono ?_);rintro e w1 ⟨rfl,hb1⟩;have di:=Aside0.mk (ah (aT HB.out _) hb1);clear hb1))
  go_ret
  exact ⟨by rw [<-HE.out];first|done|rfl,di.out⟩
 ·rw [if_neg hb] at h;cases h
theorem b8A (q0 q1:Int) (v3 v4:Value) (W:World):(Instr.field 58 (.agg #[.bool true,.int .i64 q0,.int .i64 q1,v3,v4]) 1).run Try.prog W= .ok (.agg #[.int .i64 q0,.int .i64 q1]) W:=by kernel_rfl
set_option maxHeartbeats 8000000 in
set_option maxRecDepth 100000 in
theorem Xp {w:World} {aa au:List (List Int)} {par home:List Int} {bg:tQ} {AE A0 A1 A2 A3:Option Addr} {cE c0 c1 c2 c3:Nat} (k n d:Int) (wq:Nat->Int×Int) (m:Int×Int)
 (hE:Kd.C mN w AE aa.length aa) (yT:aa.length<=cE) (hP:BX w au par home bg A0 A1 A2 A3 c0 c1 c2 c3) (hrow:∀i,(au.getD i []).length<=1048576) (sG:∀x,x∈aa->x.length<=1048576)
 (b1R:kC k aa=true->ir k au par bg.length=true->∀i,i<au.length->∀(A:Option Addr) (c:Nat) (W:World),Kd.C (Kd.int .i64) W A (au.getD i []).length (au.getD i [])->(au.getD i []).length<=c->Kd.C mN W AE aa.length aa->
   Calls Try.prog 36 #[.slice A (au.getD i []).length c,.slice AE aa.length cE] W fun e w'=>∃v3 v4:Value,e= .returned (.agg #[.bool true,.int .i64 (wq i).1,.int .i64 (wq i).2,v3,v4])/\Below W.heap.size W w')
 (hGr:(∀i,i<au.length->qU bg wq i=true)->kC k aa=true->ir k au par bg.length=true->∀(A:Option Addr) (c:Nat) (W:World),Kd.C gY W A bg.length bg->bg.length<=c->
   Calls Try.prog 37 #[.slice A bg.length c] W fun e w'=>e= .returned (.agg #[.int .i64 m.1,.int .i64 m.2])/\Below W.heap.size W w'):
 Calls Try.prog 10 #[.int .i64 k,.slice AE aa.length cE,.agg #[.slice A0 au.length c0,.slice A1 par.length c1,.slice A2 home.length c2,.slice A3 bg.length c3,.int .i64 n,.int .i64 d]] w fun e w'=>e= .returned (.bool (eO k aa au par home bg n d wq m))/\Below w.heap.size w w':=by
 obtain ⟨pc,hpc⟩:∃pc:Array Value,pc= #[.slice A0 au.length c0,.slice A1 par.length c1,.slice A2 home.length c2,.slice A3 bg.length c3,.int .i64 n,.int .i64 d]:=⟨_,rfl⟩
 have HPc:=Aside0.mk hpc
 have qY:=Aside0.mk (fun W (hB:Below w.heap.size w W)=>a0y k AE cE aa (kC k aa) W (Kd.bp hE hB) yT (by unfold a3s;rw [if_pos (List.all_eq_true.2 (fun x hx=>decide_eq_true (sG x hx)))]))
 have uG:=Aside0.mk (fun W (hB:Below w.heap.size w W)=>Th n d k (hP.below hB) hrow)
 have HP:=Aside0.mk hP
 have HE:=Aside0.mk hE
 have qg:=Aside0.mk hrow
 have HEdge:=Aside0.mk sG
 have wK:=Aside0.mk b1R
 have SK:=Aside0.mk hGr
 have eN:=Aside0.mk (Below.refl w.heap.size w)
 have rP:Aside0 ((w.alloc (.cells #[.slice A0 au.length c0,.slice A1 par.length c1,.slice A2 home.length c2,.slice A3 bg.length c3,.int .i64 n,.int .i64 d] 36)).heap[w.heap.size]? =some (.cells #[.slice A0 au.length c0,.slice A1 par.length c1,.slice A2 home.length c2,.slice A3 bg.length c3,.int .i64 n,.int .i64 d] 36 (0,0))):=⟨dn w _⟩
 have hul:=Try.underlying36
 have hfc:=b8A
 have heq:=a5T
 have hur:=Try.underlying34
 clear hE hP hrow sG b1R hGr hpc HPc pc
 by_cases a1:kC k aa=true
 case neg=>
  have a1:=Bool.eq_false_iff.2 a1
  have HF:Aside0 (eO k aa au par home bg n d wq m=false):=⟨Vc a1⟩
  rw [a1] at qY
  clear a1 uG wK SK
  go_enter Try.func10,Try.ntmps10
  go_wp2_with (first|(go_at_call 31;(with_reducible refine (qY.out _ (aT eN.out _)).mono ?_);rintro e w2 ⟨rfl,hb⟩;have fQ:=Aside0.mk (ah (aT eN.out _) hb);clear hb))
  go_ret
  exact ⟨by rw [HF.out];rfl,fQ.out⟩
 rw [a1] at qY
 by_cases a2:ir k au par bg.length=true
 case neg=>
  have a2:=Bool.eq_false_iff.2 a2
  have HF:Aside0 (eO k aa au par home bg n d wq m=false):=⟨Av a2⟩
  rw [a2] at uG
  clear a1 a2 wK SK
  go_enter Try.func10,Try.ntmps10
  go_wp2_with (first|(go_at_call 31;(with_reducible refine (qY.out _ (aT eN.out _)).mono ?_);rintro e w2 ⟨rfl,hb⟩;have fQ:=Aside0.mk (ah (aT eN.out _) hb);obtain ⟨hz0,hz1,hz2,hz3,oL,oZ⟩:=kP (aj rP.out hb);clear hb)|(go_at_call 32;(with_reducible refine (uG.out _ fQ.out).mono ?_);rintro e w3 ⟨rfl,hb⟩;have xT:=Aside0.mk (ah fQ.out hb);clear hb))
  go_ret
  exact ⟨by rw [HF.out];rfl,xT.out⟩
 rw [a2] at uG
 by_cases a3:home.length=aa.length
 case neg=>
  have HF:Aside0 (eO k aa au par home bg n d wq m=false):=⟨Vd a3⟩
  have a3d:((home.length:Int) !=(aa.length:Int))=true:=by rw [bne_iff_ne];omega
  clear a1 a2 a3 wK SK
  go_enter Try.func10,Try.ntmps10
  go_wp2_with (first|(go_at_call 31;(with_reducible refine (qY.out _ (aT eN.out _)).mono ?_);rintro e w2 ⟨rfl,hb⟩;have fQ:=Aside0.mk (ah (aT eN.out _) hb);have zq:=Aside0.mk (aj rP.out hb);obtain ⟨hz0,hz1,hz2,hz3,oL,oZ⟩:=kP zq.out;clear hb)|(go_at_call 32;(with_reducible refine (uG.out _ fQ.out).mono ?_);rintro e w3 ⟨rfl,hb⟩;have xT:=Aside0.mk (ah fQ.out hb);obtain ⟨hy0,hy1,Nq,ZX,ZY,hy5⟩:=kP (aj zq.out hb);clear hb))
  go_ret
  exact ⟨by rw [HF.out];rfl,xT.out⟩
 obtain ⟨K,rfl,hK6⟩:=Xg a1
 have hn:=(Ay (bg:=bg) a2).1
 have hne:=(JC a1).1
 have ue:=Aside0.mk (Sa (bg:=bg) a2)
 replace wK:=Aside0.mk (wK.out a1 a2)
 replace SK:=Aside0.mk (fun h=>SK.out h a1 a2)
 have H1:=Aside0.mk a1
 have H2:=Aside0.mk a2
 have H3:=Aside0.mk a3
 have HW:=Aside0.mk (Ay (bg:=bg) a2).2.2
 have HE6:Aside0 (∀x,x∈aa->x.length<=6):=⟨fun x hx=>sR (List.all_eq_true.1 (JC a1).2 x hx)⟩
 have a3d:((home.length:Int) !=(aa.length:Int))=false:=by rw [a3];simp
 clear a1 a2 a3
 go_enter Try.func10,Try.ntmps10
 go_wp2_with (first|(go_at_call 31;(with_reducible refine (qY.out _ (aT eN.out _)).mono ?_);rintro e w2 ⟨rfl,hb⟩;have fQ:=Aside0.mk (ah (aT eN.out _) hb);have zq:=Aside0.mk (aj rP.out hb);obtain ⟨hz0,hz1,hz2,hz3,oL,oZ⟩:=kP zq.out;clear hb)|(go_at_call 32;(with_reducible refine (uG.out _ fQ.out).mono ?_);rintro e w3 ⟨rfl,hb⟩;have xT:=Aside0.mk (ah fQ.out hb);have lY:=Aside0.mk (aj zq.out hb);obtain ⟨hy0,hy1,Nq,ZX,ZY,hy5⟩:=kP lY.out;clear hb))
 replace HP:=Aside0.mk (HP.out.below xT.out)
 replace HE:=Aside0.mk (Kd.bp HE.out xT.out)
 have di:=Aside0.mk xT.out
 clear qY uG eN rP fQ zq xT hz0 hz1 hz2 hz3 oL oZ hy0 hy1 Nq ZX ZY hy5
 go_loopw [32] (fun iv wr=>∃v:Nat,iv= .int .i64 (v:Int)/\v<=K/\Aside0 (∀u,u<v->pR au par (u:Int)=true)/\Aside0 (Below w3.heap.size w3 wr)) (fun iv _=>K -(intOf iv).toNat)
 case atStart=>exact ⟨0,rfl,by omega,⟨fun j hj=>by omega⟩,⟨by repeat (first|exact Below.refl _ _|apply aI)⟩⟩
 case round=>
  obtain ⟨v,rfl,hv,IX,HB⟩:=hrel
  by_cases hlt:v<K
  ·obtain ⟨hz0,hz1,hz2,hz3,oL,oZ⟩:=kP (aj lY.out HB.out)
   have HI:=Aside0.mk hlt
   have xz:=Aside0.mk (a0w n d (v:Int) (HP.out.below HB.out) ue.out hn qg.out)
   have HKv:Aside0 (wrap64 ((v:Int)+1)=((v+1:Nat):Int)):=⟨dQ (by omega)⟩
   have HF:Aside0 (pR au par (v:Int)=false->eO (K:Int) aa au par home bg n d wq m=false):=⟨fun h=>Ve (by omega) h⟩
   have g1:(v:Int)<(K:Int):=by omega
   have oB:decide ((v:Int)<(K:Int))=true:=decide_eq_true g1
   have mW:decide (v<K)=true:=decide_eq_true hlt
   clear hlt hv
   cases hh:pR au par (v:Int) with
   |false=>
    rw [hh] at xz
    replace HF:=Aside0.mk (HF.out hh)
    clear hh
    go_wp2_with (first|(go_at_call 33;(with_reducible refine xz.out.mono ?_);rintro e w4 ⟨rfl,hb⟩;have AO:=Aside0.mk (ah HB.out hb);clear hb))
    go_ret
    exact ⟨by rw [HF.out];rfl,ah di.out AO.out⟩
   |true=>
    rw [hh] at xz
    have sZ:=Aside0.mk hh
    clear hh HF
    go_wp2_with (first|(go_at_call 33;(with_reducible refine xz.out.mono ?_);rintro e w4 ⟨rfl,hb⟩;have AO:=Aside0.mk (ah HB.out hb);clear hb))
    go_roundw
    case rel=>exact ⟨v+1,by first|(rw [HKv.out];done)|rfl|(simp;done),HI.out,⟨fun j hj=>(Nat.lt_succ_iff_lt_or_eq.1 hj).elim (IX.out j) (fun e=>by rw [e];exact sZ.out)⟩,AO⟩
    case measure=>(try rw [HKv.out]);have:=HI.out;simp [intOf];omega
  have hvK:v=K:=by omega
  subst hvK
  have oB:decide ((v:Int)<(v:Int))=false:=decide_eq_false (by omega)
  have mW:decide (v<v)=false:=decide_eq_false (by omega)
  clear hlt hv
  go_wp2
  go_loopw [42] (fun iv wj=>∃i:Nat,iv= .int .i64 (i:Int)/\i<=aa.length/\Aside0 (∀j,j<i->pS au (aa.getD j []) (home.getD j 0)=true)/\Aside0 (Below w3.heap.size w3 wj)) (fun iv _=>aa.length -(intOf iv).toNat)
  case atStart=>exact ⟨0,rfl,by omega,⟨fun j hj=>by omega⟩,HB⟩
  case round=>
   clear HB
   obtain ⟨i,rfl,hi,wP,HB⟩:=hrel
   by_cases hlt:i<aa.length
   ·obtain ⟨hz0,hz1,hz2,hz3,oL,oZ⟩:=kP (aj lY.out HB.out)
    obtain ⟨ade,Ae,ce,e,hx,hlx,kA⟩:=mY HE.out hlt
    obtain ⟨Jc,e2,hh⟩:=pQ HP.out.vv (show i<home.length by have:=H3.out;omega)
    cases e;cases e2
    replace hx:=(HB.out.cell (World.block_lt_of_cell? w3 _ hx)).trans hx
    replace hh:=(HB.out.cell (World.block_lt_of_cell? w3 _ hh)).trans hh
    have hhl:(i:Int)<(home.length:Int):=by have:=H3.out;omega
    have HI:=Aside0.mk hlt
    have oK:=Aside0.mk (Kd.bp kA HB.out)
    have fE:Aside0 (wrap64 ((i:Int)+1)=((i+1:Nat):Int)):=⟨dQ (by omega)⟩
    have gp:Aside0 (pS au (aa.getD i []) (home.getD i 0)=false->eO (v:Int) aa au par home bg n d wq m=false):=⟨fun h=>Vf hlt h⟩
    have g0:(0:Int)<=(i:Int):=by omega
    have g1:(i:Int)<(aa.length:Int):=by omega
    have oB:decide ((i:Int)<(aa.length:Int))=true:=decide_eq_true g1
    have mW:decide (i<aa.length)=true:=decide_eq_true hlt
    have jS:Aside0 (pS au (aa.getD i []) (home.getD i 0)=if (aa.getD i []).length=0 then decide (home.getD i 0= -1) else decide (0<=home.getD i 0/\home.getD i 0<=(au.length:Int)- 1)&&(aa.getD i []).all (fun v=>decide (v∈au.getD (home.getD i 0).toNat []))):=⟨rfl⟩
    have yj:=Aside0.mk (fun W=>Dr (home.getD i 0) 0 ((au.length:Int)- 1) W)
    have kG:Aside0 (pS au (aa.getD i []) (home.getD i 0)=true->∀j,j<i+1->pS au (aa.getD j []) (home.getD j 0)=true):=⟨fun h j hj=>(Nat.lt_succ_iff_lt_or_eq.1 hj).elim (wP.out j) (fun e=>by rw [e];exact h)⟩
    clear kA hi hlt wP
    generalize pS au (aa.getD i []) (home.getD i 0)=one at*
    generalize aa.getD i []=row at*
    generalize home.getD i 0=h at*
    by_cases r0:row.length=0
    ·have RY:((row.length:Int)==0)=true:=by rw [beq_iff_eq];omega
     have r0p:decide ((row.length:Int)>0)=false:=decide_eq_false (by omega)
     have r0q:decide (0<(row.length:Int))=false:=decide_eq_false (by omega)
     have r0n:decide (0<row.length)=false:=decide_eq_false (by omega)
     by_cases hm:h= -1
     ·have sZ:Aside0 (one=true):=⟨by rw [jS.out,if_pos r0,decide_eq_true hm]⟩
      have hmd:(h != -1)=false:=by rw [hm];rfl
      clear r0 hm gp jS yj oK
      go_wp2
      go_roundw
      case rel=>exact ⟨i+1,by first|(rw [fE.out];done)|rfl|(simp;done),HI.out,⟨kG.out sZ.out⟩,HB⟩
      case measure=>(try rw [fE.out]);have:=HI.out;simp [intOf];omega
     ·have HF:Aside0 (eO (v:Int) aa au par home bg n d wq m=false):=⟨gp.out (by rw [jS.out,if_pos r0,decide_eq_false hm])⟩
      have hmd:(h != -1)=true:=by rw [bne_iff_ne];exact hm
      clear r0 hm gp jS yj oK kG
      go_wp2
      go_ret
      exact ⟨by rw [HF.out];rfl,ah di.out HB.out⟩
    ·have RY:((row.length:Int)==0)=false:=by rw [beq_eq_false_iff_ne];omega
     have r0p:decide ((row.length:Int)>0)=true:=decide_eq_true (by omega)
     have r0q:decide (0<(row.length:Int))=true:=decide_eq_true (by omega)
     have r0n:decide (0<row.length)=true:=decide_eq_true (by omega)
     by_cases hw:0<=h/\h<=(au.length:Int)- 1
     ·rw [decide_eq_true hw] at yj
      have hq:h.toNat<au.length:=by omega
      obtain ⟨ad,Aq,cq,e,SJ,NU,hCq⟩:=mY HP.out.mI hq
      cases e
      replace SJ:=(HB.out.cell (World.block_lt_of_cell? w3 _ SJ)).trans SJ
      have Af:=Aside0.mk (fun nd=>a0N Aq cq (au.getD h.toNat []) Ae ce row _ (wr.drewN nd) (Kd.bp hCq (bu HB.out nd)) NU (Kd.bp oK.out (bu (Below.refl _ _) nd)) hlx (by unfold a3E;rw [if_pos (qg.out _)]))
      have JX:Aside0 (one=row.all (fun v=>decide (v∈au.getD h.toNat []))):=⟨by rw [jS.out,if_neg r0,decide_eq_true hw,Bool.true_and]⟩
      have p1:=hw.1
      have p2:h<(au.length:Int):=by omega
      clear r0 hw jS hCq NU hq oK
      generalize au.getD h.toNat []=GK at*
      generalize row.all (fun v=>decide (v∈GK))=y at*
      cases y with
      |true=>
       clear gp
       go_wp2_with (first|(go_at_call 34;(with_reducible refine (yj.out _).mono ?_);rintro e w' ⟨rfl,⟨nd,rfl⟩⟩)|(go_at_call 35;(with_reducible refine (Af.out _).mono ?_);rintro e w5 ⟨rfl,hb⟩;have qI:=Aside0.mk (ah (bu HB.out nd) hb);clear hb))
       go_roundw
       case rel=>exact ⟨i+1,by first|(rw [fE.out];done)|rfl|(simp;done),HI.out,⟨kG.out JX.out⟩,qI⟩
       case measure=>(try rw [fE.out]);have:=HI.out;simp [intOf];omega
      |false=>
       have HF:Aside0 (eO (v:Int) aa au par home bg n d wq m=false):=⟨gp.out JX.out⟩
       clear gp kG
       go_wp2_with (first|(go_at_call 34;(with_reducible refine (yj.out _).mono ?_);rintro e w' ⟨rfl,⟨nd,rfl⟩⟩)|(go_at_call 35;(with_reducible refine (Af.out _).mono ?_);rintro e w5 ⟨rfl,hb⟩;have qI:=Aside0.mk (ah (bu HB.out nd) hb);clear hb))
       go_ret
       exact ⟨by rw [HF.out];rfl,ah di.out qI.out⟩
     ·have HF:Aside0 (eO (v:Int) aa au par home bg n d wq m=false):=⟨gp.out (by rw [jS.out,if_neg r0,decide_eq_false hw,Bool.false_and])⟩
      rw [decide_eq_false hw] at yj
      clear r0 hw gp jS oK kG
      go_wp2_with (first|(go_at_call 34;(with_reducible refine (yj.out _).mono ?_);rintro e w' ⟨rfl,⟨nd,rfl⟩⟩))
      go_ret
      exact ⟨by rw [HF.out];rfl,ah di.out (bu HB.out _)⟩
   have sS:i=aa.length:=by omega
   subst sS
   have oB:decide ((aa.length:Int)<(aa.length:Int))=false:=decide_eq_false (by omega)
   have mW:decide (aa.length<aa.length)=false:=decide_eq_false (by omega)
   obtain ⟨hz0,hz1,hz2,hz3,oL,oZ⟩:=kP (aj lY.out HB.out)
   clear hlt hi
   go_wp2
   clear hz0 hz1 hz2 hz3 oL oZ
   go_loopw [87] (fun iv wl=>∃i:Nat,iv= .int .i64 (i:Int)/\i<=au.length/\Aside0 (∀j,j<i->qU bg wq j=true)/\Aside0 (Below w3.heap.size w3 wl)) (fun iv _=>au.length -(intOf iv).toNat)
   case atStart=>exact ⟨0,rfl,by omega,⟨fun j hj=>by omega⟩,HB⟩
   case round=>
    clear HB
    obtain ⟨i,rfl,hi,yG,HB⟩:=hrel
    by_cases hlt:i<au.length
    ·obtain ⟨adb,Ab,cb,e,hx,hlx,kA⟩:=mY HP.out.mI hlt
     obtain ⟨AP,e3,hw0,hw1⟩:=GL HP.out.tR (show i<bg.length by have:=HW.out;omega)
     cases e;cases e3
     have wo:Aside0 (∀W,Below w3.heap.size w3 W->W.cell? ⟨w.heap.size,3,none⟩=some (.slice (some AP) bg.length c3)/\W.cell? (AP.add (i*2))=some (.int .i64 (aZ bg (i:Int)).f0)/\W.cell? ⟨(AP.add (i*2)).block,(AP.add (i*2)).off+1,none⟩=some (.int .i64 (aZ bg (i:Int)).f1)):=⟨fun W hW=>by
      obtain ⟨_,_,_,h3,_,_⟩:=kP (aj lY.out hW)
      exact ⟨h3,(hW.cell (World.block_lt_of_cell? w3 _ hw0)).trans hw0,(hW.cell (World.block_lt_of_cell? w3 _ hw1)).trans hw1⟩⟩
     replace hx:=(HB.out.cell (World.block_lt_of_cell? w3 _ hx)).trans hx
     have hwl:(i:Int)<(bg.length:Int):=by have:=HW.out;omega
     have HI:=Aside0.mk hlt
     have fE:Aside0 (wrap64 ((i:Int)+1)=((i+1:Nat):Int)):=⟨dQ (by omega)⟩
     have HCv:=Aside0.mk (fun W (hW:Below w3.heap.size w3 W)=>wK.out i hlt Ab cb W (Kd.bp kA hW) hlx (Kd.bp HE.out hW))
     have gp:Aside0 (qU bg wq i=false->eO (v:Int) aa au par home bg n d wq m=false):=⟨fun h=>Vg hlt h⟩
     have kB:Aside0 (qU bg wq i=((wq i).1==(aZ bg (i:Int)).f0&&(wq i).2==(aZ bg (i:Int)).f1)):=⟨rfl⟩
     have hz:=wo.out wr HB.out
     have g0:(0:Int)<=(i:Int):=by omega
     have g1:(i:Int)<(au.length:Int):=by omega
     have oB:decide ((i:Int)<(au.length:Int))=true:=decide_eq_true g1
     have mW:decide (i<au.length)=true:=decide_eq_true hlt
     have kG:Aside0 (qU bg wq i=true->∀j,j<i+1->qU bg wq j=true):=⟨fun h j hj=>(Nat.lt_succ_iff_lt_or_eq.1 hj).elim (yG.out j) (fun e=>by rw [e];exact h)⟩
     clear kA hi hlt hw0 hw1 hlx yG
     generalize au.getD i []=row at*
     generalize qU bg wq i=one at*
     generalize (aZ bg (i:Int)).f0=p0 at*
     generalize (aZ bg (i:Int)).f1=p1 at*
     generalize (wq i).1=q0 at*
     generalize (wq i).2=q1 at*
     obtain ⟨hz3,hv0,hv1⟩:=hz
     have HQ:Aside0 ((!(q0==p0)|| !(q1==p1))= !one):=⟨by rw [kB.out];cases (q0==p0)<;>cases (q1==p1)<;>rfl⟩
     clear kB
     cases one with
     |true=>
      have hq:=HQ.out
      rw [Bool.not_true] at hq
      clear HQ gp
      go_wp2
      go_region_held3 (fun W=>W.cell? ⟨w.heap.size,3,none⟩=some (.slice (some AP) bg.length c3)/\W.cell? (AP.add (i*2))=some (.int .i64 p0)/\W.cell? ⟨(AP.add (i*2)).block,(AP.add (i*2)).off+1,none⟩=some (.int .i64 p1)) ((first|exact wo.out _ qI.out|exact wo.out _ (aI HB.out))) ((first|(go_at_call 36;(with_reducible refine (HCv.out _ (aI HB.out)).mono ?_);rintro e w5 ⟨v3,v4,rfl,hb⟩;have qI:=Aside0.mk (ah (aI HB.out) hb);clear hb)))
      go_wp2
      go_roundw
      case rel=>exact ⟨i+1,by first|(rw [fE.out];done)|rfl|(simp;done),HI.out,⟨kG.out (by first|exact trivial|rfl)⟩,qI⟩
      case measure=>(try rw [fE.out]);have:=HI.out;simp [intOf];omega
     |false=>
      have hq:=HQ.out
      rw [Bool.not_false] at hq
      have HF:Aside0 (eO (v:Int) aa au par home bg n d wq m=false):=⟨gp.out (by first|exact trivial|rfl)⟩
      clear HQ gp kG
      go_wp2
      go_region_held3 (fun W=>W.cell? ⟨w.heap.size,3,none⟩=some (.slice (some AP) bg.length c3)/\W.cell? (AP.add (i*2))=some (.int .i64 p0)/\W.cell? ⟨(AP.add (i*2)).block,(AP.add (i*2)).off+1,none⟩=some (.int .i64 p1)) ((first|exact wo.out _ qI.out|exact wo.out _ (aI HB.out))) ((first|(go_at_call 36;(with_reducible refine (HCv.out _ (aI HB.out)).mono ?_);rintro e w5 ⟨v3,v4,rfl,hb⟩;have qI:=Aside0.mk (ah (aI HB.out) hb);clear hb)))
      go_wp2
      go_ret
      exact ⟨by rw [HF.out];rfl,ah di.out qI.out⟩
    have sS:i=au.length:=by omega
    subst sS
    have oB:decide ((au.length:Int)<(au.length:Int))=false:=decide_eq_false (by omega)
    have mW:decide (au.length<au.length)=false:=decide_eq_false (by omega)
    have HF:Aside0 (eO (v:Int) aa au par home bg n d wq m=(n==m.1&&d==m.2)):=⟨a0A H1.out H2.out H3.out (fun u hu=>IX.out u (by omega)) wP.out yG.out⟩
    have HGs:=Aside0.mk (fun W (hW:Below w3.heap.size w3 W)=>SK.out yG.out A3 c3 W (Kd.bp HP.out.tR hW) HP.out.yR)
    have wo:Aside0 (∀W,Below w3.heap.size w3 W->W.cell? ⟨w.heap.size,3,none⟩=some (.slice A3 bg.length c3)/\W.cell? ⟨w.heap.size,4,none⟩=some (.int .i64 n)/\W.cell? ⟨w.heap.size,5,none⟩=some (.int .i64 d)):=⟨fun W hW=>by
     obtain ⟨_,_,_,h3,h4,h5⟩:=kP (aj lY.out hW)
     exact ⟨h3,h4,h5⟩⟩
    obtain ⟨hz3,oL,oZ⟩:=wo.out wr HB.out
    clear hlt hi IX wP yG SK
    generalize m.1=m1 at*
    generalize m.2=m2 at*
    go_wp2
    go_region_held3 (fun W=>W.cell? ⟨w.heap.size,3,none⟩=some (.slice A3 bg.length c3)/\W.cell? ⟨w.heap.size,4,none⟩=some (.int .i64 n)/\W.cell? ⟨w.heap.size,5,none⟩=some (.int .i64 d)) ((first|exact wo.out _ qI.out|exact wo.out _ (aI HB.out))) ((first|(go_at_call 37;(with_reducible refine (HGs.out _ (aI HB.out)).mono ?_);rintro e w5 ⟨rfl,hb⟩;have qI:=Aside0.mk (ah (aI HB.out) hb);clear hb)))
    go_wp2
    go_ret
    exact ⟨by rw [HF.out];rfl,ah di.out qI.out⟩
end Go.Proofs.Ytkckdphjhlbdcaa.PT
namespace Go.Proofs.Ytkckdphjhlbdcaa.PT
open Go.RowKit Go.Proofs.Ytkckdphjhlbdcaa.P Go.Proofs.YtkckdphjhlbdcaaW.PrintWords Go.Proofs.YtkckdphjhlbdcaaW.PrintLast Go.Proofs.Ytkckdphjhlbdcaa.EvKit Go.Proofs.Ytkckdphjhlbdcaa.Num Go.Proofs.Ytkckdphjhlbdcaa.Lp
set_option linter.all false
def SL (x y:Rat):Int:=if x<y then -1 else if y<x then 1 else 0
theorem SM (x y:Rat):SL x y>0↔y<x:=by
 unfold SL
 by_cases h:x<y
 ·rw [if_pos h]
  have:¬y<x:=by grind
  simp [this]
 ·rw [if_neg h]
  by_cases h2:y<x
  ·rw [if_pos h2];simp [h2]
  ·rw [if_neg h2];simp [h2]
theorem b1T {x y:Rat} (hx:Ok x) (hy:Ok y):Ev (fun k=>eY.f k x.num (x.den:Int) y.num (y.den:Int)) (SL x y):=by
 have h1:1000000*1000000+1000000*1000000<=9223372036854775807:=by omega
 have f1:(x.num*(y.den:Int)).natAbs<=1000000*1000000:=mP hx.1 (by rw [kI];exact hy.2)
 have f2:(y.num*(x.den:Int)).natAbs<=1000000*1000000:=mP hy.1 (by rw [kI];exact hx.2)
 refine ⟨1000001,fun k hk=>?_⟩
 show eY.f k x.num (x.den:Int) y.num (y.den:Int)=some (SL x y)
 unfold eY.f
 rw [ru _ _ _ (by omega),decide_eq_true hx.rat]
 simp only [Option.bind_some,if_true]
 rw [ru _ _ _ (by omega),decide_eq_true hy.rat]
 simp only [Option.bind_some,if_true]
 rw [cW (n:=x.num*(y.den:Int)) (by omega) (by omega),cW (n:=y.num*(x.den:Int)) (by omega) (by omega),cW (n:=x.num*(y.den:Int)- y.num*(x.den:Int)) (by omega) (by omega)]
 congr 1
 have a1:=FZ x y
 have a2:=FZ y x
 unfold SL mn mx
 by_cases c1:x<y
 ·rw [if_pos c1];have:=a1.2 c1;split<;>split<;>omega
 ·rw [if_neg c1]
  have n1:¬x.num*(y.den:Int)<y.num*(x.den:Int):=fun h=>c1 (a1.1 h)
  by_cases c2:y<x
  ·rw [if_pos c2];have:=a2.2 c2;split<;>split<;>omega
  ·rw [if_neg c2]
   have n2:¬y.num*(x.den:Int)<x.num*(y.den:Int):=fun h=>c2 (a2.1 h)
   split<;>split<;>omega
def nX (r:Nat->Rat):Nat->Rat
 |0=>0
 |i+1=>if nX r i<r i then r i else nX r i
abbrev qz (q:Rat):Int×Int:=(q.num,(q.den:Int))
theorem MC {r:Nat->Rat}:∀n,(∀i,i<n->Sz 11760 1680 (r i))->Sz 11760 1680 (nX r n)
 |0,_=>(⟨by decide,by decide⟩:Sz 11760 1680 0)
 |n+1,h=>by
  have ih:=MC n (fun i hi=>h i (by omega))
  simp only [nX]
  split
  ·exact h n (by omega)
  ·exact ih
theorem a5V {q:Rat} (h:Sz 11760 1680 q):Ok q:=⟨by have:=h.n;omega,by have:=h.d;omega⟩
section
variable {au aa:List (List Int)} {r:Nat->Rat} (hn:au.length<=12) (hS:∀i,i<au.length->Sz 11760 1680 (r i))
include hn hS
theorem a0O (hW:∀i,i<au.length->Ev (fun k=>aG.f k (au.getD i []) aa) (qz (r i))):
 Ev (fun k=>cm.f k au aa) (pT au.length (fun i=>qz (r i)),qz (nX r au.length)):=by
 unfold cm.f
 have key:∀m i,i+m=au.length->Ev (fun k=>cm.l0 k aa (pT i (fun i=>qz (r i))) au (au.length:Int) (i:Int) (nX r i).num ((nX r i).den:Int)) (pT au.length (fun i=>qz (r i)),qz (nX r au.length)):=by
  intro m
  induction m with
  |zero=>
   intro i hi
   have e:i=au.length:=by omega
   subst e
   refine Ev.succ ?_
   simp only [cm.l0]
   exact Ev.neg (by omega) (Ev.now _)
  |succ m ih=>
   intro i hi
   have hlt:i<au.length:=by omega
   refine Ev.succ ?_
   simp only [cm.l0,qR hlt,dQ (show i<=9223372036854775806 by omega)]
   refine Ev.pos (by omega) (Ev.pos (by omega) (Ev.pos (by omega) (Ev.bind (hW i hlt) ?_)))
   refine Ev.pos (by rw [DG];omega) ?_
   simp only [Option.bind_some]
   have hl:=ux (MC i (fun j hj=>hS j (by omega))) (hS i hlt) (by omega)
   rw [hl]
   simp only [Option.bind_some]
   have ih:=ih (i+1) (by omega)
   have e1:pT (i+1) (fun i=>qz (r i))=pT i (fun i=>qz (r i))++[⟨(r i).num,((r i).den:Int)⟩]:=by unfold pT;rw [List.range_succ,List.map_append,List.map_singleton]
   rw [e1] at ih
   simp only [nX] at ih
   by_cases h:nX r i<r i
   ·rw [if_pos h] at ih
    exact Ev.pos (decide_eq_true h) ih
   ·rw [if_neg h] at ih
    exact Ev.neg (by rw [decide_eq_false h];decide) ih
 exact key au.length 0 (by omega)
theorem Tl {bg:tQ} (hw:bg.length=au.length) (hR:∀i,i<au.length->(aZ bg (i:Int)).f0=(r i).num/\(aZ bg (i:Int)).f1=((r i).den:Int)):
 Ev (fun k=>cU.f k bg) (qz (nX r au.length)):=by
 unfold cU.f
 have key:∀m i,i+m=au.length->Ev (fun k=>cU.l0 k bg (bg.length:Int) (i:Int) (nX r i).num ((nX r i).den:Int)) (qz (nX r au.length)):=by
  intro m
  induction m with
  |zero=>
   intro i hi
   have e:i=au.length:=by omega
   subst e
   refine Ev.succ ?_
   simp only [cU.l0]
   exact Ev.neg (by omega) (Ev.now _)
  |succ m ih=>
   intro i hi
   have hlt:i<au.length:=by omega
   refine Ev.succ ?_
   simp only [cU.l0,(hR i hlt).1,(hR i hlt).2,dQ (show i<=9223372036854775806 by omega)]
   refine Ev.pos (by omega) (Ev.pos (by omega) (Ev.pos (by omega) (Ev.bind (b1T (a5V (hS i hlt)) (a5V (MC i (fun j hj=>hS j (by omega))))) ?_)))
   have ih:=ih (i+1) (by omega)
   simp only [nX] at ih
   by_cases h:nX r i<r i
   ·rw [if_pos h] at ih
    exact Ev.pos ((SM _ _).2 h) ih
   ·rw [if_neg h] at ih
    exact Ev.neg (fun h2=>h ((SM _ _).1 h2)) ih
 exact key au.length 0 (by omega)
end
section
variable {k:Int} {aa au:List (List Int)} {par home:List Int} {bg:tQ}
theorem a7U (h1:kC k aa=true) {v:Int} (h0:0<=v) (hv:v<k):∃e,e∈aa/\v∈e:=by
 have h:=h1
 unfold kC at h
 simp only [Bool.and_eq_true,decide_eq_true_eq] at h
 obtain ⟨K,rfl,_⟩:=Xg h1
 have hd:=Si K aa (fun u hu=>by
  refine ⟨?_,of_decide_eq_true (List.all_eq_true.1 h.2.2.1 u hu)⟩
  obtain ⟨e,he,hue⟩:=List.mem_flatten.1 hu
  have:=EA e (-1) (List.all_eq_true.1 h.2.1.2 e he) u hue
  omega)
 rw [decide_eq_true h.2.2.2] at hd
 have:=List.all_eq_true.1 hd.symm v.toNat (List.mem_range.2 (by omega))
 rw [List.any_eq_true] at this
 obtain ⟨e,he,BW⟩:=this
 have BW:=of_decide_eq_true BW
 rw [Int.toNat_of_nonneg h0] at BW
 exact ⟨e,he,BW⟩
theorem Hl (h1:kC k aa=true) (h2:ir k au par bg.length=true) {i:Nat} (hi:i<au.length):0<(au.getD i []).length/\kT (au.getD i []) aa=true/\mH (au.getD i []) aa=true:=by
 have hb:=(Vh h2 hi).1
 unfold wM at hb
 simp only [Bool.and_eq_true,decide_eq_true_eq] at hb
 obtain ⟨hp,ha,hk⟩:=hb
 obtain ⟨he7,hea⟩:=JC h1
 refine ⟨hp,?_,?_⟩
 ·unfold kT;rw [ha,decide_eq_true he7,hea];rfl
 ·unfold mH
  rw [List.all_eq_true]
  intro v hv
  have hlo:=EA _ _ ha v hv
  obtain ⟨e,he,BW⟩:=a7U h1 (v:=v) (by omega) (of_decide_eq_true (List.all_eq_true.1 hk v hv))
  exact List.any_eq_true.2 ⟨e,he,decide_eq_true BW⟩
def wR (aa au:List (List Int)) (i:Nat):Rat:=wid (au.getD i []) aa
abbrev wQ (aa au:List (List Int)):Nat->Int×Int:=fun i=>qz (wR aa au i)
abbrev mQ (aa au:List (List Int)):Int×Int:=qz (nX (wR aa au) au.length)
theorem a5W (h1:kC k aa=true) (h2:ir k au par bg.length=true) (W:World):∀i,i<au.length->Sz 11760 1680 (wR aa au i):=fun i hi=>by
 obtain ⟨a,b,c⟩:=Hl h1 h2 hi
 exact b1a a b c W
def plB (k:Int) (aa au:List (List Int)) (par home:List Int) (bg:tQ) (n d:Int):Bool:=eO k aa au par home bg n d (wQ aa au) (mQ aa au)
variable {w:World} {AE A0 A1 A2 A3:Option Addr} {cE c0 c1 c2 c3:Nat} (n d:Int)
 (hE:Kd.C mN w AE aa.length aa) (yT:aa.length<=cE) (hP:BX w au par home bg A0 A1 A2 A3 c0 c1 c2 c3) (a3F:∀x,x∈au->x.length<=1048576) (sG:∀x,x∈aa->x.length<=1048576)
include hE yT hP a3F sG
theorem a0P:Calls Try.prog 10 #[.int .i64 k,.slice AE aa.length cE,.agg #[.slice A0 au.length c0,.slice A1 par.length c1,.slice A2 home.length c2,.slice A3 bg.length c3,.int .i64 n,.int .i64 d]] w fun e w'=>e= .returned (.bool (plB k aa au par home bg n d))/\Below w.heap.size w w':=by
 refine Xp k n d (wQ aa au) (mQ aa au) hE yT hP (Bx a3F) sG (fun h1 h2 i hi A c W hC hc hCE=>?_) (fun h6 h1 h2 A c W hC hc=>?_)
 ·obtain ⟨a,b,cc⟩:=Hl h1 h2 hi
  refine (NW A c (au.getD i []) AE cE aa W hC hc hCE yT a b cc).mono ?_
  rintro e w' ⟨_,v3,v4,rfl,hB⟩
  exact ⟨v3,v4,rfl,hB⟩
 ·obtain ⟨j,hj⟩:=Ev.rounds (Tl (r:=wR aa au) (Ay h2).1 (a5W h1 h2 W) (Ay h2).2.2 (fun i hi=>by
   have:=h6 i hi
   unfold qU at this
   simp only [Bool.and_eq_true,beq_iff_eq] at this
   exact ⟨this.1.symm,this.2.symm⟩))
  exact cU.calls j A c bg _ _ W hC hc hj
theorem a0Q:Calls Try.prog 7 #[.int .i64 k,.slice AE aa.length cE,.agg #[.slice A0 au.length c0,.slice A1 par.length c1,.slice A2 home.length c2,.slice A3 bg.length c3,.int .i64 n,.int .i64 d]] w fun e w'=>e= .returned (.bool (plB k aa au par home bg n d))/\Below w.heap.size w w':=by
 refine Tj k n d (wQ aa au) (mQ aa au) hE yT hP (Bx a3F) sG (fun h1 h2 W hC hCE=>?_)
 obtain ⟨j,hj⟩:=Ev.rounds (a0O (aa:=aa) (r:=wR aa au) (Ay h2).1 (a5W h1 h2 W) (fun i hi=>by
  obtain ⟨a,b,c⟩:=Hl h1 h2 hi
  exact a3D a b c W))
 refine (cm.calls j A0 c0 au AE cE aa _ _ _ W hC hP.yQ hCE yT hj).mono ?_
 rintro e w' ⟨v0,rfl,hR,hB⟩
 obtain ⟨Aw,cw,rfl,hl,hCw⟩:=Kd.nx hR
 rw [DG] at*
 exact ⟨Aw,cw,rfl,hCw,hB⟩
end
end Go.Proofs.Ytkckdphjhlbdcaa.PT
namespace Go.Proofs.Ytkckdphjhlbdcaa.P
open Go.RowKit Go.Proofs.YtkckdphjhlbdcaaW.PrintWords Go.Proofs.YtkckdphjhlbdcaaW.PrintLast Go.Proofs.YtkckdphjhlbdcaaW.PrintMore
attribute [local go_sem] max2_int min2_int max_two min_two max_three min_three max_four min_four
set_option linter.all false
def nY.f (aM:Int) (aJ:Int) (bw:Int) (bk:Int):Option (Bool):=if aM=bw then (if aJ=bk then (some true) else (some false)) else (some false)
set_option maxHeartbeats 8000000 in
set_option maxRecDepth 100000 in
theorem nY.calls (aM:Int) (aJ:Int) (bw:Int) (bk:Int) (r:Bool) (w:World) (h:nY.f aM aJ bw bk=some r):
 Calls Try.prog 39 #[.agg #[.int .i64 aM,.int .i64 aJ],.agg #[.int .i64 bw,.int .i64 bk]] w fun e w'=>e= .returned (.bool r)/\Below w.heap.size w w':=by
 have lB:=Try.underlying34
 have HB:=Aside0.mk (Below.refl w.heap.size w)
 have H:(if aM=bw then (if aJ=bk then (some true) else (some false)) else (some false))=some r:=h
 clear h
 by_cases c3:aM=bw
 ·rw [if_pos c3] at H
  have iw:(aM==bw)=true:=beq_iff_eq.mpr c3
  have oz:(aM !=bw)=false:=bne_eq_false_iff_eq.mpr c3
  clear c3
  by_cases c4:aJ=bk
  ·rw [if_pos c4] at H
   have mj:(aJ==bk)=true:=beq_iff_eq.mpr c4
   have b8B:(aJ !=bk)=false:=bne_eq_false_iff_eq.mpr c4
   clear c4
   obtain rfl:=Option.some.inj H
   go_enter Try.func39,Try.ntmps39
   go_wp2_with (first|((with_reducible refine bn (N:=2) rfl ?_);refine bq ?hg (N:=2) ?hd (cs:= #[.int .i64 aM,.int .i64 aJ]) (t:=34) ?hr ?_;(case hd=>rfl);(case hg=>rfl);(case hr=>first|(go_simp;done)|(go_simp;rfl));intro iR hg w5 aU hb;have aA:=Aside0.mk (ah ay hb);have aC:=Aside0.mk (aU);have aD:=Aside0.mk ((by rw [hg];exact (ax ay):w.heap.size<=iR));have aK:=Aside0.mk ((by rw [hg];exact (ax ay):w.heap.size<=iR));clear HB;have HB:=aA;have iT:=aC;have a5X:=aD;have a5Y:=aK;clear aA aC aD aK;clear hb aU hg)|((with_reducible refine bn (N:=3) rfl ?_);refine bq ?hg (N:=3) ?hd (cs:= #[.int .i64 bw,.int .i64 bk]) (t:=34) ?hr ?_;(case hd=>rfl);(case hg=>rfl);(case hr=>first|(go_simp;done)|(go_simp;rfl));intro mh hg w6 aU hb;have aA:=Aside0.mk (aj (g:=iR) (o:= .cells #[.int .i64 aM,.int .i64 aJ] 34 (0,0)) (aH iT) hb);have aC:=Aside0.mk (ah ay hb);have aD:=Aside0.mk (aU);have aK:=Aside0.mk ((by rw [hg];exact (ax ay):w.heap.size<=mh));have bF:=Aside0.mk ((by rw [hg];exact (ax ay):w.heap.size<=mh));have bS:=Aside0.mk ((by rw [hg];exact Nat.ne_of_lt (bf (g:=iR) (o:= .cells #[.int .i64 aM,.int .i64 aJ] 34 (0,0)) (aH iT)):iR≠mh));have bY:=Aside0.mk ((by rw [hg];exact Nat.ne_of_gt (bf (g:=iR) (o:= .cells #[.int .i64 aM,.int .i64 aJ] 34 (0,0)) (aH iT)):mh≠iR));clear iT;clear HB;have iT:=aA;have HB:=aC;have qu:=aD;have a5Z:=aK;have a6a:=bF;have wu:=bS;have wB:=bY;clear aA aC aD aK bF bS bY;clear hb aU hg;have CA:=wu.out;have CB:=wB.out;have PV:w6.cell? ⟨iR,0,none⟩=some (.int .i64 aM):=(ag iT.out 0).trans rfl;have PW:w6.cell? ⟨iR,1,none⟩=some (.int .i64 aJ):=(ag iT.out 1).trans rfl;have PX:=af iT.out 0;have PY:=af iT.out 1;have vF:w6.cell? ⟨mh,0,none⟩=some (.int .i64 bw):=(ag qu.out 0).trans rfl;have vG:w6.cell? ⟨mh,1,none⟩=some (.int .i64 bk):=(ag qu.out 1).trans rfl;have vH:=af qu.out 0;have vI:=af qu.out 1))
   go_ret
   exact ⟨by first|rfl|(simp [aX,aY]<;>rfl)|(simp [*,aX,aY]<;>rfl),ay⟩
  ·rw [if_neg c4] at H
   have mj:(aJ==bk)=false:=beq_eq_false_iff_ne.mpr c4
   have b8B:(aJ !=bk)=true:=bne_iff_ne.mpr c4
   obtain rfl:=Option.some.inj H
   go_enter Try.func39,Try.ntmps39
   go_wp2_with (first|((with_reducible refine bn (N:=2) rfl ?_);refine bq ?hg (N:=2) ?hd (cs:= #[.int .i64 aM,.int .i64 aJ]) (t:=34) ?hr ?_;(case hd=>rfl);(case hg=>rfl);(case hr=>first|(go_simp;done)|(go_simp;rfl));intro iR hg mU aU hb;have aA:=Aside0.mk (ah ay hb);have aC:=Aside0.mk (aU);have aD:=Aside0.mk ((by rw [hg];exact (ax ay):w.heap.size<=iR));have aK:=Aside0.mk ((by rw [hg];exact (ax ay):w.heap.size<=iR));clear HB;have HB:=aA;have iT:=aC;have a5X:=aD;have a5Y:=aK;clear aA aC aD aK;clear hb aU hg)|((with_reducible refine bn (N:=3) rfl ?_);refine bq ?hg (N:=3) ?hd (cs:= #[.int .i64 bw,.int .i64 bk]) (t:=34) ?hr ?_;(case hd=>rfl);(case hg=>rfl);(case hr=>first|(go_simp;done)|(go_simp;rfl));intro mh hg kV aU hb;have aA:=Aside0.mk (aj (g:=iR) (o:= .cells #[.int .i64 aM,.int .i64 aJ] 34 (0,0)) (aH iT) hb);have aC:=Aside0.mk (ah ay hb);have aD:=Aside0.mk (aU);have aK:=Aside0.mk ((by rw [hg];exact (ax ay):w.heap.size<=mh));have bF:=Aside0.mk ((by rw [hg];exact (ax ay):w.heap.size<=mh));have bS:=Aside0.mk ((by rw [hg];exact Nat.ne_of_lt (bf (g:=iR) (o:= .cells #[.int .i64 aM,.int .i64 aJ] 34 (0,0)) (aH iT)):iR≠mh));have bY:=Aside0.mk ((by rw [hg];exact Nat.ne_of_gt (bf (g:=iR) (o:= .cells #[.int .i64 aM,.int .i64 aJ] 34 (0,0)) (aH iT)):mh≠iR));clear iT;clear HB;have iT:=aA;have HB:=aC;have qu:=aD;have a5Z:=aK;have a6a:=bF;have wu:=bS;have wB:=bY;clear aA aC aD aK bF bS bY;clear hb aU hg;have Wi:=wu.out;have Wj:=wB.out;have pZ:kV.cell? ⟨iR,0,none⟩=some (.int .i64 aM):=(ag iT.out 0).trans rfl;have qa:kV.cell? ⟨iR,1,none⟩=some (.int .i64 aJ):=(ag iT.out 1).trans rfl;have qb:=af iT.out 0;have qc:=af iT.out 1;have zW:kV.cell? ⟨mh,0,none⟩=some (.int .i64 bw):=(ag qu.out 0).trans rfl;have zX:kV.cell? ⟨mh,1,none⟩=some (.int .i64 bk):=(ag qu.out 1).trans rfl;have zY:=af qu.out 0;have zZ:=af qu.out 1))
   go_ret
   exact ⟨by first|rfl|(simp [aX,aY]<;>rfl)|(simp [*,aX,aY]<;>rfl),ay⟩
 ·rw [if_neg c3] at H
  have iw:(aM==bw)=false:=beq_eq_false_iff_ne.mpr c3
  have oz:(aM !=bw)=true:=bne_iff_ne.mpr c3
  obtain rfl:=Option.some.inj H
  go_enter Try.func39,Try.ntmps39
  go_wp2_with (first|((with_reducible refine bn (N:=2) rfl ?_);refine bq ?hg (N:=2) ?hd (cs:= #[.int .i64 aM,.int .i64 aJ]) (t:=34) ?hr ?_;(case hd=>rfl);(case hg=>rfl);(case hr=>first|(go_simp;done)|(go_simp;rfl));intro iR hg NB aU hb;have aA:=Aside0.mk (ah ay hb);have aC:=Aside0.mk (aU);have aD:=Aside0.mk ((by rw [hg];exact (ax ay):w.heap.size<=iR));have aK:=Aside0.mk ((by rw [hg];exact (ax ay):w.heap.size<=iR));clear HB;have HB:=aA;have iT:=aC;have a5X:=aD;have a5Y:=aK;clear aA aC aD aK;clear hb aU hg)|((with_reducible refine bn (N:=3) rfl ?_);refine bq ?hg (N:=3) ?hd (cs:= #[.int .i64 bw,.int .i64 bk]) (t:=34) ?hr ?_;(case hd=>rfl);(case hg=>rfl);(case hr=>first|(go_simp;done)|(go_simp;rfl));intro mh hg xL aU hb;have aA:=Aside0.mk (aj (g:=iR) (o:= .cells #[.int .i64 aM,.int .i64 aJ] 34 (0,0)) (aH iT) hb);have aC:=Aside0.mk (ah ay hb);have aD:=Aside0.mk (aU);have aK:=Aside0.mk ((by rw [hg];exact (ax ay):w.heap.size<=mh));have bF:=Aside0.mk ((by rw [hg];exact (ax ay):w.heap.size<=mh));have bS:=Aside0.mk ((by rw [hg];exact Nat.ne_of_lt (bf (g:=iR) (o:= .cells #[.int .i64 aM,.int .i64 aJ] 34 (0,0)) (aH iT)):iR≠mh));have bY:=Aside0.mk ((by rw [hg];exact Nat.ne_of_gt (bf (g:=iR) (o:= .cells #[.int .i64 aM,.int .i64 aJ] 34 (0,0)) (aH iT)):mh≠iR));clear iT;clear HB;have iT:=aA;have HB:=aC;have qu:=aD;have a5Z:=aK;have a6a:=bF;have wu:=bS;have wB:=bY;clear aA aC aD aK bF bS bY;clear hb aU hg;have hnb17:=wu.out;have hnc17:=wB.out;have DW:xL.cell? ⟨iR,0,none⟩=some (.int .i64 aM):=(ag iT.out 0).trans rfl;have DX:xL.cell? ⟨iR,1,none⟩=some (.int .i64 aJ):=(ag iT.out 1).trans rfl;have DY:=af iT.out 0;have DZ:=af iT.out 1;have Lc:xL.cell? ⟨mh,0,none⟩=some (.int .i64 bw):=(ag qu.out 0).trans rfl;have Ld:xL.cell? ⟨mh,1,none⟩=some (.int .i64 bk):=(ag qu.out 1).trans rfl;have Le:=af qu.out 0;have Lf:=af qu.out 1))
  go_ret
  exact ⟨by first|rfl|(simp [aX,aY]<;>rfl)|(simp [*,aX,aY]<;>rfl),ay⟩
def cA.l0:Nat->List (dm)->List (dm)->Int->Option (Bool)
 |0,_,_,_=>none
 |k+1,x0,x1,x5=>if x5<(x0.length:Int) then (if 0<=x5 then (if x5<(x1.length:Int) then ((nY.f ((aZ x0 x5).f0) ((aZ x0 x5).f1) ((aZ x1 x5).f0) ((aZ x1 x5).f1)).bind fun Xq=>(if Xq=true then (cA.l0 k x0 x1 (wrap64 (x5+1))) else (some false))) else (none)) else (none)) else (some true)
def cA.f (k:Nat) (l0:List (dm)) (l1:List (dm)):Option (Bool):=if (l0.length:Int)=(l1.length:Int) then (cA.l0 k l0 l1 0) else (some false)
theorem cA.cC:∀k,(∀y0 y1 y2,aR (cA.l0 k y0 y1 y2) (cA.l0 (k+1) y0 y1 y2))
 |0=>fun _ _ _ r h=>by simp [cA.l0] at h
 |k+1=>by
  have dN:=cA.cC k
  ·intro y0 y1 y2
   unfold cA.l0
   repeat' first
   |(with_reducible exact dN _ _ _)
   |(with_reducible exact aR.refl _)
   |(with_reducible exact aR.none _)
   |(with_reducible refine aR.ite ?_ ?_)
   |(with_reducible refine aR.bind ?_ (fun _=>?_))
theorem cA.mono:∀a0 a1 k,aR (cA.f k a0 a1) (cA.f (k+1) a0 a1):=by
 intro a0 a1 k
 have dN:=cA.cC k
 unfold cA.f
 repeat' first
  |(with_reducible exact dN _ _ _)
  |(with_reducible exact aR.refl _)
  |(with_reducible exact aR.none _)
  |(with_reducible refine aR.ite ?_ ?_)
  |(with_reducible refine aR.bind ?_ (fun _=>?_))
def cA.T6:Bool×List (List Nat×List Nat):=(true,[([],[]),([],[]),([0,1],[0,1]),([2],[2]),([],[]),([],[]),([4,5],[4,5]),([6],[6]),([3,7],[3,7]),([8],[8])])
def cA.B6:List Nat:=[0,0,3,7,0,0,48,112,255,511]
theorem cA.b1V:lz .any (opsOf Try.f38 6)=cA.T6:=by kernel_rfl
theorem cA.a6b:rj cA.T6.2 cA.B6=true:=by kernel_rfl
set_option maxHeartbeats 8000000 in
set_option maxRecDepth 100000 in
theorem cA.calls (k:Nat) (A0:Option Addr) (c0:Nat) (l0:List (dm)) (A1:Option Addr) (c1:Nat) (l1:List (dm)) (r:Bool) (w:World) (fl:Kd.C gY w A0 l0.length l0) (hc0:l0.length<=c0) (hr1:Kd.C gY w A1 l1.length l1) (hc1:l1.length<=c1) (h:cA.f k l0 l1=some r):
 Calls Try.prog 38 #[.slice A0 l0.length c0,.slice A1 l1.length c1] w fun e w'=>e= .returned (.bool r)/\Below w.heap.size w w':=by
 have lB:=Try.underlying34
 have eu:=Aside0.mk fl
 have kr:=Aside0.mk hc0
 clear fl hc0
 have gA:=Aside0.mk hr1
 have gb:=Aside0.mk hc1
 clear hr1 hc1
 have HB:=Aside0.mk (Below.refl w.heap.size w)
 have H:(if (l0.length:Int)=(l1.length:Int) then (cA.l0 k l0 l1 0) else (some false))=some r:=h
 clear h
 by_cases c3:(l0.length:Int)=(l1.length:Int)
 ·rw [if_pos c3] at H
  have iw:((l0.length:Int)==(l1.length:Int))=true:=beq_iff_eq.mpr c3
  have oz:((l0.length:Int) !=(l1.length:Int))=false:=bne_eq_false_iff_eq.mpr c3
  have Dk:(l0.length==l1.length)=true:=by first|simpa using c3|(simp at c3⊢;omega)
  clear c3
  have H':=Aside0.mk H
  clear H
  go_enter Try.func38,Try.ntmps38
  go_wp2
  go_loopg [5] k (fun kq v5 w'=>∃(bC:Int),v5= .int .i64 bC/\Aside0 (cA.l0 kq l0 l1 bC=some r)/\Aside0 (kq<=k)/\Aside0 (Below w.heap.size w w'))
  case atStart=>exact ⟨(0),(by first|rfl|(simp;done)|(simp [*];done)),H',⟨Nat.le_refl _⟩,⟨ay⟩⟩
  case round=>
   clear H'
   try clear c1
   try clear p2
   try clear c3
   try clear iw
   try clear oz
   try clear Dk
   obtain ⟨bC,rfl,HA,dX,HB⟩:=hrel
   cases gk with
   |zero=>exact absurd HA.out (by simp [cA.l0])
   |succ k1=>
    have H:=HA.out
    clear HA
    simp only [cA.l0] at H
    by_cases c4:bC<(l0.length:Int)
    ·rw [if_pos c4] at H
     have mj:decide (bC<(l0.length:Int))=true:=decide_eq_true c4
     clear c4
     by_cases c5:0<=bC
     ·rw [if_pos c5] at H
      have wF:decide (0<=bC)=true:=decide_eq_true c5
      clear c5
      by_cases c6:bC<(l1.length:Int)
      ·rw [if_pos c6] at H
       have oc:decide (bC<(l1.length:Int))=true:=decide_eq_true c6
       clear c6
       replace H:=Option.bind_eq_some_iff.mp H
       obtain ⟨Xq,CC,H⟩:=H
       replace H:(if Xq=true then (cA.l0 k1 l0 l1 (wrap64 (bC+1))) else (some false))=some r:=H
       have A7:=Aside0.mk CC
       clear CC
       by_cases c8:Xq=true
       ·subst c8
        have H1:(cA.l0 k1 l0 l1 (wrap64 (bC+1)))=some r:=by rw [if_pos rfl] at H;exact H
        clear H
        have H:=H1
        clear H1
        have H':=Aside0.mk H
        clear H
        try go_wp2
        have aA:=Aside0.mk (aI HB.out)
        clear HB
        have HB:=aA
        clear aA
        have Ho:0<=(bC:Int):=of_decide_eq_true (by first|(with_reducible assumption)|assumption)
        have Hp:bC<(l0.length:Int):=of_decide_eq_true (by first|(with_reducible assumption)|assumption)
        obtain ⟨Bz,a3G,oN,oO⟩:=kj eu.out bC Ho Hp
        have rH:=oO
        have rI:=oN
        cases a3G
        replace oN:=(HB.out.cell (World.block_lt_of_cell? w _ oN)).trans oN
        replace oO:=(HB.out.cell (World.block_lt_of_cell? w _ oO)).trans oO
        replace Ho:=eq_true Ho
        replace Hp:=eq_true Hp
        have Hq:0<=(bC:Int):=of_decide_eq_true (by first|(with_reducible assumption)|assumption)
        have Hr:bC<(l1.length:Int):=of_decide_eq_true (by first|(with_reducible assumption)|assumption)
        obtain ⟨BA,a3H,oP,oQ⟩:=kj gA.out bC Hq Hr
        have rJ:=oQ
        have rK:=oP
        cases a3H
        replace oP:=(HB.out.cell (World.block_lt_of_cell? w _ oP)).trans oP
        replace oQ:=(HB.out.cell (World.block_lt_of_cell? w _ oQ)).trans oQ
        replace Hq:=eq_true Hq
        replace Hr:=eq_true Hr
        refine fL (n:=10) (S:=fun w'=>w'.cell? (Bz.add ((bC).toNat*2))=some (.int .i64 ((aZ l0 bC).f0))/\w'.cell? ⟨(Bz.add ((bC).toNat*2)).block,(Bz.add ((bC).toNat*2)).off+1,none⟩=some (.int .i64 ((aZ l0 bC).f1))/\w'.cell? (BA.add ((bC).toNat*2))=some (.int .i64 ((aZ l1 bC).f0))/\w'.cell? ⟨(BA.add ((bC).toNat*2)).block,(BA.add ((bC).toNat*2)).off+1,none⟩=some (.int .i64 ((aZ l1 bC).f1))) (ds:=[]) #[false,false,false,false,false,false,false,false,false,false] (by kernel_rfl) rfl rfl ⟨((HB.out.cell (World.block_lt_of_cell? w _ rI)).trans rI),((HB.out.cell (World.block_lt_of_cell? w _ rH)).trans rH),((HB.out.cell (World.block_lt_of_cell? w _ rK)).trans rK),((HB.out.cell (World.block_lt_of_cell? w _ rJ)).trans rJ)⟩ (fun hHeld=>?_);refine jK cA.b1V cA.a6b (fun cG oV=>?_)
        generalize wr.drew=w9 at HB oN oO oP oQ hHeld⊢
        refine cB cG (i:=0) (N:=some 17) ?_
        refine cB cG (i:=1) (N:=some 18) ?_
        refine cB cG (i:=2) (N:=some 19) ?_
        refine cB cG (i:=4) (N:=some 21) ?_
        refine cB cG (i:=5) (N:=some 22) ?_
        refine cB cG (i:=6) (N:=some 23) ?_
        refine dS (i:=3) (N:=some 20) (v:=?_) (a':=?_) #[true,true,true,true,true,true,true,false,false,false] rfl rfl (ki cG.out oV.out (by kernel_rfl)) (fun _ _ _ h=>h) (Or.inl ⟨by rfl,?_⟩) hHeld ?_ ?_
        rotate_left
        ·rintro w' ⟨s0,s1,s2,s3⟩
         go_simp
         with_reducible rfl
        rotate_left
        ·exact fj
        refine dS (i:=7) (N:=some 24) (v:=?_) (a':=?_) #[true,true,true,true,true,true,true,true,false,false] rfl rfl (ki cG.out oV.out (by kernel_rfl)) (fun _ _ _ h=>h) (Or.inl ⟨by rfl,?_⟩) hHeld ?_ ?_
        rotate_left
        ·rintro w' ⟨s0,s1,s2,s3⟩
         go_simp
         with_reducible rfl
        rotate_left
        ·exact fj
        refine gj (i:=8) (N:=some 25) #[true,true,true,true,true,true,true,true,true,false] rfl rfl (lA cG.out (by kernel_rfl)) (by decide) (fun K hK=>?_)
        refine pg Try.func39 (by kernel_rfl) rfl #[.agg #[.int .i64 ((aZ l0 bC).f0),.int .i64 ((aZ l0 bC).f1)],.agg #[.int .i64 ((aZ l1 bC).f0),.int .i64 ((aZ l1 bC).f1)]] (by rfl) rfl rfl (by (try simp only [List.map_toArray,List.map_cons,List.map_nil]);first|done|rfl|(simp only [List.length_drop,List.length_take];rfl)) ?_
        with_reducible refine (nY.calls ((aZ l0 bC).f0) ((aZ l0 bC).f1) ((aZ l1 bC).f0) ((aZ l1 bC).f1) true _ A7.out).mono ?_
        rintro e mU ⟨rfl,hb⟩
        refine ⟨_,rfl,?_⟩
        have aA:=Aside0.mk (ah ay hb)
        clear HB
        have HB:=aA
        clear aA
        (try clear hb)
        (try clear hb2)
        (try clear hk)
        (try clear hi)
        refine hK.out _ _ ⟨((HB.out.cell (World.block_lt_of_cell? w _ rI)).trans rI),((HB.out.cell (World.block_lt_of_cell? w _ rH)).trans rH),((HB.out.cell (World.block_lt_of_cell? w _ rK)).trans rK),((HB.out.cell (World.block_lt_of_cell? w _ rJ)).trans rJ)⟩ (fun hHeld=>?_)
        clear hK K
        refine fq (a':=?_) ?_ ?_
        rotate_left
        ·show Act.put _ (some 25) _=_
         simp only [Act.put,List.setIfInBounds_toArray,List.set_cons_zero,List.set_cons_succ,dJ,eD]
         rfl
        refine cB cG (i:=9) (N:=some 26) ?_
        refine gU (mO cG.out (by kernel_rfl)) ?_
        try go_wp2
        go_roundg k1
        case measure=>have:=dX.out;omega
        case rel=>exact ⟨(wrap64 (bC+1)),(by first|rfl|(simp;done)|(simp [*];done)),H',⟨by have:=dX.out;omega⟩,⟨ay⟩⟩
       ·replace c8:=Bool.eq_false_iff.mpr c8
        subst c8
        have H1:(some false)=some r:=by rw [if_neg (show ¬(false=true) by decide)] at H;exact H
        clear H
        have H:=H1
        clear H1
        obtain rfl:=Option.some.inj H
        try go_wp2
        have aA:=Aside0.mk (aI HB.out)
        clear HB
        have HB:=aA
        clear aA
        have Ho:0<=(bC:Int):=of_decide_eq_true (by first|(with_reducible assumption)|assumption)
        have Hp:bC<(l0.length:Int):=of_decide_eq_true (by first|(with_reducible assumption)|assumption)
        obtain ⟨Bz,a3G,oN,oO⟩:=kj eu.out bC Ho Hp
        have rH:=oO
        have rI:=oN
        cases a3G
        replace oN:=(HB.out.cell (World.block_lt_of_cell? w _ oN)).trans oN
        replace oO:=(HB.out.cell (World.block_lt_of_cell? w _ oO)).trans oO
        replace Ho:=eq_true Ho
        replace Hp:=eq_true Hp
        have Hq:0<=(bC:Int):=of_decide_eq_true (by first|(with_reducible assumption)|assumption)
        have Hr:bC<(l1.length:Int):=of_decide_eq_true (by first|(with_reducible assumption)|assumption)
        obtain ⟨BA,a3H,oP,oQ⟩:=kj gA.out bC Hq Hr
        have rJ:=oQ
        have rK:=oP
        cases a3H
        replace oP:=(HB.out.cell (World.block_lt_of_cell? w _ oP)).trans oP
        replace oQ:=(HB.out.cell (World.block_lt_of_cell? w _ oQ)).trans oQ
        replace Hq:=eq_true Hq
        replace Hr:=eq_true Hr
        refine fL (n:=10) (S:=fun w'=>w'.cell? (Bz.add ((bC).toNat*2))=some (.int .i64 ((aZ l0 bC).f0))/\w'.cell? ⟨(Bz.add ((bC).toNat*2)).block,(Bz.add ((bC).toNat*2)).off+1,none⟩=some (.int .i64 ((aZ l0 bC).f1))/\w'.cell? (BA.add ((bC).toNat*2))=some (.int .i64 ((aZ l1 bC).f0))/\w'.cell? ⟨(BA.add ((bC).toNat*2)).block,(BA.add ((bC).toNat*2)).off+1,none⟩=some (.int .i64 ((aZ l1 bC).f1))) (ds:=[]) #[false,false,false,false,false,false,false,false,false,false] (by kernel_rfl) rfl rfl ⟨((HB.out.cell (World.block_lt_of_cell? w _ rI)).trans rI),((HB.out.cell (World.block_lt_of_cell? w _ rH)).trans rH),((HB.out.cell (World.block_lt_of_cell? w _ rK)).trans rK),((HB.out.cell (World.block_lt_of_cell? w _ rJ)).trans rJ)⟩ (fun hHeld=>?_);refine jK cA.b1V cA.a6b (fun cG oV=>?_)
        generalize wr.drew=kV at HB oN oO oP oQ hHeld⊢
        refine cB cG (i:=0) (N:=some 17) ?_
        refine cB cG (i:=1) (N:=some 18) ?_
        refine cB cG (i:=2) (N:=some 19) ?_
        refine cB cG (i:=4) (N:=some 21) ?_
        refine cB cG (i:=5) (N:=some 22) ?_
        refine cB cG (i:=6) (N:=some 23) ?_
        refine dS (i:=3) (N:=some 20) (v:=?_) (a':=?_) #[true,true,true,true,true,true,true,false,false,false] rfl rfl (ki cG.out oV.out (by kernel_rfl)) (fun _ _ _ h=>h) (Or.inl ⟨by rfl,?_⟩) hHeld ?_ ?_
        rotate_left
        ·rintro w' ⟨s0,s1,s2,s3⟩
         go_simp
         with_reducible rfl
        rotate_left
        ·exact fj
        refine dS (i:=7) (N:=some 24) (v:=?_) (a':=?_) #[true,true,true,true,true,true,true,true,false,false] rfl rfl (ki cG.out oV.out (by kernel_rfl)) (fun _ _ _ h=>h) (Or.inl ⟨by rfl,?_⟩) hHeld ?_ ?_
        rotate_left
        ·rintro w' ⟨s0,s1,s2,s3⟩
         go_simp
         with_reducible rfl
        rotate_left
        ·exact fj
        refine gj (i:=8) (N:=some 25) #[true,true,true,true,true,true,true,true,true,false] rfl rfl (lA cG.out (by kernel_rfl)) (by decide) (fun K hK=>?_)
        refine pg Try.func39 (by kernel_rfl) rfl #[.agg #[.int .i64 ((aZ l0 bC).f0),.int .i64 ((aZ l0 bC).f1)],.agg #[.int .i64 ((aZ l1 bC).f0),.int .i64 ((aZ l1 bC).f1)]] (by rfl) rfl rfl (by (try simp only [List.map_toArray,List.map_cons,List.map_nil]);first|done|rfl|(simp only [List.length_drop,List.length_take];rfl)) ?_
        with_reducible refine (nY.calls ((aZ l0 bC).f0) ((aZ l0 bC).f1) ((aZ l1 bC).f0) ((aZ l1 bC).f1) false _ A7.out).mono ?_
        rintro e mV ⟨rfl,hb⟩
        refine ⟨_,rfl,?_⟩
        have aA:=Aside0.mk (ah ay hb)
        clear HB
        have HB:=aA
        clear aA
        (try clear hb)
        (try clear hb2)
        (try clear hk)
        (try clear hi)
        refine hK.out _ _ ⟨((HB.out.cell (World.block_lt_of_cell? w _ rI)).trans rI),((HB.out.cell (World.block_lt_of_cell? w _ rH)).trans rH),((HB.out.cell (World.block_lt_of_cell? w _ rK)).trans rK),((HB.out.cell (World.block_lt_of_cell? w _ rJ)).trans rJ)⟩ (fun hHeld=>?_)
        clear hK K
        refine fq (a':=?_) ?_ ?_
        rotate_left
        ·show Act.put _ (some 25) _=_
         simp only [Act.put,List.setIfInBounds_toArray,List.set_cons_zero,List.set_cons_succ,dJ,eD]
         rfl
        refine cB cG (i:=9) (N:=some 26) ?_
        refine gU (mO cG.out (by kernel_rfl)) ?_
        try go_wp2
        go_ret
        exact ⟨by first|rfl|(simp [aX,aY]<;>rfl)|(simp [*,aX,aY]<;>rfl),ay⟩
      ·rw [if_neg c6] at H
       exact absurd H (by simp)
     ·rw [if_neg c5] at H
      exact absurd H (by simp)
    ·rw [if_neg c4] at H
     have mj:decide (bC<(l0.length:Int))=false:=decide_eq_false c4
     clear c4
     obtain rfl:=Option.some.inj H
     go_wp2
     go_ret
     exact ⟨by first|rfl|(simp [aX,aY]<;>rfl)|(simp [*,aX,aY]<;>rfl),ay⟩
 ·rw [if_neg c3] at H
  have iw:((l0.length:Int)==(l1.length:Int))=false:=beq_eq_false_iff_ne.mpr c3
  have oz:((l0.length:Int) !=(l1.length:Int))=true:=bne_iff_ne.mpr c3
  have Dk:(l0.length==l1.length)=false:=by first|simpa using c3|(simp at c3⊢;omega)
  obtain rfl:=Option.some.inj H
  go_enter Try.func38,Try.ntmps38
  go_wp2
  go_ret
  exact ⟨by first|rfl|(simp [aX,aY]<;>rfl)|(simp [*,aX,aY]<;>rfl),ay⟩
def jF.f (aM:Int) (aJ:Int):Option (Int×Int):=some (aM,aJ)
set_option maxHeartbeats 8000000 in
set_option maxRecDepth 100000 in
theorem jF.calls (aM:Int) (aJ:Int) (r1:Int) (r2:Int) (w:World) (h:jF.f aM aJ=some (r1,r2)):
 Calls Try.prog 30 #[.agg #[.int .i64 aM,.int .i64 aJ]] w fun e w'=>e= .returned (.agg #[.int .i64 r1,.int .i64 r2])/\Below w.heap.size w w':=by
 have b1W:=Try.underlying26
 have lB:=Try.underlying34
 have HB:=Aside0.mk (Below.refl w.heap.size w)
 have H:(some (aM,aJ))=some (r1,r2):=h
 clear h
 simp only [Option.some.injEq,Prod.mk.injEq] at H
 obtain ⟨rfl,rfl⟩:=H
 go_enter Try.func30,Try.ntmps30
 go_wp2_with (first|((with_reducible refine bn (N:=1) rfl ?_);refine bq ?hg (N:=1) ?hd (cs:= #[.int .i64 aM,.int .i64 aJ]) (t:=26) ?hr ?_;(case hd=>rfl);(case hg=>rfl);(case hr=>first|(go_simp;done)|(go_simp;rfl));intro qw hg w2 aU hb;have aA:=Aside0.mk (ah ay hb);have aC:=Aside0.mk (aU);have aD:=Aside0.mk ((by rw [hg];exact (ax ay):w.heap.size<=qw));have aK:=Aside0.mk ((by rw [hg];exact (ax ay):w.heap.size<=qw));clear HB;have HB:=aA;have qx:=aC;have GW323:=aD;have GE323:=aK;clear aA aC aD aK;clear hb aU hg)|((with_reducible refine bn (N:=2) rfl ?_);refine bq ?hg (N:=2) ?hd (cs:= #[.int .i64 0,.int .i64 0]) (t:=34) ?hr ?_;(case hd=>rfl);(case hg=>rfl);(case hr=>first|(go_simp;done)|(go_simp;rfl));intro sH hg w3 aU hb;have aA:=Aside0.mk (aj (g:=qw) (o:= .cells #[.int .i64 aM,.int .i64 aJ] 26 (0,0)) (aH qx) hb);have aC:=Aside0.mk (ah ay hb);have aD:=Aside0.mk (aU);have aK:=Aside0.mk ((by rw [hg];exact (ax ay):w.heap.size<=sH));have bF:=Aside0.mk ((by rw [hg];exact (ax ay):w.heap.size<=sH));have bS:=Aside0.mk ((by rw [hg];exact Nat.ne_of_lt (bf (g:=qw) (o:= .cells #[.int .i64 aM,.int .i64 aJ] 26 (0,0)) (aH qx)):qw≠sH));have bY:=Aside0.mk ((by rw [hg];exact Nat.ne_of_gt (bf (g:=qw) (o:= .cells #[.int .i64 aM,.int .i64 aJ] 26 (0,0)) (aH qx)):sH≠qw));clear qx;clear HB;have qx:=aA;have HB:=aC;have vw:=aD;have GW324:=aK;have GE324:=bF;have a0R:=bS;have a0S:=bY;clear aA aC aD aK bF bS bY;clear hb aU hg)|((with_reducible refine bn (N:=3) rfl ?_);refine bq ?hg (N:=3) ?hd (cs:= #[.int .i64 0,.int .i64 0]) (t:=34) ?hr ?_;(case hd=>rfl);(case hg=>rfl);(case hr=>first|(go_simp;done)|(go_simp;rfl));intro yU hg w4 aU hb;have aA:=Aside0.mk (aj (g:=qw) (o:= .cells #[.int .i64 aM,.int .i64 aJ] 26 (0,0)) (aH qx) hb);have aC:=Aside0.mk (aj (g:=sH) (o:= .cells #[.int .i64 0,.int .i64 0] 34 (0,0)) (aH vw) hb);have aD:=Aside0.mk (ah ay hb);have aK:=Aside0.mk (aU);have bF:=Aside0.mk ((by rw [hg];exact (ax ay):w.heap.size<=yU));have bS:=Aside0.mk ((by rw [hg];exact (ax ay):w.heap.size<=yU));have bY:=Aside0.mk ((by rw [hg];exact Nat.ne_of_lt (bf (g:=qw) (o:= .cells #[.int .i64 aM,.int .i64 aJ] 26 (0,0)) (aH qx)):qw≠yU));have eX:=Aside0.mk ((by rw [hg];exact Nat.ne_of_gt (bf (g:=qw) (o:= .cells #[.int .i64 aM,.int .i64 aJ] 26 (0,0)) (aH qx)):yU≠qw));have fY:=Aside0.mk ((by rw [hg];exact Nat.ne_of_lt (bf (g:=sH) (o:= .cells #[.int .i64 0,.int .i64 0] 34 (0,0)) (aH vw)):sH≠yU));have gT:=Aside0.mk ((by rw [hg];exact Nat.ne_of_gt (bf (g:=sH) (o:= .cells #[.int .i64 0,.int .i64 0] 34 (0,0)) (aH vw)):yU≠sH));clear qx;clear vw;clear HB;have qx:=aA;have vw:=aC;have HB:=aD;have OY:=aK;have GW325:=bF;have GE325:=bS;have a0T:=bY;have a0U:=eX;have DI:=fY;have a0V:=gT;clear aA aC aD aK bF bS bY eX fY gT;clear hb aU hg;have a8K:=a0R.out;have a8L:=a0S.out;have hnb6:=a0T.out;have hnc6:=a0U.out;have Qg:w4.cell? ⟨qw,0,none⟩=some (.int .i64 aM):=(ag qx.out 0).trans rfl;have Qh:w4.cell? ⟨qw,1,none⟩=some (.int .i64 aJ):=(ag qx.out 1).trans rfl;have Qi:=af qx.out 0;have Qj:=af qx.out 1;have FX:=a0V.out;have FY:=DI.out;have vF:w4.cell? ⟨yU,0,none⟩=some (.int .i64 0):=(ag OY.out 0).trans rfl;have vG:w4.cell? ⟨yU,1,none⟩=some (.int .i64 0):=(ag OY.out 1).trans rfl;have vH:=af OY.out 0;have vI:=af OY.out 1;have Lz:w4.cell? ⟨sH,0,none⟩=some (.int .i64 0):=(ag vw.out 0).trans rfl;have LA:w4.cell? ⟨sH,1,none⟩=some (.int .i64 0):=(ag vw.out 1).trans rfl;have LB:=af vw.out 0;have LC:=af vw.out 1))
 refine bodyPost_ret (results_cell_row rfl _ _ sH 34 #[.int .i64 aM,.int .i64 aJ] (0,0) _ rfl (by (with_reducible repeat (first|refine aq ?_ _|refine ak ?_|refine ai ?_ _));refine bh (cs:= #[.int .i64 aM,.int .i64 0]) ?_ 1 _ rfl;(with_reducible repeat (first|refine aq ?_ _|refine ak ?_|refine ai ?_ _));refine bh (cs:= #[.int .i64 0,.int .i64 0]) ?_ 0 _ rfl;(with_reducible repeat (first|refine aq ?_ _|refine ak ?_|refine ai ?_ _));refine bM ?_ DI.out _;(with_reducible repeat (first|refine aq ?_ _|refine ak ?_|refine ai ?_ _));refine bM ?_ DI.out _;(with_reducible repeat (first|refine aq ?_ _|refine ak ?_|refine ai ?_ _));exact vw.out) Try.underlying34 rfl (by kernel_rfl)) rfl ?_
 exact ⟨by first|rfl|(simp [aX,aY]<;>rfl)|(simp [*,aX,aY]<;>rfl),ay⟩
def cQ.l0:Nat->List (rS)->List (dm)->Int->Option ((List (dm)))
 |0,_,_,_=>none
 |k+1,x0,x3,x4=>if x4<(x0.length:Int) then (if 0<=x4 then ((jF.f ((tD x0 x4).f0) ((tD x0 x4).f1)).bind fun a6c=>(if x4<(x3.length:Int) then (cQ.l0 k x0 (x3.set (x4:Int).toNat (⟨a6c.1,a6c.2⟩:dm)) (wrap64 (x4+1))) else (none))) else (none)) else (some x3)
def cQ.f (k:Nat) (l0:List (rS)):Option ((List (dm))):=if 0<=(l0.length:Int) then (if ((l0.length:Int):Int).toNat<=17592186044416 then (cQ.l0 k l0 (List.replicate ((l0.length:Int):Int).toNat z34) 0) else (none)) else (none)
theorem cQ.cC:∀k,(∀y0 y1 y2,aR (cQ.l0 k y0 y1 y2) (cQ.l0 (k+1) y0 y1 y2))
 |0=>fun _ _ _ r h=>by simp [cQ.l0] at h
 |k+1=>by
  have dN:=cQ.cC k
  ·intro y0 y1 y2
   unfold cQ.l0
   repeat' first
   |(with_reducible exact dN _ _ _)
   |(with_reducible exact aR.refl _)
   |(with_reducible exact aR.none _)
   |(with_reducible refine aR.ite ?_ ?_)
   |(with_reducible refine aR.bind ?_ (fun _=>?_))
theorem cQ.mono:∀a0 k,aR (cQ.f k a0) (cQ.f (k+1) a0):=by
 intro a0 k
 have dN:=cQ.cC k
 unfold cQ.f
 repeat' first
  |(with_reducible exact dN _ _ _)
  |(with_reducible exact aR.refl _)
  |(with_reducible exact aR.none _)
  |(with_reducible refine aR.ite ?_ ?_)
  |(with_reducible refine aR.bind ?_ (fun _=>?_))
set_option maxHeartbeats 8000000 in
set_option maxRecDepth 100000 in
theorem cQ.calls (k:Nat) (A0:Option Addr) (c0:Nat) (l0:List (rS)) (r:List (dm)) (w:World) (fl:Kd.C BG w A0 l0.length l0) (hc0:l0.length<=c0) (h:cQ.f k l0=some r):
 Calls Try.prog 29 #[.slice A0 l0.length c0] w fun e w'=>∃lH:Value,e= .returned (lH)/\Kd.R gY 34 w' w.heap.size (fun _=>True) lH r/\Below w.heap.size w w':=by
 have b1W:=Try.underlying26
 have lB:=Try.underlying34
 have eu:=Aside0.mk fl
 have kr:=Aside0.mk hc0
 clear fl hc0
 have HB:=Aside0.mk (Below.refl w.heap.size w)
 have H:(if 0<=(l0.length:Int) then (if ((l0.length:Int):Int).toNat<=17592186044416 then (cQ.l0 k l0 (List.replicate ((l0.length:Int):Int).toNat z34) 0) else (none)) else (none))=some r:=h
 clear h
 by_cases c2:0<=(l0.length:Int)
 ·rw [if_pos c2] at H
  have Bf:=eq_true c2
  have Rv:decide (0<=(l0.length:Int))=true:=decide_eq_true c2
  clear c2
  by_cases c3:((l0.length:Int):Int).toNat<=17592186044416
  ·rw [if_pos c3] at H
   have iw:=eq_true c3
   have oz:decide (((l0.length:Int):Int).toNat<=17592186044416)=true:=decide_eq_true c3
   clear c3
   obtain ⟨b1X,JZ⟩:∃y_:List (dm),y_=(List.replicate ((l0.length:Int):Int).toNat z34):=⟨_,rfl⟩
   replace H:(cQ.l0 k l0 b1X 0)=some r:=by first|(rw [JZ];with_reducible exact H)|(have eF:=(Option.bind_some _ _).symm.trans H;rw [JZ];with_reducible exact eF)|(have eF:=(Option.bind_some _ _).symm.trans H;with_reducible exact eF)|with_reducible exact H|(rw [JZ];exact H)|exact H
   have a6d:=Aside0.mk JZ
   clear JZ
   have H':=Aside0.mk H
   clear H
   go_enter Try.func29,Try.ntmps29
   go_wp2_with (first|((with_reducible refine bn (N:=7) rfl ?_);refine Kd.Py gY _ 34 rfl (N:=7) rfl 33 _ _ rfl (l0.length:Int) rfl rfl Try.underlying33 (.agg #[(.int .i64 0),(.int .i64 0)]) 16 Cv rfl (by decide) (by omega) z34 (ok:=fun _=>True) (gK:=fun _=>True) (xB _ _ _ z34) (fun _ hk=>hk) trivial (of_decide_eq_true (by first|(with_reducible assumption)|assumption)) (Nat.le_trans (Nat.mul_le_mul_right _ (of_decide_eq_true (by first|(with_reducible assumption)|assumption):(l0.length:Int).toNat<=17592186044416)) (by omega)) (Below.refl _ _) (Nat.le_refl _) ?_;intro v327 w4 lJ hb vR nQ;clear vR nQ;(first|rw [<-a6d.out] at lJ|(simp only [Int.reduceToNat] at lJ;rw [<-a6d.out] at lJ));have aA:=Aside0.mk (Kd.ie lJ (ax ay));have aC:=Aside0.mk (ah ay hb);clear HB;have b4n:=aA;have HB:=aC;clear aA aC;clear hb lJ))
   go_loopg [4] k (fun kq v4 w'=>∃(fu:List (dm)) (cL:Int),v4= .int .i64 cL/\Aside0 (cQ.l0 kq l0 fu cL=some r)/\Aside0 (kq<=k)/\Aside0 (Kd.R gY 34 w' w.heap.size (fun _=>True) v327 fu)/\Aside0 (Below w.heap.size w w'))
   case atStart=>exact ⟨(b1X),(0),(by first|rfl|(simp;done)|(simp [*];done)),H',⟨Nat.le_refl _⟩,⟨by (with_reducible repeat (first|apply Kd.ck|apply Kd.cn|apply Kd.cK));exact b4n.out⟩,⟨ay⟩⟩
   case round=>
    clear H'
    try clear c2
    try clear Bf
    try clear Rv
    try clear p2
    try clear c3
    try clear iw
    try clear oz
    obtain ⟨fu,cL,rfl,HA,dX,fy,HB⟩:=hrel
    cases gk with
    |zero=>exact absurd HA.out (by simp [cQ.l0])
    |succ k1=>
     have H:=HA.out
     clear HA
     simp only [cQ.l0] at H
     by_cases c6:cL<(l0.length:Int)
     ·rw [if_pos c6] at H
      have oc:decide (cL<(l0.length:Int))=true:=decide_eq_true c6
      clear c6
      by_cases c7:0<=cL
      ·rw [if_pos c7] at H
       have tH:decide (0<=cL)=true:=decide_eq_true c7
       clear c7
       replace H:=Option.bind_eq_some_iff.mp H
       obtain ⟨⟨Hs,Ht⟩,NQ,H⟩:=H
       replace H:(if cL<(fu.length:Int) then (cQ.l0 k1 l0 (fu.set (cL:Int).toNat (⟨Hs,Ht⟩:dm)) (wrap64 (cL+1))) else (none))=some r:=H
       have A8:=Aside0.mk NQ
       clear NQ
       by_cases c9:cL<(fu.length:Int)
       ·rw [if_pos c9] at H
        have wI:decide (cL<(fu.length:Int))=true:=decide_eq_true c9
        clear c9
        obtain ⟨a3I,Ka⟩:∃y_:List (dm),y_=(fu.set (cL:Int).toNat (⟨Hs,Ht⟩:dm)):=⟨_,rfl⟩
        replace H:(cQ.l0 k1 l0 a3I (wrap64 (cL+1)))=some r:=by first|(rw [Ka];with_reducible exact H)|(have eF:=(Option.bind_some _ _).symm.trans H;rw [Ka];with_reducible exact eF)|(have eF:=(Option.bind_some _ _).symm.trans H;with_reducible exact eF)|with_reducible exact H|(rw [Ka];exact H)|exact H
        have b4o:=Aside0.mk Ka
        clear Ka
        have H':=Aside0.mk H
        clear H
        have a3J:0<=(cL:Int):=of_decide_eq_true (by first|(with_reducible assumption)|assumption)
        have a3K:cL<(l0.length:Int):=of_decide_eq_true (by first|(with_reducible assumption)|assumption)
        obtain ⟨ad329,b8C,MD,ME⟩:=a8D eu.out cL a3J a3K
        cases b8C
        replace MD:=(HB.out.cell (World.block_lt_of_cell? w _ MD)).trans MD
        replace ME:=(HB.out.cell (World.block_lt_of_cell? w _ ME)).trans ME
        replace a3J:=eq_true a3J
        replace a3K:=eq_true a3K
        go_wp2_with (first|((with_reducible refine aV (f:=30) rfl ?_);refine bH (some 20) rfl rfl Try.func30 (by kernel_rfl) rfl #[.agg #[.int .i64 ((tD l0 cL).f0),.int .i64 ((tD l0 cL).f1)]] rfl (by (try simp only [List.map_toArray,List.map_cons,List.map_nil]);first|done|rfl|(simp only [List.length_drop,List.length_take];rfl)) ?_;(with_reducible refine (jF.calls ((tD l0 cL).f0) ((tD l0 cL).f1) Hs Ht _ A8.out).mono ?_);rintro e kV ⟨rfl,hb⟩;refine ⟨_,rfl,?_⟩;have aA:=Aside0.mk (Kd.ig (by (with_reducible repeat (first|apply Kd.ck|apply Kd.cn|apply Kd.cK));exact fy.out) hb);have aC:=Aside0.mk (ah ay hb);clear fy;clear HB;have fy:=aA;have HB:=aC;clear aA aC;(try clear hb);(try clear hb2);(try clear hk);(try clear hi);have Ry:0<=(cL:Int):=of_decide_eq_true (by first|(with_reducible assumption)|assumption);have Rz:(cL:Int)<((fu.length:Int):Int):=of_decide_eq_true (by first|(with_reducible assumption)|assumption);obtain ⟨rO,RA,RB,RD,a2R,b7L,RF⟩:=Kd.Hx fy.out (by omega);(first|cases RB|(injection RB with tP Rw Rx;(first|subst tP|(injection tP with tP;subst tP));subst Rx;clear Rw));have WT:=Aside0.mk RD;have b7M:=Aside0.mk RF;clear RD a2R RF;obtain ⟨b7N,WU,RG,Es,Et⟩:=Kd.Hy fy.out z34 (cL:Int) Ry Rz;obtain rfl:=Cw RG;have a0f:kV.cell? ⟨rO,(cL:Int).toNat*2,none⟩=some (.int .i64 ((aZ fu cL).f0)):=Es 0 _ rfl;have hx10_1:kV.cell? ⟨rO,(cL:Int).toNat*2+1,none⟩=some (.int .i64 ((aZ fu cL).f1)):=Es 1 _ rfl;have a0g:kV.frozen? ⟨rO,(cL:Int).toNat*2,none⟩=false:=Et 0;have hf10_1:kV.frozen? ⟨rO,(cL:Int).toNat*2+1,none⟩=false:=Et 1;clear WU Es Et;(try clear RG);replace Ry:=eq_true Ry;replace Rz:=eq_true Rz;have WV:=Aside0.mk (show Kd.R gY 34 kV w.heap.size (fun _=>True) (.slice (some ⟨rO,0,none⟩) fu.length RA) fu from (by (with_reducible repeat (first|apply Kd.ck|apply Kd.cn|apply Kd.cK));exact fy.out));obtain ⟨b7O,OL,RH,Bl,Eu⟩:=Kd.Hy WV.out z34 (cL:Int) (of_decide_eq_true (by first|(with_reducible assumption)|assumption)) (by have h_:(cL:Int)<((fu.length:Int):Int):=of_decide_eq_true (by first|(with_reducible assumption)|assumption);first|exact h_|(have e_:=(Kd.fh fy.out).1;omega)|simpa using h_);obtain rfl:=Cw RH;have Dj:=Kd.a3T WV.out (cL:Int) (of_decide_eq_true (by first|(with_reducible assumption)|assumption)) (by have h_:(cL:Int)<((fu.length:Int):Int):=of_decide_eq_true (by first|(with_reducible assumption)|assumption);first|exact h_|(have e_:=(Kd.fh fy.out).1;omega)|simpa using h_) (seg:=[.int .i64 Hs,.int .i64 Ht]) (j:=0) OL Bl (show 2<=2 from by decide) (x':=(⟨Hs,Ht⟩:dm)) (xB _ _ _ (⟨Hs,Ht⟩:dm)) (fun _ hk=>hk);have RJ:=Bl 0 _ rfl;(try simp only [show (gY).sz=2 from rfl,Nat.mul_one,Nat.add_zero] at RJ);have RL:=Eu 0;(try simp only [show (gY).sz=2 from rfl,Nat.mul_one,Nat.add_zero] at RL);have b1Y:=Bl 1 _ rfl;(try simp only [show (gY).sz=2 from rfl,Nat.mul_one,Nat.add_zero] at b1Y);have b1Z:=Eu 1;(try simp only [show (gY).sz=2 from rfl,Nat.mul_one,Nat.add_zero] at b1Z);clear OL Bl Eu;(try clear RH))|((with_reducible refine kg (t:=34) (p:=21) rfl ?_);refine uO (t:=34) (p:=21) (v:=?b0D) (w1:=((kV.setCell ⟨rO,(cL:Int).toNat*2,none⟩ (.int .i64 Hs)).setCell ⟨rO,(cL:Int).toNat*2+1,none⟩ (.int .i64 Ht))) ?hg ?ho ?hn ?hr ?_;(case ho=>rfl);(case hg=>rfl);(case hn=>rfl);(case hr=>first|(go_simp;done)|(go_simp;rfl)|((try (obtain ⟨_,_,e_⟩:=Kd.gJ fy.out;rw [e_]));(try (obtain ⟨_,_,e_⟩:=Kd.ri fy.out;rw [e_]));(try (obtain ⟨_,_,e_⟩:=Kd.zy fy.out;rw [e_]));(try (obtain ⟨_,_,e_⟩:=Kd.zz fy.out;rw [e_]));go_simp;first|done|rfl));intro iZ hw;have hg:kV.grownBy iZ (some rO):=(by rw [hw];exact Dj.2);have Di:Kd.R gY 34 iZ w.heap.size (fun _=>True) (.slice (some ⟨rO,0,none⟩) fu.length RA) a3I:=(by rw [hw,b4o.out];exact Dj.1);clear Dj;have aA:=Aside0.mk (Di);have aC:=Aside0.mk ((by rw [hw];exact bR (bR (HB.out) WT.out) WT.out:Below w.heap.size w iZ));clear fy;clear HB;have fy:=aA;have HB:=aC;clear aA aC;clear hg hw Di))
        go_roundg k1
        case measure=>have:=dX.out;omega
        case rel=>exact ⟨(a3I),(wrap64 (cL+1)),(by first|rfl|(simp;done)|(simp [*];done)),H',⟨by have:=dX.out;omega⟩,⟨by (with_reducible repeat (first|apply Kd.ck|apply Kd.cn|apply Kd.cK));exact fy.out⟩,⟨ay⟩⟩
       ·rw [if_neg c9] at H
        exact absurd H (by simp)
      ·rw [if_neg c7] at H
       exact absurd H (by simp)
     ·rw [if_neg c6] at H
      have oc:decide (cL<(l0.length:Int))=false:=decide_eq_false c6
      clear c6
      obtain rfl:=Option.some.inj H
      go_wp2
      go_ret
      exact ⟨_,by first|rfl|(simp [aX,aY]<;>rfl)|(simp [*,aX,aY]<;>rfl),by (with_reducible repeat (first|apply Kd.ck|apply Kd.cn|apply Kd.cK));exact fy.out,ay⟩
  ·rw [if_neg c3] at H
   exact absurd H (by simp)
 ·rw [if_neg c2] at H
  exact absurd H (by simp)
end Go.Proofs.Ytkckdphjhlbdcaa.P
