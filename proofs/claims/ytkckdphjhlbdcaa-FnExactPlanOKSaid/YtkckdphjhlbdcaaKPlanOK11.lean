/-
  Part 11 of the proof of this: The law FnExactPlanOK answers true at every argument.
-/
import Derived.Test.YtkckdphjhlbdcaaKPlanOK1
import Derived.Test.YtkckdphjhlbdcaaKPlanOK2
import Derived.Test.YtkckdphjhlbdcaaKPlanOK7
import Derived.Test.YtkckdphjhlbdcaaKPlanOK10
import Derived.MapKept
import Derived.WideKeyRuns
import Derived.Maps.OwnSet
import Derived.Laws.ByValue
namespace Go.Proofs.Ytkckdphjhlbdcaa.PT
open Go.RowKit Go.Proofs.Ytkckdphjhlbdcaa.P Go.Proofs.YtkckdphjhlbdcaaW.PrintWords Go.Proofs.YtkckdphjhlbdcaaW.PrintLast Go.Proofs.Ytkckdphjhlbdcaa.EvKit
set_option linter.all false
def wM (k:Int) (row:List Int):Bool:=decide (0<row.length)&&(iA (-1) row&&row.all (fun v=>decide (v<k)))
def yg (n i:Nat) (p:Int):Bool:=decide (p= -1∨((i:Int)+1<=p/\p<=(n:Int)- 1))
def tS (k:Int) (au:List (List Int)) (par:List Int) (i:Nat):Bool:=wM k (au.getD i [])&&yg au.length i (par.getD i 0)
def ir (k:Int) (au:List (List Int)) (par:List Int) (nw:Nat):Bool:=decide (au.length<=12/\par.length=au.length/\nw=au.length)&&(List.range au.length).all (tS k au par)
theorem RV:∀(l:List Int) (a k:Int),iA a l=true->0<l.length->(l.all (fun v=>decide (v<k))=true↔l.getD (l.length - 1) 0<k)
 | [],_,_,_,h=>absurd h (Nat.lt_irrefl 0)
 | [v],a,k,h,_=>by simp
 |v::u::r,a,k,h,_=>by
  have h2:=h
  simp only [iA,Bool.and_eq_true,decide_eq_true_eq] at h2
  have h3:iA v (u::r)=true:=by simp only [iA,Bool.and_eq_true,decide_eq_true_eq];exact h2.2
  have ih:=RV (u::r) v k h3 (by simp)
  have e:(v::u::r).getD ((v::u::r).length - 1) 0=(u::r).getD ((u::r).length - 1) 0:=by simp
  rw [e,<-ih]
  simp only [List.all_cons,Bool.and_eq_true,decide_eq_true_eq]
  exact ⟨fun h=>h.2,fun h=>⟨by omega,h⟩⟩
theorem a3r (a b c:Int):eB.f a b c=some (decide (b<=a/\a<=c)):=by
 unfold eB.f
 by_cases h:b<=a
 ·rw [if_pos h];simp [h]
 ·rw [if_neg (by omega)];simp [h]
theorem Dr (a b c:Int) (W:World):Calls Try.prog 34 #[.int .i64 a,.int .i64 b,.int .i64 c] W fun e w'=>e= .returned (.bool (decide (b<=a/\a<=c)))/\aW W w':=eB.calls a b c _ W (a3r a b c)
theorem Tg (A:Option Addr) (c:Nat) (l:List Int) (W:World) (h:Kd.C (Kd.int .i64) W A l.length l) (hc:l.length<=c) (hl:l.length<=1048576):
 Calls Try.prog 53 #[.slice A l.length c] W fun e w'=>e= .returned (.bool (iA (-1) l))/\aW W w':=by
 obtain ⟨k,hk⟩:=Ev.rounds (Gl l (by omega))
 exact dG.calls k A c l _ W h hc hk
theorem Fz {k:Int} {au:List (List Int)} {par:List Int} {nw i:Nat} (hi:i<au.length) (h:tS k au par i=false):ir k au par nw=false:=by
 unfold ir
 rw [Bool.and_eq_false_iff]
 right
 rw [<-Bool.not_eq_true,List.all_eq_true]
 intro hh
 have:=hh i (List.mem_range.2 hi)
 rw [h] at this;cases this
set_option maxHeartbeats 4000000 in
set_option maxRecDepth 100000 in
theorem Th {w:World} {au:List (List Int)} {par home:List Int} {bg:tQ} {A0 A1 A2 A3:Option Addr} {c0 c1 c2 c3:Nat} (n d k:Int) (hP:BX w au par home bg A0 A1 A2 A3 c0 c1 c2 c3) (hrow:∀i,(au.getD i []).length<=1048576):
 Calls Try.prog 32 #[.agg #[.slice A0 au.length c0,.slice A1 par.length c1,.slice A2 home.length c2,.slice A3 bg.length c3,.int .i64 n,.int .i64 d],.int .i64 k] w fun e w'=>e= .returned (.bool (ir k au par bg.length))/\Below w.heap.size w w':=by
 have HP:=Aside0.mk hP
 have qg:=Aside0.mk hrow
 have eN:=Aside0.mk (Below.refl w.heap.size w)
 clear hP hrow
 by_cases hl:au.length<=12/\par.length=au.length/\bg.length=au.length
 case neg=>
  have HE:Aside0 (ir k au par bg.length=false):=⟨by unfold ir;rw [decide_eq_false hl,Bool.false_and]⟩
  by_cases q1:au.length<=12
  ·have q1d:decide ((au.length:Int)>12)=false:=decide_eq_false (by omega)
   have q1n:decide (12<au.length)=false:=decide_eq_false (by omega)
   by_cases q2:par.length=au.length
   ·have q3:¬bg.length=au.length:=fun h=>hl ⟨q1,q2,h⟩
    have q2d:((par.length:Int) !=(au.length:Int))=false:=by rw [q2];simp
    have q3d:((bg.length:Int) !=(au.length:Int))=true:=by rw [bne_iff_ne];omega
    clear hl
    go_enter Try.func32,Try.ntmps32
    go_wp2
    go_ret
    exact ⟨by rw [HE.out];rfl,aT eN.out _⟩
   ·have q2d:((par.length:Int) !=(au.length:Int))=true:=by rw [bne_iff_ne];omega
    clear hl
    go_enter Try.func32,Try.ntmps32
    go_wp2
    go_ret
    exact ⟨by rw [HE.out];rfl,aT eN.out _⟩
  ·have q1d:decide ((au.length:Int)>12)=true:=decide_eq_true (by omega)
   have q1n:decide (12<au.length)=true:=decide_eq_true (by omega)
   clear hl
   go_enter Try.func32,Try.ntmps32
   go_wp2
   go_ret
   exact ⟨by rw [HE.out];rfl,aT eN.out _⟩
 have HL:=Aside0.mk hl
 have hn:=hl.1
 have q1d:decide ((au.length:Int)>12)=false:=decide_eq_false (by omega)
 have q1n:decide (12<au.length)=false:=decide_eq_false (by omega)
 have q2d:((par.length:Int) !=(au.length:Int))=false:=by rw [hl.2.1];simp
 have q3d:((bg.length:Int) !=(au.length:Int))=false:=by rw [hl.2.2];simp
 clear hl
 go_enter Try.func32,Try.ntmps32
 go_wp2
 have lY:Aside0 ((w.alloc (.cells #[.slice A0 au.length c0,.slice A1 par.length c1,.slice A2 home.length c2,.slice A3 bg.length c3,.int .i64 n,.int .i64 d] 36)).heap[w.heap.size]? =some (.cells #[.slice A0 au.length c0,.slice A1 par.length c1,.slice A2 home.length c2,.slice A3 bg.length c3,.int .i64 n,.int .i64 d] 36 (0,0))):=⟨dn w _⟩
 have di:Aside0 (Below w.heap.size w (w.alloc (.cells #[.slice A0 au.length c0,.slice A1 par.length c1,.slice A2 home.length c2,.slice A3 bg.length c3,.int .i64 n,.int .i64 d] 36))):=⟨aT eN.out _⟩
 replace HP:=Aside0.mk (HP.out.below di.out)
 clear eN
 generalize w.alloc (.cells #[.slice A0 au.length c0,.slice A1 par.length c1,.slice A2 home.length c2,.slice A3 bg.length c3,.int .i64 n,.int .i64 d] 36)=w1 at*
 go_loopw [32] (fun iv wr=>∃i:Nat,iv= .int .i64 (i:Int)/\i<=au.length/\Aside0 (∀j,j<i->tS k au par j=true)/\Aside0 (Below w1.heap.size w1 wr)) (fun iv _=>au.length -(intOf iv).toNat)
 case atStart=>exact ⟨0,rfl,by omega,⟨fun j hj=>by omega⟩,⟨by repeat (first|exact Below.refl _ _|apply aI)⟩⟩
 case round=>
  obtain ⟨i,rfl,hi,HA,HB⟩:=hrel
  by_cases hlt:i<au.length
  ·obtain ⟨ad,Ai,ci,e,hx,hlx,kA⟩:=mY HP.out.mI hlt
   obtain ⟨RX,e1,hp⟩:=pQ HP.out.wL (show i<par.length by have:=HL.out.2.1;omega)
   cases e;cases e1
   obtain ⟨hz0,hz1,hz2,hz3⟩:=RU.of (aj lY.out HB.out)
   replace hx:=(HB.out.cell (World.block_lt_of_cell? w1 _ hx)).trans hx
   replace hp:=(HB.out.cell (World.block_lt_of_cell? w1 _ hp)).trans hp
   have HI:=Aside0.mk hlt
   have oK:=Aside0.mk (Kd.bp kA HB.out)
   have gb:=Aside0.mk (fun W (hW:Below wr.heap.size wr W)=>Tg Ai ci (au.getD i []) W (Kd.bp oK.out hW) hlx (qg.out i))
   have jZ:=Aside0.mk (fun W=>Dr (par.getD i 0) ((i:Int)+1) ((au.length:Int)- 1) W)
   have qQ:Aside0 (Below wr.heap.size wr wr):=⟨Below.refl _ _⟩
   have NI:Aside0 ((au.getD i []).length<=1048576):=⟨qg.out i⟩
   have hpl:(i:Int)<(par.length:Int):=by have:=HL.out.2.1;omega
   have fE:Aside0 (wrap64 ((i:Int)+1)=((i+1:Nat):Int)):=⟨dQ (by omega)⟩
   have kB:Aside0 (tS k au par i=(wM k (au.getD i [])&&yg au.length i (par.getD i 0))):=⟨rfl⟩
   have gp:Aside0 (tS k au par i=false->ir k au par bg.length=false):=⟨fun h=>Fz hlt h⟩
   have g0:(0:Int)<=(i:Int):=by omega
   have g1:(i:Int)<(au.length:Int):=by omega
   have oB:decide ((i:Int)<(au.length:Int))=true:=decide_eq_true g1
   have mW:decide (i<au.length)=true:=decide_eq_true hlt
   clear hlx kA hi hlt
   generalize au.getD i []=row at*
   generalize par.getD i 0=p at*
   by_cases r0:row.length=0
   ·have HE:Aside0 (ir k au par bg.length=false):=⟨gp.out (by rw [kB.out];unfold wM;rw [decide_eq_false (by omega),Bool.false_and,Bool.false_and])⟩
    have RY:((row.length:Int)==0)=true:=by rw [beq_iff_eq];omega
    clear gp kB gb jZ HA oK
    go_wp2
    go_ret
    exact ⟨by rw [HE.out];rfl,ah di.out HB.out⟩
   obtain ⟨m,hm⟩:∃m,row.length=m+1:=⟨row.length - 1,by omega⟩
   have RY:(((m+1:Nat):Int)==0)=false:=by rw [beq_eq_false_iff_ne];omega
   have r0e:(((m:Nat):Int)+1==0)=false:=by rw [beq_eq_false_iff_ne];omega
   obtain ⟨Jc,e2,hlst⟩:=pQ oK.out (show m<row.length by omega)
   cases e2
   have Xe:Aside0 (iA (-1) row=true->(row.all (fun v=>decide (v<k))=true↔row.getD m 0<k)):=⟨fun h=>by have:=RV row (-1) k h (by omega);rw [hm] at this;exact this⟩
   have LS:Aside0 (decide (0<row.length)=true):=⟨decide_eq_true (by omega)⟩
   have hm6:m<=1048576:=by have:=NI.out;omega
   rw [hm] at hx gb
   clear r0 oK
   cases ha:iA (-1) row with
   |false=>
    have HE:Aside0 (ir k au par bg.length=false):=⟨gp.out (by rw [kB.out];unfold wM;rw [ha,Bool.false_and,Bool.and_false,Bool.false_and])⟩
    rw [ha] at gb
    clear gp kB jZ HA Xe LS ha hm
    go_wp2_with (first|(go_at_call 53;(with_reducible refine (gb.out _ qQ.out).mono ?_);rintro e w' ⟨rfl,⟨nd,rfl⟩⟩))
    go_ret
    exact ⟨by rw [HE.out];rfl,ah di.out (bu HB.out _)⟩
   |true=>
    rw [ha] at gb
    have EX:=Aside0.mk (Xe.out ha)
    by_cases hlk:row.getD m 0<k
    ·have uG:Aside0 (wM k row=true):=⟨by unfold wM;rw [LS.out,ha,EX.out.2 hlk];rfl⟩
     have b7X:decide (row.getD m 0>=k)=false:=decide_eq_false (by omega)
     have b7Y:decide (k<=row.getD m 0)=false:=decide_eq_false (by omega)
     clear EX Xe LS ha hm hlk
     generalize row.getD m 0=lst at*
     by_cases pm:p= -1
     ·have sZ:Aside0 (tS k au par i=true):=⟨by rw [kB.out,uG.out];unfold yg;rw [decide_eq_true (.inl pm)];rfl⟩
      have pmd:(p != -1)=false:=by simp [pm]
      clear gp kB jZ uG pm
      go_wp2_with (first|(go_at_call 53;(with_reducible refine (gb.out _ qQ.out).mono ?_);rintro e w' ⟨rfl,⟨nd,rfl⟩⟩))
      go_quiet (fail)
      go_wp2
      go_roundw
      case rel=>exact ⟨i+1,by first|(rw [fE.out];done)|rfl|(simp;done),HI.out,⟨fun j hj=>(Nat.lt_succ_iff_lt_or_eq.1 hj).elim (HA.out j) (fun e=>by rw [e];exact sZ.out)⟩,⟨by repeat (first|exact HB.out|refine bu ?_ _|apply aI)⟩⟩
      case measure=>(try rw [fE.out]);have:=HI.out;simp [intOf];omega
     ·have pmd:(p != -1)=true:=by simp [pm]
      by_cases pw:(i:Int)+1<=p/\p<=(au.length:Int)- 1
      ·have sZ:Aside0 (tS k au par i=true):=⟨by rw [kB.out,uG.out];unfold yg;rw [decide_eq_true (.inr pw)];rfl⟩
       rw [decide_eq_true pw] at jZ
       clear gp kB uG pm pw
       go_wp2_with (first|(go_at_call 53;(with_reducible refine (gb.out _ qQ.out).mono ?_);rintro e w' ⟨rfl,⟨nd,rfl⟩⟩))
       go_quiet (first|(go_at_call 34;(with_reducible refine (jZ.out _).mono ?_);rintro e w' ⟨rfl,⟨nd,rfl⟩⟩;(try first|exact ⟨rfl,_,World.drewN_drewN _ _ _⟩|exact ⟨rfl,_,Eq.trans (World.drewN_drewN _ _ _) (congrArg (World.drewN _) (Nat.add_assoc _ _ _))⟩)))
       go_wp2
       go_roundw
       case rel=>exact ⟨i+1,by first|(rw [fE.out];done)|rfl|(simp;done),HI.out,⟨fun j hj=>(Nat.lt_succ_iff_lt_or_eq.1 hj).elim (HA.out j) (fun e=>by rw [e];exact sZ.out)⟩,⟨by repeat (first|exact HB.out|refine bu ?_ _|apply aI)⟩⟩
       case measure=>(try rw [fE.out]);have:=HI.out;simp [intOf];omega
      ·have HE:Aside0 (ir k au par bg.length=false):=⟨gp.out (by rw [kB.out];unfold yg;rw [decide_eq_false (fun h=>h.elim pm pw),Bool.and_false])⟩
       rw [decide_eq_false pw] at jZ
       clear gp kB uG pm pw HA
       go_wp2_with (first|(go_at_call 53;(with_reducible refine (gb.out _ qQ.out).mono ?_);rintro e w' ⟨rfl,⟨nd,rfl⟩⟩))
       go_quiet (first|(go_at_call 34;(with_reducible refine (jZ.out _).mono ?_);rintro e w' ⟨rfl,⟨nd,rfl⟩⟩;(try first|exact ⟨rfl,_,World.drewN_drewN _ _ _⟩|exact ⟨rfl,_,Eq.trans (World.drewN_drewN _ _ _) (congrArg (World.drewN _) (Nat.add_assoc _ _ _))⟩)))
       go_wp2
       go_ret
       exact ⟨by rw [HE.out];rfl,ah di.out (by repeat (first|exact HB.out|refine bu ?_ _|apply aI))⟩
    ·have HE:Aside0 (ir k au par bg.length=false):=⟨gp.out (by
      have h1:row.all (fun v=>decide (v<k))=false:=Bool.eq_false_iff.2 (fun h=>hlk (EX.out.1 h))
      rw [kB.out];unfold wM;rw [h1,Bool.and_false,Bool.and_false,Bool.false_and])⟩
     have b7X:decide (row.getD m 0>=k)=true:=decide_eq_true (by omega)
     have b7Y:decide (k<=row.getD m 0)=true:=decide_eq_true (by omega)
     clear EX Xe LS ha hm hlk gp kB jZ HA
     generalize row.getD m 0=lst at*
     go_wp2_with (first|(go_at_call 53;(with_reducible refine (gb.out _ qQ.out).mono ?_);rintro e w' ⟨rfl,⟨nd,rfl⟩⟩))
     go_ret
     exact ⟨by rw [HE.out];rfl,ah di.out (bu HB.out _)⟩
  ·have sS:i=au.length:=by omega
   subst sS
   have oB:decide ((au.length:Int)<(au.length:Int))=false:=decide_eq_false (by omega)
   have mW:decide (au.length<au.length)=false:=decide_eq_false (by omega)
   have HE:Aside0 (ir k au par bg.length=true):=⟨by unfold ir;rw [decide_eq_true HL.out,Bool.true_and,List.all_eq_true];exact fun j hj=>HA.out j (List.mem_range.1 hj)⟩
   clear hlt hi HA
   go_wp2
   go_ret
   exact ⟨by rw [HE.out];rfl,ah di.out HB.out⟩
theorem NZ (A:Option Addr) (c:Nat) (l:List Int) (v:Int) (W:World) (h:Kd.C (Kd.int .i64) W A l.length l) (hc:l.length<=c) (hl:l.length<=1048576):
 Calls Try.prog 54 #[.slice A l.length c,.int .i64 v] W fun e w'=>e= .returned (.bool (decide (v∈l)))/\aW W w':=by
 obtain ⟨k,hk⟩:=Ev.rounds (rD l v hl)
 exact dP.calls k A c l v _ W h hc hk
set_option maxHeartbeats 4000000 in
set_option maxRecDepth 100000 in
theorem a0w {w:World} {au:List (List Int)} {par home:List Int} {bg:tQ} {A0 A1 A2 A3:Option Addr} {c0 c1 c2 c3:Nat} (n d v:Int) (hP:BX w au par home bg A0 A1 A2 A3 c0 c1 c2 c3) (hin:Xd au par) (hn:au.length<=12) (hrow:∀i,(au.getD i []).length<=1048576):
 Calls Try.prog 33 #[.agg #[.slice A0 au.length c0,.slice A1 par.length c1,.slice A2 home.length c2,.slice A3 bg.length c3,.int .i64 n,.int .i64 d],.int .i64 v] w fun e w'=>e= .returned (.bool (pR au par v))/\Below w.heap.size w w':=by
 have HP:=Aside0.mk hP
 have ue:=Aside0.mk hin
 have qg:=Aside0.mk hrow
 have eN:=Aside0.mk (Below.refl w.heap.size w)
 clear hP hin hrow
 go_enter Try.func33,Try.ntmps33
 go_wp2
 have lY:Aside0 ((w.alloc (.cells #[.slice A0 au.length c0,.slice A1 par.length c1,.slice A2 home.length c2,.slice A3 bg.length c3,.int .i64 n,.int .i64 d] 36)).heap[w.heap.size]? =some (.cells #[.slice A0 au.length c0,.slice A1 par.length c1,.slice A2 home.length c2,.slice A3 bg.length c3,.int .i64 n,.int .i64 d] 36 (0,0))):=⟨dn w _⟩
 have di:Aside0 (Below w.heap.size w (w.alloc (.cells #[.slice A0 au.length c0,.slice A1 par.length c1,.slice A2 home.length c2,.slice A3 bg.length c3,.int .i64 n,.int .i64 d] 36))):=⟨aT eN.out _⟩
 replace HP:=Aside0.mk (HP.out.below di.out)
 clear eN
 generalize w.alloc (.cells #[.slice A0 au.length c0,.slice A1 par.length c1,.slice A2 home.length c2,.slice A3 bg.length c3,.int .i64 n,.int .i64 d] 36)=w1 at*
 go_loopw [5,11] (fun rv iv wr=>∃i:Nat,iv= .int .i64 (i:Int)/\rv= .int .i64 (jG au par v i:Nat)/\i<=au.length/\Aside0 (Below w1.heap.size w1 wr)) (fun _ iv _=>au.length -(intOf iv).toNat)
 case atStart=>exact ⟨0,rfl,rfl,by omega,⟨by repeat (first|exact Below.refl _ _|apply aI)⟩⟩
 case round=>
  obtain ⟨i,rfl,rfl,hi,HB⟩:=hrel
  by_cases hlt:i<au.length
  ·obtain ⟨ad,Ai,ci,e,hx,hlx,kA⟩:=mY HP.out.mI hlt
   obtain ⟨RX,e1,hp⟩:=pQ HP.out.wL (show i<par.length by have:=ue.out.1;omega)
   cases e;cases e1
   have HF:Aside0 (∀W,Below w1.heap.size w1 W->W.cell? ⟨w.heap.size,0,none⟩=some (.slice (some ad) au.length c0)/\W.cell? ⟨w.heap.size,1,none⟩=some (.slice (some RX) par.length c1)/\W.cell? (ad.add i)=some (.slice Ai (au.getD i []).length ci)/\W.cell? (RX.add i)=some (.int .i64 (par.getD i 0))):=⟨fun W hW=>by
    obtain ⟨h0,h1,_,_⟩:=RU.of (aj lY.out hW)
    exact ⟨h0,h1,(hW.cell (World.block_lt_of_cell? w1 _ hx)).trans hx,(hW.cell (World.block_lt_of_cell? w1 _ hp)).trans hp⟩⟩
   have hz:=HF.out wr HB.out
   have HI:=Aside0.mk hlt
   have gb:=Aside0.mk (fun W (hW:Below w1.heap.size w1 W)=>NZ Ai ci (au.getD i []) v W (Kd.bp kA hW) hlx (qg.out i))
   have hpl:(i:Int)<(par.length:Int):=by have:=ue.out.1;omega
   have fE:Aside0 (wrap64 ((i:Int)+1)=((i+1:Nat):Int)):=⟨dQ (by omega)⟩
   have lS:Aside0 (wrap64 ((jG au par v i:Nat)+1)=((jG au par v i+1:Nat):Int)):=⟨dQ (by have:=UZ au par v i;omega)⟩
   have HT:Aside0 (jG au par v (i+1)=if Dq au par v i=true then jG au par v i+1 else jG au par v i):=⟨NY _ _ _ _⟩
   have vZ:Aside0 (Dq au par v i=(decide (v∈au.getD i [])&&(decide (par.getD i 0<0)|| !decide (v∈au.getD (par.getD i 0).toNat [])))):=⟨rfl⟩
   have Bu:Aside0 (par.getD i 0<0∨(par.getD i 0).toNat<au.length):=⟨ue.out.2 i hlt⟩
   have g0:(0:Int)<=(i:Int):=by omega
   have g1:(i:Int)<(au.length:Int):=by omega
   have oB:decide ((i:Int)<(au.length:Int))=true:=decide_eq_true g1
   have mW:decide (i<au.length)=true:=decide_eq_true hlt
   clear hx hp hlx kA hi hlt
   generalize au.getD i []=row at*
   generalize par.getD i 0=p at*
   generalize decide (v∈row)=b1 at*
   generalize jG au par v i=r at*
   obtain ⟨hz0,hz1,hz2,hz3⟩:=hz
   cases b1 with
   |false=>
    have qH:Aside0 (jG au par v (i+1)=r):=⟨by rw [HT.out,vZ.out];rfl⟩
    clear HT vZ Bu
    go_wp2
    go_quiet (first|(go_at_call 54;(with_reducible refine (gb.out _ (by repeat (first|exact HB.out|refine bu ?_ _|apply aI))).mono ?_);rintro e w' ⟨rfl,⟨nd,rfl⟩⟩;(try first|exact ⟨rfl,_,World.drewN_drewN _ _ _⟩|exact ⟨rfl,_,Eq.trans (World.drewN_drewN _ _ _) (congrArg (World.drewN _) (Nat.add_assoc _ _ _))⟩)))
    go_wp2
    go_roundw
    case rel=>exact ⟨i+1,by first|(rw [fE.out];done)|rfl|(simp;done),by rw [qH.out],HI.out,⟨by repeat (first|exact HB.out|refine bu ?_ _|apply aI)⟩⟩
    case measure=>(try rw [fE.out]);have:=HI.out;simp [intOf];omega
   |true=>
    by_cases p0:p<0
    ·have qH:Aside0 (jG au par v (i+1)=r+1):=⟨by rw [HT.out,vZ.out,decide_eq_true p0];rfl⟩
     have RZ:decide (p<0)=true:=decide_eq_true p0
     clear HT vZ Bu
     go_wp2
     go_quiet (first|(go_at_call 54;(with_reducible refine (gb.out _ (by repeat (first|exact HB.out|refine bu ?_ _|apply aI))).mono ?_);rintro e w' ⟨rfl,⟨nd,rfl⟩⟩;(try first|exact ⟨rfl,_,World.drewN_drewN _ _ _⟩|exact ⟨rfl,_,Eq.trans (World.drewN_drewN _ _ _) (congrArg (World.drewN _) (Nat.add_assoc _ _ _))⟩)))
     go_wp2
     go_roundw
     case rel=>exact ⟨i+1,by first|(rw [fE.out];done)|rfl|(simp;done),by rw [qH.out];first|rfl|(rw [lS.out];done),HI.out,⟨by repeat (first|exact HB.out|refine bu ?_ _|apply aI)⟩⟩
     case measure=>(try rw [fE.out]);have:=HI.out;simp [intOf];omega
    ·have hq:p.toNat<au.length:=Bu.out.resolve_left p0
     obtain ⟨ad',Aq,cq,e,hx,hlx,kA⟩:=mY HP.out.mI hq
     cases e
     have hx3:wr.cell? (ad.add p.toNat)=some (.slice Aq (au.getD p.toNat []).length cq):=(HB.out.cell (World.block_lt_of_cell? w1 _ hx)).trans hx
     have jZ:=Aside0.mk (fun W (hW:Below w1.heap.size w1 W)=>NZ Aq cq (au.getD p.toNat []) v W (Kd.bp kA hW) hlx (qg.out _))
     have RZ:decide (p<0)=false:=decide_eq_false p0
     have p1:0<=p:=by omega
     have p2:p<(au.length:Int):=by omega
     clear hx hlx kA hq Bu HF
     generalize au.getD p.toNat []=GK at*
     generalize decide (v∈GK)=b2 at*
     cases b2 with
     |true=>
      have qH:Aside0 (jG au par v (i+1)=r):=⟨by rw [HT.out,vZ.out,RZ];rfl⟩
      clear HT vZ
      go_wp2
      go_quiet (first|(go_at_call 54;(with_reducible refine (gb.out _ (by repeat (first|exact HB.out|refine bu ?_ _|apply aI))).mono ?_);rintro e w' ⟨rfl,⟨nd,rfl⟩⟩;(try first|exact ⟨rfl,_,World.drewN_drewN _ _ _⟩|exact ⟨rfl,_,Eq.trans (World.drewN_drewN _ _ _) (congrArg (World.drewN _) (Nat.add_assoc _ _ _))⟩))|(go_at_call 54;(with_reducible refine (jZ.out _ (by repeat (first|exact HB.out|refine bu ?_ _|apply aI))).mono ?_);rintro e w' ⟨rfl,⟨nd,rfl⟩⟩;(try first|exact ⟨rfl,_,World.drewN_drewN _ _ _⟩|exact ⟨rfl,_,Eq.trans (World.drewN_drewN _ _ _) (congrArg (World.drewN _) (Nat.add_assoc _ _ _))⟩)))
      go_wp2
      go_roundw
      case rel=>exact ⟨i+1,by first|(rw [fE.out];done)|rfl|(simp;done),by rw [qH.out],HI.out,⟨by repeat (first|exact HB.out|refine bu ?_ _|apply aI)⟩⟩
      case measure=>(try rw [fE.out]);have:=HI.out;simp [intOf];omega
     |false=>
      have qH:Aside0 (jG au par v (i+1)=r+1):=⟨by rw [HT.out,vZ.out,RZ];rfl⟩
      clear HT vZ
      go_wp2
      go_quiet (first|(go_at_call 54;(with_reducible refine (gb.out _ (by repeat (first|exact HB.out|refine bu ?_ _|apply aI))).mono ?_);rintro e w' ⟨rfl,⟨nd,rfl⟩⟩;(try first|exact ⟨rfl,_,World.drewN_drewN _ _ _⟩|exact ⟨rfl,_,Eq.trans (World.drewN_drewN _ _ _) (congrArg (World.drewN _) (Nat.add_assoc _ _ _))⟩))|(go_at_call 54;(with_reducible refine (jZ.out _ (by repeat (first|exact HB.out|refine bu ?_ _|apply aI))).mono ?_);rintro e w' ⟨rfl,⟨nd,rfl⟩⟩;(try first|exact ⟨rfl,_,World.drewN_drewN _ _ _⟩|exact ⟨rfl,_,Eq.trans (World.drewN_drewN _ _ _) (congrArg (World.drewN _) (Nat.add_assoc _ _ _))⟩)))
      go_wp2
      go_roundw
      case rel=>exact ⟨i+1,by first|(rw [fE.out];done)|rfl|(simp;done),by rw [qH.out];first|rfl|(rw [lS.out];done),HI.out,⟨by repeat (first|exact HB.out|refine bu ?_ _|apply aI)⟩⟩
      case measure=>(try rw [fE.out]);have:=HI.out;simp [intOf];omega
  ·have sS:i=au.length:=by omega
   subst sS
   have oB:decide ((au.length:Int)<(au.length:Int))=false:=decide_eq_false (by omega)
   have mW:decide (au.length<au.length)=false:=decide_eq_false (by omega)
   have HE:Aside0 (pR au par v=(((jG au par v au.length:Nat):Int)==1)):=⟨by unfold pR;rw [Bool.eq_iff_iff,decide_eq_true_iff,beq_iff_eq];omega⟩
   clear hlt hi
   go_wp2
   go_ret
   exact ⟨by rw [HE.out];rfl,ah di.out HB.out⟩
end Go.Proofs.Ytkckdphjhlbdcaa.PT
namespace Go.Proofs.Ytkckdphjhlbdcaa.MapKit
open Go.RowKit Go.Proofs.YtkckdphjhlbdcaaW.PrintWords
set_option linter.all false
def at? {κ:Type} [DecidableEq κ] (k:κ):List (κ×Value)->Nat->Option (Nat×Value)
 | [],_=>none
 |p::r,i=>if k=p.1 then some (i,p.2) else at? k r (i+1)
def put {κ:Type} [DecidableEq κ] (k:κ) (v:Value):List (κ×Value)->List (κ×Value)
 | []=>[(k,v)]
 |p::r=>if k=p.1 then (p.1,v)::r else p::put k v r
structure rW {κ:Type} [DecidableEq κ] (P:Program) (kt:TypeId) (enc:κ->Value):Prop where
 check:∀(w:World) (b:Bool) (k:κ),(Instr.checkKey b 10000 kt (enc k)).run P w= .ok () w
 find:∀(w:World) (k:κ) (l:List (κ×Value)) (es:List MapEntry),es.map (fun e=>(e.key,e.val))=l.map (fun p=>(enc p.1,p.2))->(Instr.findKey kt (enc k) es).run P w= .ok (at? k l 0) w
 bits:∀k:κ,Instr.sameBits 10000 (enc k) (enc k)=true
theorem BZ {κ:Type} [DecidableEq κ] {d:TypeDesc} {enc:κ->Value} (hn:∀a b:κ,Instr.sameNow d (enc a) (enc b)=some (decide (a=b))) (k:κ):
 ∀(l:List (κ×Value)) (es:List MapEntry) (i:Nat),es.map (fun e=>(e.key,e.val))=l.map (fun p=>(enc p.1,p.2))->Instr.findNow d (enc k) es i=some (at? k l i)
 | [],es,i,h=>by
   cases es with
   |nil=>rfl
   |cons e r=>simp at h
 |p::l,es,i,h=>by
  cases es with
  |nil=>simp at h
  |cons e r=>
   simp only [List.map_cons,List.cons.injEq,Prod.mk.injEq] at h
   obtain ⟨⟨h1,h2⟩,h3⟩:=h
   simp only [Instr.findNow,h1,hn,at?]
   by_cases hk:k=p.1
   ·simp only [hk,decide_true,if_true,h2]
   ·simp only [hk,decide_false,if_false]
    exact BZ hn k l r (i+1) h3
theorem rW.plain {κ:Type} [DecidableEq κ] {P:Program} {kt:TypeId} {d:TypeDesc} {enc:κ->Value} (hd:P.underlying kt=some d) (hk:∀k,MapKept.IsKey d (enc k)) (hn:∀a b:κ,Instr.sameNow d (enc a) (enc b)=some (decide (a=b)))
 (hb:∀k:κ,Instr.sameBits 10000 (enc k) (enc k)=true):rW P kt enc:=
 ⟨fun _ b k=>MapKept.run_checkKey hd (hk k) b 9999,fun _ k l es h=>MapKept.run_findKey hd (BZ hn k l es 0 h),hb⟩
theorem JA (a b:ByteArray):(a==b)=decide (a=b):=by
 rw [Bool.eq_iff_iff,decide_eq_true_iff]
 obtain ⟨a⟩:=a
 obtain ⟨b⟩:=b
 constructor
 ·intro h
  have:(a==b)=true:=h
  rw [beq_iff_eq] at this;rw [this]
 ·intro h
  have h':a=b:=by injection h
  subst h'
  show (a==a)=true
  exact beq_self_eq_true a
instance lawfulBA:LawfulBEq ByteArray where
 rfl:=by intro a;rw [JA];simp
 eq_of_beq:=by intro a b h;rw [JA] at h;simpa using h
theorem Va (a b:Int):(a==b)=decide (a=b):=by
 rw [Bool.eq_iff_iff];simp
theorem rW.string {P:Program} {kt:TypeId} (hd:P.underlying kt=some .string):rW P kt Value.string:=
 .plain hd (fun _=>trivial) (fun a b=>by simp only [Instr.sameNow,JA]) (fun k=>by simp only [Instr.sameBits,JA,decide_true])
theorem rW.int {P:Program} {kt:TypeId} {q:IntKind} (hd:P.underlying kt=some (.int q)):rW P kt (Value.int q):=
 .plain hd (fun _=>rfl) (fun a b=>by simp only [Instr.sameNow,if_true,Va]) (fun k=>by simp only [Instr.sameBits,Va,decide_true,beq_self_eq_true,Bool.and_self])
def fC {κ:Type} (w:World) (b:Nat) (enc:κ->Value) (l:List (κ×Value)):Prop:=
 ∃es clock,w.heap[b]? =some (.map es clock)/\es.toList.map (fun e=>(e.key,e.val))=l.map (fun p=>(enc p.1,p.2))
theorem Oa {w:World} {b:Nat} {o o':Obj} (hb:w.heap[b]? =some o):w.grownBy {w with heap:=w.heap.setIfInBounds b o'} (some b):=
 ⟨rfl,rfl,rfl,by simp,fun k _ hne=>(MapKept.heap_set hb).2 k (fun e=>hne (by rw [e]))⟩
section
variable {κ:Type} [DecidableEq κ] {P:Program} {w:World} {b:Nat} {t kt e:TypeId} {enc:κ->Value} {l:List (κ×Value)}
theorem fC.lt (h:fC w b enc l):b<w.heap.size:=by
 obtain ⟨es,c,hb,_⟩:=h
 exact (Array.getElem?_eq_some_iff.1 hb).1
theorem fC.made (w:World) (enc:κ->Value):fC (w.alloc (.map #[] 0)) w.heap.size enc []:=⟨#[],0,heap_alloc_new w _,rfl⟩
theorem fC.move {w':World} (h:fC w b enc l) (hb:w'.heap[b]? =w.heap[b]?):fC w' b enc l:=by
 obtain ⟨es,c,h1,h2⟩:=h
 exact ⟨es,c,hb.trans h1,h2⟩
theorem fC.grown {w':World} {row:Option Nat} (h:fC w b enc l) (hg:w.grownBy w' row) (hne:some b≠row):fC w' b enc l:=h.move (hg.block b h.lt hne)
theorem fC.alloc (h:fC w b enc l) (o:Obj):fC (w.alloc o) b enc l:=h.grown (World.grownBy_alloc w o none) (by simp)
theorem fC.drewN (h:fC w b enc l) (n:Nat):fC (w.drewN n) b enc l:=h.move (by rw [World.heap_drewN])
theorem fC.drew (h:fC w b enc l):fC w.drew b enc l:=h.move rfl
theorem fC.set (h:fC w b enc l) {p:Addr} (hne:b≠p.block) (u:Value):fC (w.setCell p u) b enc l:=h.move (Below.heap_setCell w p u b hne)
theorem fC.below {w':World} (h:fC w b enc l) (hb:Below w.heap.size w w'):fC w' b enc l:=h.move (hb.block b h.lt)
theorem FA (k:κ) (v:Value):∀(l:List (κ×Value)) (i:Nat),at? k l i=none->put k v l=l++[(k,v)]
 | [],_,_=>rfl
 |p::r,i,h=>by
  simp only [at?] at h
  by_cases hk:k=p.1
  ·rw [if_pos hk] at h;cases h
  ·rw [if_neg hk] at h
   simp only [put,if_neg hk,FA k v r (i+1) h,List.cons_append]
theorem FB (k:κ) (v:Value):∀(l:List (κ×Value)) (i j:Nat) (u:Value),at? k l i=some (j,u)->∃n,j=i+n/\n<l.length/\(l[n]?).map (·.1)=some k/\put k v l=l.set n (k,v)
 | [],_,_,_,h=>by simp [at?] at h
 |p::r,i,j,u,h=>by
  simp only [at?] at h
  by_cases hk:k=p.1
  ·rw [if_pos hk] at h
   simp only [Option.some.injEq,Prod.mk.injEq] at h
   exact ⟨0,by omega,by simp,by simp [hk],by simp [put,hk]⟩
  ·rw [if_neg hk] at h
   obtain ⟨n,h1,h2,h3,h4⟩:=FB k v r (i+1) j u h
   exact ⟨n+1,by omega,by simp;omega,by simpa using h3,by simp [put,hk,h4]⟩
theorem Xf (K:rW P kt enc) (ht:P.underlying t=some (.map kt e)) (h:fC w b enc l) (k:κ) (v:Value):
 ∃w',(Instr.mapUpdate t (.map (some b)) (enc k) v).run P w= .ok () w'/\fC w' b enc (put k v l)/\w.grownBy w' (some b):=by
 obtain ⟨es,cl,hb,hl⟩:=h
 have hf:=K.find w k l es.toList hl
 have hlen:es.toList.length=l.length:=by have:=congrArg List.length hl;simpa using this
 cases ha:at? k l 0 with
 |none=>
  rw [ha] at hf
  refine ⟨{w with heap:=w.heap.setIfInBounds b (.map (es.push {key:=enc k,val:=v,born:=cl}) (cl+1))},by simp [Instr.mapUpdate,run_underlying ht,MapKept.run_getObj_map hb,K.check w _ k,hf,MapKept.run_setObj_map _ hb,Result.andThen],⟨_,_,(MapKept.heap_set hb).1,?_⟩,?_⟩
  ·rw [FA k v l 0 ha];simp [hl]
  ·exact Oa hb
 |some p=>
  obtain ⟨i,u⟩:=p
  rw [ha] at hf
  obtain ⟨n,h1,h2,h3,h4⟩:=FB k v l 0 i u ha
  have hin:i=n:=by omega
  subst hin
  have hlt:i<es.size:=by rw [<-hlen] at h2;simpa using h2
  have hkey:es[i].key=enc k:=by
   have h5:=congrArg (fun l=>l[i]?) hl
   simp only [List.getElem?_map] at h5
   have h6:es.toList[i]? =some es[i]:=by simp [hlt]
   rw [h6] at h5
   have h7:l[i]? =some l[i]:=List.getElem?_eq_getElem h2
   rw [h7] at h3 h5
   simp only [Option.map_some,Option.some.injEq,Prod.mk.injEq] at h3 h5
   rw [h5.1,h3]
  have hks:((es[i]?).map (·.key)).getD (enc k)=enc k:=by simp [hlt,hkey]
  have hst:(Instr.keyThatStays (enc k) (enc k)).run P w= .ok (enc k) w:=by simp [Instr.keyThatStays,K.bits k]
  refine ⟨{w with heap:=w.heap.setIfInBounds b (.map (es.modify i fun e=> {e with key:=enc k,val:=v}) cl)},by simp only [Instr.mapUpdate,Sem.run_bind,run_underlying ht,MapKept.run_getObj_map hb,K.check w _ k,hf,Result.andThen,hks,hst,MapKept.run_setObj_map _ hb],⟨_,_,(MapKept.heap_set hb).1,?_⟩,?_⟩
  ·rw [h4]
   refine List.ext_getElem? (fun j=>?_)
   have h5:=congrArg (fun l=>l[j]?) hl
   simp only [List.getElem?_map,Array.getElem?_toList] at h5⊢
   simp only [List.getElem?_set,Array.getElem?_modify]
   by_cases hj:i=j
   ·subst hj
    simp [hlt,h2]
   ·simp only [hj,if_false];exact h5
  ·exact Oa hb
theorem a0x {ops:Array Oper} {rest:List Oper} {o:Oper} {a:Act} {Q:Exit->Act->World->Prop} (hg:o.guard=none) (m x v:Operand) (hop:o.op=Op.mapUpdate t m x v)
 (K:rW P kt enc) (ht:P.underlying t=some (.map kt e)) (hm:a.eval m= .map (some b)) (k:κ) (hx:a.eval x=enc k) (u:Value) (hv:a.eval v=u) (h:fC w b enc l)
 (hK:∀w',fC w' b enc (put k u l)->w.grownBy w' (some b)->wpList P ops Q rest (a.put o.dst undef) w'):wpList P ops Q (o::rest) a w:=by
 refine wpList_plain hg fun K' hK'=>?_
 obtain ⟨w',hrun,h1,h2⟩:=Xf K ht h k u
 unfold Oper.wp
 simp only [execOp,hop,hm,hx,hv,Sem.run_bind,hrun,Result.andThen,Sem.run_pure]
 exact hK' _ _ (hK w' h1 h2)
end
def qT {κ:Type} (ns:List κ):List (κ×Value):=ns.map fun n=>(n,Value.bool true)
theorem Vb {κ:Type} [DecidableEq κ] (k:κ):∀(ns:List κ),k ∉ ns->put k (.bool true) (qT ns)=qT (ns++[k])
 | [],_=>rfl
 |n::r,h=>by
  have h1:k≠n:=fun e=>h (by simp [e])
  have h2:=Vb k r (fun e=>h (by simp [e]))
  simp only [qT,List.map_cons,put,if_neg h1,List.cons_append] at h2⊢
  rw [h2]
end Go.Proofs.Ytkckdphjhlbdcaa.MapKit
namespace Go.Proofs.Ytkckdphjhlbdcaa.PT
open Go.RowKit Go.Proofs.Ytkckdphjhlbdcaa.P Go.Proofs.YtkckdphjhlbdcaaW.PrintWords Go.Proofs.YtkckdphjhlbdcaaW.PrintLast Go.Proofs.Ytkckdphjhlbdcaa.EvKit Go.Proofs.Ytkckdphjhlbdcaa.MapKit
set_option linter.all false
def yh (ns:List Int) (v:Int):List Int:=if v∈ns then ns else ns++[v]
def ou (aa:List (List Int)):List Int:=aa.flatten.foldl yh []
def kC (k:Int) (aa:List (List Int)):Bool:=decide (0<=k/\k<=6)&&((decide (aa.length<=7)&&aa.all (iA (-1)))&&(aa.flatten.all (fun v=>decide (v<k))&&decide (((ou aa).length:Int)=k)))
def a3s (k:Int) (aa:List (List Int)):Option Bool:=if aa.all (fun x=>decide (x.length<=1048576))=true then some (kC k aa) else none
theorem Ob (k:Int):∀(ns:List Int),k∈ns->MapKit.put k (.bool true) (qT ns)=qT ns
 | [],h=>by cases h
 |n::r,h=>by
  simp only [qT,List.map_cons,MapKit.put]
  by_cases h1:k=n
  ·rw [if_pos h1]
  ·rw [if_neg h1]
   have:=Ob k r ((List.mem_cons.1 h).resolve_left h1)
   simp only [qT] at this
   rw [this]
theorem a7r (k:Int) (ns:List Int):MapKit.put k (.bool true) (qT ns)=qT (yh ns k):=by
 unfold yh
 by_cases h:k∈ns
 ·rw [if_pos h];exact Ob k ns h
 ·rw [if_neg h];exact Vb k ns h
theorem b1c:rW Try.prog 3 (Value.int .i64):=rW.int Try.underlying3
theorem a3t {W:World} {b:Nat} {ns:List Int} (h:fC W b (Value.int .i64) (qT ns)):∃(es:Array MapEntry) (cl:Nat),W.heap[b]? =some (.map es cl)/\es.size=ns.length:=by
 obtain ⟨es,cl,hb,hl⟩:=h
 refine ⟨es,cl,hb,?_⟩
 have:=congrArg List.length hl
 simpa [qT] using this
set_option maxHeartbeats 4000000 in
set_option maxRecDepth 100000 in
theorem a0y (k:Int) (A:Option Addr) (c:Nat) (aa:List (List Int)) (r:Bool) (w:World) (hr:Kd.C mN w A aa.length aa) (hc:aa.length<=c) (h:a3s k aa=some r):
 Calls Try.prog 31 #[.int .i64 k,.slice A aa.length c] w fun e w'=>e= .returned (.bool r)/\Below w.heap.size w w':=by
 unfold a3s at h
 by_cases hl:aa.all (fun x=>decide (x.length<=1048576))=true
 case neg=>rw [if_neg hl] at h;cases h
 rw [if_pos hl] at h
 obtain rfl:=Option.some.inj h
 have hl2:∀x,x∈aa->x.length<=1048576:=fun x hx=>of_decide_eq_true (List.all_eq_true.1 hl x hx)
 have hw:eB.f k 0 6=some (decide (0<=k/\k<=6)):=by
  unfold eB.f
  by_cases h:0<=k
  ·rw [if_pos (by omega)];simp [h]
  ·rw [if_neg (by omega)];simp [h]
 have HW:=Aside0.mk (fun W=>eB.calls k 0 6 _ W hw)
 have HS:=Aside0.mk (fun W (hB:Below w.heap.size w W)=>Fp A c aa W (Kd.bp hr hB) hc hl2)
 have HR:=Aside0.mk hr
 have eN:=Aside0.mk (Below.refl w.heap.size w)
 have hu:=Try.underlying70
 have hmm:=@run_makeMap Try.prog
 clear hr hl hl2 h hw
 by_cases hk:0<=k/\k<=6
 case neg=>
  have HE:Aside0 (kC k aa=false):=⟨by unfold kC;rw [decide_eq_false hk,Bool.false_and]⟩
  rw [decide_eq_false hk] at HW
  clear HS HR hk
  go_enter Try.func31,Try.ntmps31
  go_wp2_with (first|(go_at_call 34;(with_reducible refine (HW.out _).mono ?_);rintro e w1 ⟨rfl,hb1⟩;have di:=Aside0.mk (dH hb1);clear hb1))
  go_ret
  exact ⟨by rw [HE.out];first|done|rfl,di.out⟩
 rw [decide_eq_true hk] at HW
 by_cases hs:(decide (aa.length<=7)&&aa.all (iA (-1)))=true
 case neg=>
  have hs0:=Bool.eq_false_iff.2 hs
  have HE:Aside0 (kC k aa=false):=⟨by unfold kC;rw [hs0,Bool.false_and,Bool.and_false]⟩
  rw [hs0] at HS
  clear HR hk hs hs0
  go_enter Try.func31,Try.ntmps31
  go_wp2_with (first|(go_at_call 34;(with_reducible refine (HW.out _).mono ?_);rintro e w1 ⟨rfl,hb1⟩;have di:=Aside0.mk (dH hb1);clear hb1)|(go_at_call 52;(with_reducible refine (HS.out _ di.out).mono ?_);rintro e w2 ⟨rfl,hb2⟩;have fQ:=Aside0.mk (ah di.out hb2);clear hb2))
  go_ret
  exact ⟨by rw [HE.out];first|done|rfl,fQ.out⟩
 have HE:Aside0 (kC k aa=(aa.flatten.all (fun v=>decide (v<k))&&decide (((ou aa).length:Int)=k))):=⟨by unfold kC;rw [decide_eq_true hk,hs,Bool.true_and,Bool.true_and]⟩
 rw [hs] at HS
 rw [Bool.and_eq_true,decide_eq_true_eq,List.all_eq_true] at hs
 have HL6:Aside0 (∀x,x∈aa->x.length<=6):=⟨fun x hx=>sR (hs.2 x hx)⟩
 have hlen:aa.length<=7:=hs.1
 clear hk hs
 go_enter Try.func31,Try.ntmps31
 go_wp2_with (first|(go_at_call 34;(with_reducible refine (HW.out _).mono ?_);rintro e w1 ⟨rfl,hb1⟩;have di:=Aside0.mk (dH hb1);clear hb1)|(go_at_call 52;(with_reducible refine (HS.out _ di.out).mono ?_);rintro e w2 ⟨rfl,hb2⟩;have fQ:=Aside0.mk (ah di.out hb2);clear hb2))
 have HG:Aside0 (w.heap.size<=w2.heap.size):=⟨fQ.out.size⟩
 have HM0:Aside0 (fC (w2.alloc (.map #[] 0)) w2.heap.size (Value.int .i64) (qT [])):=⟨by have:=fC.made w2 (Value.int .i64);simpa [qT] using this⟩
 have xT:Aside0 (Below w.heap.size w (w2.alloc (.map #[] 0))):=⟨aT fQ.out _⟩
 clear HW HS di fQ eN
 generalize w2.heap.size=g at*
 generalize w2.alloc (.map #[] 0)=w3 at*
 go_loopw [21] (fun iv wr=>∃i:Nat,iv= .int .i64 (i:Int)/\i<=aa.length/\Aside0 (fC wr g (Value.int .i64) (qT (ou (aa.take i))))/\Aside0 (∀v,v∈(aa.take i).flatten->v<k)/\Aside0 (Below w.heap.size w wr)) (fun iv _=>aa.length -(intOf iv).toNat)
 case atStart=>exact ⟨0,rfl,by omega,HM0,⟨fun v hv=>by simp at hv⟩,xT⟩
 case round=>
  clear HM0 xT
  obtain ⟨i,rfl,hi,HM,HV,HB⟩:=hrel
  by_cases hlt:i<aa.length
  ·obtain ⟨ad,A1,c1,e,hx,hlx,kA⟩:=Ad HR.out i hlt
   cases e
   have hx2:wr.cell? (ad.add i)=some (.slice A1 (aa[i]).length c1):=(HB.out.cell (World.block_lt_of_cell? w _ hx)).trans hx
   have HI:=Aside0.mk hlt
   have fE:Aside0 (wrap64 ((i:Int)+1)=((i+1:Nat):Int)):=⟨dQ (by omega)⟩
   have g0:(0:Int)<=(i:Int):=by omega
   have g1:(i:Int)<(aa.length:Int):=by omega
   have oB:decide ((i:Int)<(aa.length:Int))=true:=decide_eq_true g1
   have mW:decide (i<aa.length)=true:=decide_eq_true hlt
   have oK:=Aside0.mk kA
   have hl6:=HL6.out _ (List.getElem_mem hlt)
   have b7Z:Aside0 (∀v,v∈aa[i]->v∈aa.flatten):=⟨fun v hv=>List.mem_flatten.2 ⟨_,List.getElem_mem hlt,hv⟩⟩
   have HT:Aside0 ((aa.take (i+1)).flatten=(aa.take i).flatten++aa[i]):=⟨by rw [List.take_succ_eq_append_getElem hlt,List.flatten_append];simp⟩
   clear hx kA hi
   generalize aa[i]=row at*
   clear hlt
   go_wp2
   go_loopw [27] (fun jv wj=>∃j:Nat,jv= .int .i64 (j:Int)/\j<=row.length/\Aside0 (fC wj g (Value.int .i64) (qT ((row.take j).foldl yh (ou (aa.take i)))))/\Aside0 (∀v,v∈row.take j->v<k)/\Aside0 (Below w.heap.size w wj)) (fun jv _=>row.length -(intOf jv).toNat)
   case atStart=>exact ⟨0,rfl,by omega,⟨by simpa using HM.out⟩,⟨fun v hv=>by simp at hv⟩,HB⟩
   case round=>
    clear HM HB hx2
    obtain ⟨j,rfl,hj,HMj,HVj,HBj⟩:=hrel
    by_cases hjl:j<row.length
    ·obtain ⟨Jc,e,hy⟩:=pQ oK.out hjl
     rw [<-NX hjl] at hy
     cases e
     replace hy:=(HBj.out.cell (World.block_lt_of_cell? w _ hy)).trans hy
     have HJ:=Aside0.mk hjl
     have rL:Aside0 (wrap64 ((j:Int)+1)=((j+1:Nat):Int)):=⟨dQ (by omega)⟩
     have f0:(0:Int)<=(j:Int):=by omega
     have f1:(j:Int)<(row.length:Int):=by omega
     have f1d:decide ((j:Int)<(row.length:Int))=true:=decide_eq_true f1
     have f1n:decide (j<row.length)=true:=decide_eq_true hjl
     have HMm:=b7Z.out _ (List.getElem_mem hjl)
     have HTj:Aside0 (row.take (j+1)=row.take j++[row[j]]):=⟨List.take_succ_eq_append_getElem hjl⟩
     clear hj
     generalize row[j]=v at*
     clear hjl
     by_cases hvk:v<k
     ·have v1:decide (v>=k)=false:=decide_eq_false (by omega)
      have v2:decide (k<=v)=false:=decide_eq_false (by omega)
      have HVK:=Aside0.mk hvk
      clear hvk
      go_wp2_with (first|(at_mapUpdate;refine a0x rfl _ _ _ rfl b1c Try.underlying70 rfl v rfl (.bool true) rfl (l:=qT ((row.take j).foldl yh (ou (aa.take i)))) ?_ ?_;(case refine_1=>exact HMj.out);intro w4 hm4 hg4))
      go_roundw
      case rel=>
       refine ⟨j+1,by first|(rw [rL.out];done)|rfl|(simp;done),HJ.out,⟨?_⟩,⟨?_⟩,⟨?_⟩⟩
       ·rw [HTj.out,List.foldl_append]
        show fC w4 g _ (qT (yh _ v))
        rw [<-a7r];exact hm4
       ·rw [HTj.out]
        intro u hu
        rcases List.mem_append.1 hu with hu|hu
        ·exact HVj.out u hu
        ·rw [List.mem_singleton.1 hu];exact HVK.out
       ·exact HBj.out.grown hg4 HBj.out.size (fun q hq=>by injection hq with hq;have:=HG.out;omega)
      case measure=>(try rw [rL.out]);have:=HJ.out;simp [intOf];omega
     ·have v1:decide (v>=k)=true:=decide_eq_true (by omega)
      have v2:decide (k<=v)=true:=decide_eq_true (by omega)
      have HF:Aside0 (kC k aa=false):=⟨by
       rw [HE.out,Bool.eq_false_iff]
       intro hh
       rw [Bool.and_eq_true,List.all_eq_true] at hh
       exact hvk (of_decide_eq_true (hh.1 v HMm))⟩
      clear hvk HE HMm
      go_wp2
      go_ret
      exact ⟨by rw [HF.out];first|done|rfl,HBj.out⟩
    ·have hjn:j=row.length:=by omega
     subst hjn
     rw [List.take_length] at HMj HVj
     have f1d:decide ((row.length:Int)<(row.length:Int))=false:=decide_eq_false (by omega)
     have f1n:decide (row.length<row.length)=false:=decide_eq_false (by omega)
     clear hjl hj
     go_wp2
     go_roundw
     case rel=>
      refine ⟨i+1,by first|(rw [fE.out];done)|rfl|(simp;done),HI.out,⟨?_⟩,⟨?_⟩,HBj⟩
      ·unfold ou
       rw [HT.out,List.foldl_append]
       exact HMj.out
      ·rw [HT.out]
       intro u hu
       rcases List.mem_append.1 hu with hu|hu
       ·exact HV.out u hu
       ·exact HVj.out u hu
     case measure=>(try rw [fE.out]);have:=HI.out;simp [intOf];omega
  ·have hin:i=aa.length:=by omega
   subst hin
   rw [List.take_length] at HM HV
   obtain ⟨es,cl,hes,hsz⟩:=a3t HM.out
   have oB:decide ((aa.length:Int)<(aa.length:Int))=false:=decide_eq_false (by omega)
   have mW:decide (aa.length<aa.length)=false:=decide_eq_false (by omega)
   have HF:Aside0 (kC k aa=decide ((es.size:Int)=k)):=⟨by
    rw [HE.out,hsz,List.all_eq_true.2 (fun v hv=>decide_eq_true (HV.out v hv)),Bool.true_and]⟩
   have hrl:(Builtin.len_ #[70] 3 #[.map (some g)]).run Try.prog wr= .ok (.int .i64 (es.size:Int)) wr:=run_len_map (P:=Try.prog) wr 70 3 g es cl (by simp [Program.mapKeyOf,Program.mapElemOf,hu]) hes
   clear hlt hi HM HV HE hsz
   go_wp2
   go_ret
   exact ⟨by rw [HF.out];first|done|rfl|simp [goInt],HB.out⟩
end Go.Proofs.Ytkckdphjhlbdcaa.PT
namespace Go.Proofs.Ytkckdphjhlbdcaa.PT
open Go.RowKit Go.Proofs.Ytkckdphjhlbdcaa.P Go.Proofs.YtkckdphjhlbdcaaW.PrintWords Go.Proofs.YtkckdphjhlbdcaaW.PrintLast Go.Proofs.Ytkckdphjhlbdcaa.EvKit
set_option linter.all false
def pS (au:List (List Int)) (e:List Int) (h:Int):Bool:=if e.length=0 then decide (h= -1) else decide (0<=h/\h<=(au.length:Int)- 1)&&e.all (fun v=>decide (v∈au.getD h.toNat []))
section
variable (k:Int) (aa au:List (List Int)) (par home:List Int) (bg:tQ) (n d:Int) (wq:Nat->Int×Int) (m:Int×Int)
def Ds:Bool:=(List.range k.toNat).all (fun v=>pR au par (v:Int))
def Dt:Bool:=(List.range aa.length).all (fun i=>pS au (aa.getD i []) (home.getD i 0))
def qU (i:Nat):Bool:=(wq i).1==(aZ bg (i:Int)).f0&&(wq i).2==(aZ bg (i:Int)).f1
def JB:Bool:=(List.range au.length).all (qU bg wq)
def eO:Bool:=kC k aa&&ir k au par bg.length&&decide (home.length=aa.length)&&Ds k au par&&Dt aa au home&&JB au bg wq&&(n==m.1&&d==m.2)
end
section
variable {k:Int} {aa au:List (List Int)} {par home:List Int} {bg:tQ} {n d:Int} {wq:Nat->Int×Int} {m:Int×Int}
theorem Vc (h:kC k aa=false):eO k aa au par home bg n d wq m=false:=by unfold eO;rw [h];rfl
theorem Av (h:ir k au par bg.length=false):eO k aa au par home bg n d wq m=false:=by unfold eO;rw [h];simp
theorem Vd (h:¬home.length=aa.length):eO k aa au par home bg n d wq m=false:=by unfold eO;rw [decide_eq_false h];simp
theorem Ve {v:Nat} (hv:v<k.toNat) (h:pR au par (v:Int)=false):eO k aa au par home bg n d wq m=false:=by
 have:Ds k au par=false:=by
  unfold Ds;rw [<-Bool.not_eq_true,List.all_eq_true];intro hh
  have:=hh v (List.mem_range.2 hv);rw [h] at this;cases this
 unfold eO;rw [this];simp
theorem Vf {i:Nat} (hi:i<aa.length) (h:pS au (aa.getD i []) (home.getD i 0)=false):eO k aa au par home bg n d wq m=false:=by
 have:Dt aa au home=false:=by
  unfold Dt;rw [<-Bool.not_eq_true,List.all_eq_true];intro hh
  have:=hh i (List.mem_range.2 hi);rw [h] at this;cases this
 unfold eO;rw [this];simp
theorem Vg {i:Nat} (hi:i<au.length) (h:qU bg wq i=false):eO k aa au par home bg n d wq m=false:=by
 have:JB au bg wq=false:=by
  unfold JB;rw [<-Bool.not_eq_true,List.all_eq_true];intro hh
  have:=hh i (List.mem_range.2 hi);rw [h] at this;cases this
 unfold eO;rw [this];simp
theorem a0A (h1:kC k aa=true) (h2:ir k au par bg.length=true) (h3:home.length=aa.length) (h4:∀v,v<k.toNat->pR au par (v:Int)=true) (h5:∀i,i<aa.length->pS au (aa.getD i []) (home.getD i 0)=true) (h6:∀i,i<au.length->qU bg wq i=true):
 eO k aa au par home bg n d wq m=(n==m.1&&d==m.2):=by
 have e4:Ds k au par=true:=by unfold Ds;exact List.all_eq_true.2 (fun v hv=>h4 v (List.mem_range.1 hv))
 have e5:Dt aa au home=true:=by unfold Dt;exact List.all_eq_true.2 (fun v hv=>h5 v (List.mem_range.1 hv))
 have e6:JB au bg wq=true:=by unfold JB;exact List.all_eq_true.2 (fun v hv=>h6 v (List.mem_range.1 hv))
 unfold eO;rw [h1,h2,decide_eq_true h3,e4,e5,e6];simp
theorem Xg (h:kC k aa=true):∃K:Nat,k=(K:Int)/\K<=6:=by
 unfold kC at h
 rw [Bool.and_eq_true,decide_eq_true_eq] at h
 exact ⟨k.toNat,by omega,by omega⟩
theorem JC (h:kC k aa=true):aa.length<=7/\aa.all (iA (-1))=true:=by
 unfold kC at h
 simp only [Bool.and_eq_true,decide_eq_true_eq] at h
 exact h.2.1
theorem Ay (h:ir k au par bg.length=true):au.length<=12/\par.length=au.length/\bg.length=au.length:=by
 unfold ir at h
 rw [Bool.and_eq_true,decide_eq_true_eq] at h
 exact h.1
theorem Vh (h:ir k au par bg.length=true) {i:Nat} (hi:i<au.length):wM k (au.getD i [])=true/\yg au.length i (par.getD i 0)=true:=by
 unfold ir at h
 rw [Bool.and_eq_true,List.all_eq_true] at h
 have:=h.2 i (List.mem_range.2 hi)
 unfold tS at this
 rwa [Bool.and_eq_true] at this
theorem Sa (h:ir k au par bg.length=true):Xd au par:=⟨(Ay h).2.1,fun i hi=>by
 have:=(Vh h hi).2
 unfold yg at this
 rw [decide_eq_true_eq] at this
 omega⟩
end
theorem kP {W:World} {g:Nat} {v0 v1 v2 v3 v4 v5:Value} {t:TypeId} (h:W.heap[g]? =some (.cells #[v0,v1,v2,v3,v4,v5] t (0,0))):
 W.cell? ⟨g,0,none⟩=some v0/\W.cell? ⟨g,1,none⟩=some v1/\W.cell? ⟨g,2,none⟩=some v2/\W.cell? ⟨g,3,none⟩=some v3/\W.cell? ⟨g,4,none⟩=some v4/\W.cell? ⟨g,5,none⟩=some v5:=
 ⟨(ag h 0).trans rfl,(ag h 1).trans rfl,(ag h 2).trans rfl,(ag h 3).trans rfl,(ag h 4).trans rfl,(ag h 5).trans rfl⟩
theorem GL {W:World} {A:Option Addr} {l:tQ} {i:Nat} (h:Kd.C gY W A l.length l) (hi:i<l.length):∃ad:Addr,A=some ad/\W.cell? (ad.add (i*2))=some (.int .i64 (aZ l (i:Int)).f0)/\W.cell? ⟨(ad.add (i*2)).block,(ad.add (i*2)).off+1,none⟩=some (.int .i64 (aZ l (i:Int)).f1):=by
 obtain ⟨ad,e,h0,h1⟩:=kj h (i:Int) (by omega) (by omega)
 rw [Int.toNat_natCast] at h0 h1
 exact ⟨ad,e,h0,h1⟩
end Go.Proofs.Ytkckdphjhlbdcaa.PT
namespace Go.Proofs.Ytkckdphjhlbdcaa.P
open Go.RowKit Go.Proofs.YtkckdphjhlbdcaaW.PrintWords Go.Proofs.YtkckdphjhlbdcaaW.PrintLast Go.Proofs.YtkckdphjhlbdcaaW.PrintMore
attribute [local go_sem] max2_int min2_int max_two min_two max_three min_three max_four min_four
set_option linter.all false
mutual
def aQ.j0:Nat->Int->List (List Int)->Bool->Option (Bool)
 |0,_,_,_=>none
 |k+1,x0,x1,x18=>if x18=true then (some false) else (aQ.l0 k x0 x1 x1 (x1.length:Int) 0)
def aQ.l0:Nat->Int->List (List Int)->List (List Int)->Int->Int->Option (Bool)
 |0,_,_,_,_,_=>none
 |k+1,x0,x1,x19,x20,x21=>if x21<x20 then (if 0<=x21 then (if x21<(x19.length:Int) then ((bZ.f k (cZ x19 x21) x0).bind fun t114=>(if t114=true then (aQ.l0 k x0 x1 x19 x20 (wrap64 (x21+1))) else (some false))) else (none)) else (none)) else (aQ.l1 k x0 x1 0)
def aQ.l1:Nat->Int->List (List Int)->Int->Option (Bool)
 |0,_,_,_=>none
 |k+1,x0,x1,x7=>if x7<x0 then (aQ.l2 k x0 x1 x7 false x1 (x1.length:Int) 0) else (some true)
def aQ.l2:Nat->Int->List (List Int)->Int->Bool->List (List Int)->Int->Int->Option (Bool)
 |0,_,_,_,_,_,_,_=>none
 |k+1,x0,x1,x7,x8,Ca,FC,ug=>if ug<FC then (if 0<=ug then (if ug<(Ca.length:Int) then (if x8=true then (aQ.l2 k x0 x1 x7 true Ca FC (wrap64 (ug+1))) else ((bU.f k (cZ Ca ug) x7).bind fun t116=>(aQ.l2 k x0 x1 x7 t116 Ca FC (wrap64 (ug+1))))) else (none)) else (none)) else (if x8=true then (aQ.l1 k x0 x1 (wrap64 (x7+1))) else (some false))
end
def aQ.f (k:Nat) (a0:Int) (l1:List (List Int)):Option (Bool):=(fH.f a0 0 6).bind fun t112=>(if t112=true then (aQ.j0 k a0 l1 (decide ((l1.length:Int)>7))) else (aQ.j0 k a0 l1 true))
theorem aQ.cC:∀k,(∀y0 y1 y2,aR (aQ.j0 k y0 y1 y2) (aQ.j0 (k+1) y0 y1 y2))/\(∀y0 y1 y2 y3 y4,aR (aQ.l0 k y0 y1 y2 y3 y4) (aQ.l0 (k+1) y0 y1 y2 y3 y4))/\(∀y0 y1 y2,aR (aQ.l1 k y0 y1 y2) (aQ.l1 (k+1) y0 y1 y2))/\(∀y0 y1 y2 y3 y4 y5 y6,aR (aQ.l2 k y0 y1 y2 y3 y4 y5 y6) (aQ.l2 (k+1) y0 y1 y2 y3 y4 y5 y6))
 |0=>⟨fun _ _ _ r h=>by simp [aQ.j0] at h,fun _ _ _ _ _ r h=>by simp [aQ.l0] at h,fun _ _ _ r h=>by simp [aQ.l1] at h,fun _ _ _ _ _ _ _ r h=>by simp [aQ.l2] at h⟩
 |k+1=>by
  obtain ⟨dN,ih1,ih2,ih3⟩:=aQ.cC k
  refine ⟨?_,?_,?_,?_⟩
  ·intro y0 y1 y2
   unfold aQ.j0
   repeat' first
   |(with_reducible exact dN _ _ _)
   |(with_reducible exact ih1 _ _ _ _ _)
   |(with_reducible exact ih2 _ _ _)
   |(with_reducible exact ih3 _ _ _ _ _ _ _)
   |(with_reducible exact bU.mono _ _ _)
   |(with_reducible exact bZ.mono _ _ _)
   |(with_reducible exact aR.refl _)
   |(with_reducible exact aR.none _)
   |(with_reducible refine aR.ite ?_ ?_)
   |(with_reducible refine aR.bind ?_ (fun _=>?_))
  ·intro y0 y1 y2 y3 y4
   unfold aQ.l0
   repeat' first
   |(with_reducible exact dN _ _ _)
   |(with_reducible exact ih1 _ _ _ _ _)
   |(with_reducible exact ih2 _ _ _)
   |(with_reducible exact ih3 _ _ _ _ _ _ _)
   |(with_reducible exact bU.mono _ _ _)
   |(with_reducible exact bZ.mono _ _ _)
   |(with_reducible exact aR.refl _)
   |(with_reducible exact aR.none _)
   |(with_reducible refine aR.ite ?_ ?_)
   |(with_reducible refine aR.bind ?_ (fun _=>?_))
  ·intro y0 y1 y2
   unfold aQ.l1
   repeat' first
   |(with_reducible exact dN _ _ _)
   |(with_reducible exact ih1 _ _ _ _ _)
   |(with_reducible exact ih2 _ _ _)
   |(with_reducible exact ih3 _ _ _ _ _ _ _)
   |(with_reducible exact bU.mono _ _ _)
   |(with_reducible exact bZ.mono _ _ _)
   |(with_reducible exact aR.refl _)
   |(with_reducible exact aR.none _)
   |(with_reducible refine aR.ite ?_ ?_)
   |(with_reducible refine aR.bind ?_ (fun _=>?_))
  ·intro y0 y1 y2 y3 y4 y5 y6
   unfold aQ.l2
   repeat' first
   |(with_reducible exact dN _ _ _)
   |(with_reducible exact ih1 _ _ _ _ _)
   |(with_reducible exact ih2 _ _ _)
   |(with_reducible exact ih3 _ _ _ _ _ _ _)
   |(with_reducible exact bU.mono _ _ _)
   |(with_reducible exact bZ.mono _ _ _)
   |(with_reducible exact aR.refl _)
   |(with_reducible exact aR.none _)
   |(with_reducible refine aR.ite ?_ ?_)
   |(with_reducible refine aR.bind ?_ (fun _=>?_))
theorem aQ.mono:∀a0 a1 k,aR (aQ.f k a0 a1) (aQ.f (k+1) a0 a1):=by
 intro a0 a1 k
 obtain ⟨dN,ih1,ih2,ih3⟩:=aQ.cC k
 unfold aQ.f
 repeat' first
  |(with_reducible exact dN _ _ _)
  |(with_reducible exact ih1 _ _ _ _ _)
  |(with_reducible exact ih2 _ _ _)
  |(with_reducible exact ih3 _ _ _ _ _ _ _)
  |(with_reducible exact bU.mono _ _ _)
  |(with_reducible exact bZ.mono _ _ _)
  |(with_reducible exact aR.refl _)
  |(with_reducible exact aR.none _)
  |(with_reducible refine aR.ite ?_ ?_)
  |(with_reducible refine aR.bind ?_ (fun _=>?_))
set_option maxHeartbeats 8000000 in
set_option maxRecDepth 100000 in
theorem aQ.calls (k:Nat) (a0:Int) (A1:Option Addr) (c1:Nat) (l1:List (List Int)) (r:Bool) (w:World) (hr1:Kd.C (Kd.slice 3 (Kd.int .i64)) w A1 l1.length l1) (hc1:l1.length<=c1) (h:aQ.f k a0 l1=some r):
 Calls Try.prog 23 #[.int .i64 a0,.slice A1 l1.length c1] w fun e w'=>e= .returned (.bool r)/\aW w w':=by
 have gA:=Aside0.mk hr1
 have gb:=Aside0.mk hc1
 clear hr1 hc1
 have H:((fH.f a0 0 6).bind fun t112=>(if t112=true then (aQ.j0 k a0 l1 (decide ((l1.length:Int)>7))) else (aQ.j0 k a0 l1 true)))=some r:=h
 clear h
 have BN:=Aside0.mk H
 clear H
 go_enter Try.func23,Try.ntmps23
 go_upto_region 1 with (fail)
 go_cut [18] (fun v18 wc=>∃(kq:Nat) (OM:Bool),v18= .bool OM/\Aside0 (aQ.j0 kq a0 l1 OM=some r)/\Aside0 (kq<=k)/\aW w wc)
 case first=>
  have H:=BN.out
  clear BN
  replace H:=Option.bind_eq_some_iff.mp H
  obtain ⟨t112,vE,H⟩:=H
  replace H:(if t112=true then (aQ.j0 k a0 l1 (decide ((l1.length:Int)>7))) else (aQ.j0 k a0 l1 true))=some r:=H
  have A4:=Aside0.mk vE
  clear vE
  by_cases c5:t112=true
  ·subst c5
   have H1:(aQ.j0 k a0 l1 (decide ((l1.length:Int)>7)))=some r:=by rw [if_pos rfl] at H;exact H
   clear H
   have H:=H1
   clear H1
   have H':=Aside0.mk H
   clear H
   go_wp2_with (first|((with_reducible refine aV (f:=25) rfl ?_);refine bH (some 12) rfl rfl Try.func25 (by kernel_rfl) rfl #[.int .i64 a0,.int .i64 0,.int .i64 6] rfl (by (try simp only [List.map_toArray,List.map_cons,List.map_nil]);first|done|rfl|(simp only [List.length_drop,List.length_take];rfl)) ?_;(with_reducible refine (fH.calls a0 0 6 true _ A4.out).mono ?_);rintro e w' ⟨rfl,⟨nd,rfl⟩⟩;refine ⟨_,rfl,?_⟩))
   go_meet
   case rel=>exact ⟨_,(decide ((l1.length:Int)>7)),(by first|rfl|(simp;done)|(simp [*];done)),H',⟨by first|omega|exact Nat.le_refl _⟩,by repeat (first|exact aW.refl _|apply aW.step)⟩
  ·replace c5:=Bool.eq_false_iff.mpr c5
   subst c5
   have H1:(aQ.j0 k a0 l1 true)=some r:=by rw [if_neg (show ¬(false=true) by decide)] at H;exact H
   clear H
   have H:=H1
   clear H1
   have H':=Aside0.mk H
   clear H
   go_wp2_with (first|((with_reducible refine aV (f:=25) rfl ?_);refine bH (some 12) rfl rfl Try.func25 (by kernel_rfl) rfl #[.int .i64 a0,.int .i64 0,.int .i64 6] rfl (by (try simp only [List.map_toArray,List.map_cons,List.map_nil]);first|done|rfl|(simp only [List.length_drop,List.length_take];rfl)) ?_;(with_reducible refine (fH.calls a0 0 6 false _ A4.out).mono ?_);rintro e w' ⟨rfl,⟨nd,rfl⟩⟩;refine ⟨_,rfl,?_⟩))
   go_meet
   case rel=>exact ⟨_,(true),(by first|rfl|(simp;done)|(simp [*];done)),H',⟨by first|omega|exact Nat.le_refl _⟩,by repeat (first|exact aW.refl _|apply aW.step)⟩
 case rest=>
  clear BN
  try clear c1
  try clear c2
  try clear p2
  try clear c5
  obtain ⟨kq,OM,rfl,HA,Oc,⟨mc2,rfl⟩⟩:=hcut
  cases kq with
  |zero=>exact absurd HA.out (by simp [aQ.j0])
  |succ kj2=>
   have H:=HA.out
   clear HA
   simp only [aQ.j0] at H
   by_cases c6:OM=true
   ·subst c6
    have H1:(some false)=some r:=by rw [if_pos rfl] at H;exact H
    clear H
    have H:=H1
    clear H1
    obtain rfl:=Option.some.inj H
    go_wp2
    go_ret
    exact ⟨by first|rfl|(simp;done)|(simp [*];done),by repeat (first|exact aW.refl _|apply aW.step)⟩
   ·replace c6:=Bool.eq_false_iff.mpr c6
    subst c6
    have H1:(aQ.l0 kj2 a0 l1 l1 (l1.length:Int) 0)=some r:=by rw [if_neg (show ¬(false=true) by decide)] at H;exact H
    clear H
    have H:=H1
    clear H1
    have H':=Aside0.mk H
    clear H
    go_wp2
    go_loopg [21] kj2 (fun kq v21 w'=>∃(kD:Int),v21= .int .i64 kD/\Aside0 (aQ.l0 kq a0 l1 l1 (l1.length:Int) kD=some r)/\Aside0 (kq<=kj2)/\aW w w')
    case atStart=>exact ⟨(0),(by first|rfl|(simp;done)|(simp [*];done)),H',⟨Nat.le_refl _⟩,by repeat (first|exact aW.refl _|apply aW.step)⟩
    case round=>
     clear H'
     try clear c1
     try clear c2
     try clear p2
     try clear c5
     try clear c6
     try clear p2
     obtain ⟨kD,rfl,HA,mq,⟨m2,rfl⟩⟩:=hrel
     cases gk with
     |zero=>exact absurd HA.out (by simp [aQ.l0])
     |succ k2=>
      have H:=HA.out
      clear HA
      simp only [aQ.l0] at H
      by_cases c7:kD<(l1.length:Int)
      ·rw [if_pos c7] at H
       have tH:decide (kD<(l1.length:Int))=true:=decide_eq_true c7
       clear c7
       by_cases c8:0<=kD
       ·rw [if_pos c8] at H
        have qL:decide (0<=kD)=true:=decide_eq_true c8
        clear c8
        by_cases c9:kD<(l1.length:Int)
        ·rw [if_pos c9] at H
         have wI:decide (kD<(l1.length:Int))=true:=decide_eq_true c9
         clear c9
         replace H:=Option.bind_eq_some_iff.mp H
         obtain ⟨t114,b1k,H⟩:=H
         replace H:(if t114=true then (aQ.l0 k2 a0 l1 l1 (l1.length:Int) (wrap64 (kD+1))) else (some false))=some r:=H
         have A10:=Aside0.mk b1k
         clear b1k
         by_cases c11:t114=true
         ·subst c11
          have H1:(aQ.l0 k2 a0 l1 l1 (l1.length:Int) (wrap64 (kD+1)))=some r:=by rw [if_pos rfl] at H;exact H
          clear H
          have H:=H1
          clear H1
          have H':=Aside0.mk H
          clear H
          have Bv:0<=(kD:Int):=of_decide_eq_true (by first|(with_reducible assumption)|assumption)
          have Bw:kD<(l1.length:Int):=of_decide_eq_true (by first|(with_reducible assumption)|assumption)
          obtain ⟨b3E,Sb,Sc,a3u,Mg,Az,AA⟩:=kX gA.out kD Bv Bw
          cases a3u
          have Mh:=Aside0.mk AA
          have Mi:=Aside0.mk Az
          clear AA Az
          replace Bv:=eq_true Bv
          replace Bw:=eq_true Bw
          go_wp2_with (first|((with_reducible refine aV (f:=24) rfl ?_);refine bH (some 27) rfl rfl Try.func24 (by kernel_rfl) rfl #[.slice Sb (cZ l1 kD).length Sc,.int .i64 a0] rfl (by (try simp only [List.map_toArray,List.map_cons,List.map_nil]);first|done|rfl|(simp only [List.length_drop,List.length_take];rfl)) ?_;(with_reducible refine (bZ.calls k2 _ _ (cZ l1 kD) a0 true _ ?bO ?bP A10.out).mono ?_);(case bO=>repeat (first|exact Mh.out|(with_reducible refine Kd.bV ?_ _)|(with_reducible refine Kd.bW ?_ _)|(with_reducible refine Kd.cy ?_)));(case bP=>exact Mi.out);rintro e w' ⟨rfl,⟨nd,rfl⟩⟩;refine ⟨_,rfl,?_⟩))
          go_roundg k2
          case measure=>have:=Oc.out;have:=mq.out;omega
          case rel=>exact ⟨(wrap64 (kD+1)),(by first|rfl|(simp;done)|(simp [*];done)),H',⟨by have:=Oc.out;have:=mq.out;omega⟩,by repeat (first|exact aW.refl _|apply aW.step)⟩
         ·replace c11:=Bool.eq_false_iff.mpr c11
          subst c11
          have H1:(some false)=some r:=by rw [if_neg (show ¬(false=true) by decide)] at H;exact H
          clear H
          have H:=H1
          clear H1
          obtain rfl:=Option.some.inj H
          have Bv:0<=(kD:Int):=of_decide_eq_true (by first|(with_reducible assumption)|assumption)
          have Bw:kD<(l1.length:Int):=of_decide_eq_true (by first|(with_reducible assumption)|assumption)
          obtain ⟨b3E,Sb,Sc,a3u,Mg,Az,AA⟩:=kX gA.out kD Bv Bw
          cases a3u
          have Mh:=Aside0.mk AA
          have Mi:=Aside0.mk Az
          clear AA Az
          replace Bv:=eq_true Bv
          replace Bw:=eq_true Bw
          go_wp2_with (first|((with_reducible refine aV (f:=24) rfl ?_);refine bH (some 27) rfl rfl Try.func24 (by kernel_rfl) rfl #[.slice Sb (cZ l1 kD).length Sc,.int .i64 a0] rfl (by (try simp only [List.map_toArray,List.map_cons,List.map_nil]);first|done|rfl|(simp only [List.length_drop,List.length_take];rfl)) ?_;(with_reducible refine (bZ.calls k2 _ _ (cZ l1 kD) a0 false _ ?bO ?bP A10.out).mono ?_);(case bO=>repeat (first|exact Mh.out|(with_reducible refine Kd.bV ?_ _)|(with_reducible refine Kd.bW ?_ _)|(with_reducible refine Kd.cy ?_)));(case bP=>exact Mi.out);rintro e w' ⟨rfl,⟨nd,rfl⟩⟩;refine ⟨_,rfl,?_⟩))
          go_ret
          exact ⟨by first|rfl|(simp;done)|(simp [*];done),by repeat (first|exact aW.refl _|apply aW.step)⟩
        ·rw [if_neg c9] at H
         exact absurd H (by simp)
       ·rw [if_neg c8] at H
        exact absurd H (by simp)
      ·rw [if_neg c7] at H
       have tH:decide (kD<(l1.length:Int))=false:=decide_eq_false c7
       clear c7
       have H':=Aside0.mk H
       clear H
       go_wp2
       go_loopg [7] k2 (fun kq v7 w'=>∃(tT:Int),v7= .int .i64 tT/\Aside0 (aQ.l1 kq a0 l1 tT=some r)/\Aside0 (kq<=k2)/\aW w w')
       case atStart=>exact ⟨(0),(by first|rfl|(simp;done)|(simp [*];done)),H',⟨Nat.le_refl _⟩,by repeat (first|exact aW.refl _|apply aW.step)⟩
       case round=>
        clear H'
        try clear c1
        try clear p1
        try clear q1
        try clear hx1
        try clear c2
        try clear p2
        try clear c5
        try clear c6
        try clear p6
        try clear c7
        try clear tH
        try clear c8
        try clear qL
        try clear c9
        try clear wI
        try clear c11
        try clear p11
        try clear q11
        try clear b8a
        try clear Mg
        try clear Bv
        try clear p2
        try clear Bw
        obtain ⟨tT,rfl,HA,wY,⟨m3,rfl⟩⟩:=hrel
        cases gk with
        |zero=>exact absurd HA.out (by simp [aQ.l1])
        |succ k3=>
         have H:=HA.out
         clear HA
         simp only [aQ.l1] at H
         by_cases c12:tT<a0
         ·rw [if_pos c12] at H
          have yA:decide (tT<a0)=true:=decide_eq_true c12
          clear c12
          have H':=Aside0.mk H
          clear H
          go_wp2
          go_loopg [8,37] k3 (fun kq v8 v37 w'=>∃(Sd:Bool) (kE:Int),v8= .bool Sd/\v37= .int .i64 kE/\Aside0 (aQ.l2 kq a0 l1 tT Sd l1 (l1.length:Int) kE=some r)/\Aside0 (kq<=k3)/\aW w w')
          case atStart=>exact ⟨(false),(0),(by first|rfl|(simp;done)|(simp [*];done)),(by first|rfl|(simp;done)|(simp [*];done)),H',⟨Nat.le_refl _⟩,by repeat (first|exact aW.refl _|apply aW.step)⟩
          case round=>
           clear H'
           try clear c1
           try clear p1
           try clear q1
           try clear hx1
           try clear c2
           try clear p2
           try clear c5
           try clear c6
           try clear p6
           try clear c7
           try clear tH
           try clear c8
           try clear qL
           try clear c9
           try clear wI
           try clear c11
           try clear p11
           try clear q11
           try clear b8a
           try clear c12
           try clear yA
           try clear Mg
           try clear p1
           try clear p11
           try clear Bv
           try clear p2
           try clear p6
           try clear q1
           try clear q11
           try clear Bw
           obtain ⟨Sd,kE,rfl,rfl,HA,Vi,⟨m4,rfl⟩⟩:=hrel
           cases gk with
           |zero=>exact absurd HA.out (by simp [aQ.l2])
           |succ k4=>
            have H:=HA.out
            clear HA
            simp only [aQ.l2] at H
            by_cases c13:kE<(l1.length:Int)
            ·rw [if_pos c13] at H
             have b3F:decide (kE<(l1.length:Int))=true:=decide_eq_true c13
             clear c13
             by_cases c14:0<=kE
             ·rw [if_pos c14] at H
              have JD:decide (0<=kE)=true:=decide_eq_true c14
              clear c14
              by_cases c15:kE<(l1.length:Int)
              ·rw [if_pos c15] at H
               have OO:decide (kE<(l1.length:Int))=true:=decide_eq_true c15
               clear c15
               by_cases c16:Sd=true
               ·subst c16
                have H1:(aQ.l2 k4 a0 l1 tT true l1 (l1.length:Int) (wrap64 (kE+1)))=some r:=by rw [if_pos rfl] at H;exact H
                clear H
                have H:=H1
                clear H1
                have H':=Aside0.mk H
                clear H
                have GM:0<=(kE:Int):=of_decide_eq_true (by first|(with_reducible assumption)|assumption)
                have GN:kE<(l1.length:Int):=of_decide_eq_true (by first|(with_reducible assumption)|assumption)
                obtain ⟨b3G,b1l,b1m,a3v,a7s,AB,AD⟩:=kX gA.out kE GM GN
                cases a3v
                have Vj:=Aside0.mk AD
                have Vk:=Aside0.mk AB
                clear AD AB
                replace GM:=eq_true GM
                replace GN:=eq_true GN
                go_wp2
                go_roundg k4
                case measure=>have:=Oc.out;have:=mq.out;have:=wY.out;have:=Vi.out;omega
                case rel=>exact ⟨(true),(wrap64 (kE+1)),(by first|rfl|(simp;done)|(simp [*];done)),(by first|rfl|(simp;done)|(simp [*];done)),H',⟨by have:=Oc.out;have:=mq.out;have:=wY.out;have:=Vi.out;omega⟩,by repeat (first|exact aW.refl _|apply aW.step)⟩
               ·replace c16:=Bool.eq_false_iff.mpr c16
                subst c16
                have H1:((bU.f k4 (cZ l1 kE) tT).bind fun t116=>(aQ.l2 k4 a0 l1 tT t116 l1 (l1.length:Int) (wrap64 (kE+1))))=some r:=by rw [if_neg (show ¬(false=true) by decide)] at H;exact H
                clear H
                have H:=H1
                clear H1
                replace H:=Option.bind_eq_some_iff.mp H
                obtain ⟨t116,CV,H⟩:=H
                replace H:(aQ.l2 k4 a0 l1 tT t116 l1 (l1.length:Int) (wrap64 (kE+1)))=some r:=H
                have Fg:=Aside0.mk CV
                clear CV
                have H':=Aside0.mk H
                clear H
                have GM:0<=(kE:Int):=of_decide_eq_true (by first|(with_reducible assumption)|assumption)
                have GN:kE<(l1.length:Int):=of_decide_eq_true (by first|(with_reducible assumption)|assumption)
                obtain ⟨b3G,b1l,b1m,a3v,a7s,AB,AD⟩:=kX gA.out kE GM GN
                cases a3v
                have Vj:=Aside0.mk AD
                have Vk:=Aside0.mk AB
                clear AD AB
                replace GM:=eq_true GM
                replace GN:=eq_true GN
                go_wp2_with (first|(go_at_call 49;(with_reducible refine (bU.calls k4 _ _ (cZ l1 kE) tT t116 _ ?bO ?bP Fg.out).mono ?_);(case bO=>repeat (first|exact Vj.out|(with_reducible refine Kd.bV ?_ _)|(with_reducible refine Kd.bW ?_ _)|(with_reducible refine Kd.cy ?_)));(case bP=>exact Vk.out);rintro e w' ⟨rfl,⟨nd,rfl⟩⟩))
                go_roundg k4
                case measure=>have:=Oc.out;have:=mq.out;have:=wY.out;have:=Vi.out;omega
                case rel=>exact ⟨(t116),(wrap64 (kE+1)),(by first|rfl|(simp;done)|(simp [*];done)),(by first|rfl|(simp;done)|(simp [*];done)),H',⟨by have:=Oc.out;have:=mq.out;have:=wY.out;have:=Vi.out;omega⟩,by repeat (first|exact aW.refl _|apply aW.step)⟩
              ·rw [if_neg c15] at H
               exact absurd H (by simp)
             ·rw [if_neg c14] at H
              exact absurd H (by simp)
            ·rw [if_neg c13] at H
             have b3F:decide (kE<(l1.length:Int))=false:=decide_eq_false c13
             clear c13
             by_cases c18:Sd=true
             ·subst c18
              have H1:(aQ.l1 k4 a0 l1 (wrap64 (tT+1)))=some r:=by rw [if_pos rfl] at H;exact H
              clear H
              have H:=H1
              clear H1
              have H':=Aside0.mk H
              clear H
              go_wp2
              go_roundg k4
              case measure=>have:=Oc.out;have:=mq.out;have:=wY.out;have:=Vi.out;omega
              case rel=>exact ⟨(wrap64 (tT+1)),(by first|rfl|(simp;done)|(simp [*];done)),H',⟨by have:=Oc.out;have:=mq.out;have:=wY.out;have:=Vi.out;omega⟩,by repeat (first|exact aW.refl _|apply aW.step)⟩
             ·replace c18:=Bool.eq_false_iff.mpr c18
              subst c18
              have H1:(some false)=some r:=by rw [if_neg (show ¬(false=true) by decide)] at H;exact H
              clear H
              have H:=H1
              clear H1
              obtain rfl:=Option.some.inj H
              go_wp2
              go_ret
              exact ⟨by first|rfl|(simp;done)|(simp [*];done),by repeat (first|exact aW.refl _|apply aW.step)⟩
         ·rw [if_neg c12] at H
          have yA:decide (tT<a0)=false:=decide_eq_false c12
          clear c12
          obtain rfl:=Option.some.inj H
          go_wp2
          go_ret
          exact ⟨by first|rfl|(simp;done)|(simp [*];done),by repeat (first|exact aW.refl _|apply aW.step)⟩
def bT.l0:Nat->List Int->List Int->Int->Int->Option (Bool)
 |0,_,_,_,_=>none
 |k+1,x1,x7,x8,x9=>if x9<x8 then (if 0<=x9 then (if x9<(x7.length:Int) then ((bU.f k x1 (rd x7 x9)).bind fun t125=>(if t125=true then (bT.l0 k x1 x7 x8 (wrap64 (x9+1))) else (some false))) else (none)) else (none)) else (some true)
def bT.f (k:Nat) (l0:List Int) (l1:List Int):Option (Bool):=bT.l0 k l1 l0 (l0.length:Int) 0
theorem bT.cC:∀k,(∀y0 y1 y2 y3,aR (bT.l0 k y0 y1 y2 y3) (bT.l0 (k+1) y0 y1 y2 y3))
 |0=>fun _ _ _ _ r h=>by simp [bT.l0] at h
 |k+1=>by
  have dN:=bT.cC k
  ·intro y0 y1 y2 y3
   unfold bT.l0
   repeat' first
   |(with_reducible exact dN _ _ _ _)
   |(with_reducible exact bU.mono _ _ _)
   |(with_reducible exact aR.refl _)
   |(with_reducible exact aR.none _)
   |(with_reducible refine aR.ite ?_ ?_)
   |(with_reducible refine aR.bind ?_ (fun _=>?_))
theorem bT.mono:∀a0 a1 k,aR (bT.f k a0 a1) (bT.f (k+1) a0 a1):=by
 intro a0 a1 k
 have dN:=bT.cC k
 unfold bT.f
 repeat' first
  |(with_reducible exact dN _ _ _ _)
  |(with_reducible exact bU.mono _ _ _)
  |(with_reducible exact aR.refl _)
  |(with_reducible exact aR.none _)
  |(with_reducible refine aR.ite ?_ ?_)
  |(with_reducible refine aR.bind ?_ (fun _=>?_))
set_option maxHeartbeats 8000000 in
set_option maxRecDepth 100000 in
theorem bT.calls (k:Nat) (A0:Option Addr) (c0:Nat) (l0:List Int) (A1:Option Addr) (c1:Nat) (l1:List Int) (r:Bool) (w:World) (fl:Kd.C (Kd.int .i64) w A0 l0.length l0) (hc0:l0.length<=c0) (hr1:Kd.C (Kd.int .i64) w A1 l1.length l1) (hc1:l1.length<=c1) (h:bT.f k l0 l1=some r):
 Calls Try.prog 27 #[.slice A0 l0.length c0,.slice A1 l1.length c1] w fun e w'=>e= .returned (.bool r)/\aW w w':=by
 have eu:=Aside0.mk fl
 have kr:=Aside0.mk hc0
 clear fl hc0
 have gA:=Aside0.mk hr1
 have gb:=Aside0.mk hc1
 clear hr1 hc1
 have H:(bT.l0 k l1 l0 (l0.length:Int) 0)=some r:=h
 clear h
 have H':=Aside0.mk H
 clear H
 go_enter Try.func27,Try.ntmps27
 go_wp2
 go_loopg [9] k (fun kq v9 w'=>∃(bE:Int),v9= .int .i64 bE/\Aside0 (bT.l0 kq l1 l0 (l0.length:Int) bE=some r)/\Aside0 (kq<=k)/\aW w w')
 case atStart=>exact ⟨(0),(by first|rfl|(simp;done)|(simp [*];done)),H',⟨Nat.le_refl _⟩,by repeat (first|exact aW.refl _|apply aW.step)⟩
 case round=>
  clear H'
  try clear c1
  try clear c2
  try clear p2
  obtain ⟨bE,rfl,HA,dX,⟨m1,rfl⟩⟩:=hrel
  cases gk with
  |zero=>exact absurd HA.out (by simp [bT.l0])
  |succ k1=>
   have H:=HA.out
   clear HA
   simp only [bT.l0] at H
   by_cases c3:bE<(l0.length:Int)
   ·rw [if_pos c3] at H
    have iw:decide (bE<(l0.length:Int))=true:=decide_eq_true c3
    clear c3
    by_cases c4:0<=bE
    ·rw [if_pos c4] at H
     have mj:decide (0<=bE)=true:=decide_eq_true c4
     clear c4
     by_cases c5:bE<(l0.length:Int)
     ·rw [if_pos c5] at H
      have wF:decide (bE<(l0.length:Int))=true:=decide_eq_true c5
      clear c5
      replace H:=Option.bind_eq_some_iff.mp H
      obtain ⟨t125,sW,H⟩:=H
      replace H:(if t125=true then (bT.l0 k1 l1 l0 (l0.length:Int) (wrap64 (bE+1))) else (some false))=some r:=H
      have A6:=Aside0.mk sW
      clear sW
      by_cases c7:t125=true
      ·subst c7
       have H1:(bT.l0 k1 l1 l0 (l0.length:Int) (wrap64 (bE+1)))=some r:=by rw [if_pos rfl] at H;exact H
       clear H
       have H:=H1
       clear H1
       have H':=Aside0.mk H
       clear H
       have GP:0<=(bE:Int):=of_decide_eq_true (by first|(with_reducible assumption)|assumption)
       have GQ:bE<(l0.length:Int):=of_decide_eq_true (by first|(with_reducible assumption)|assumption)
       obtain ⟨b3H,a3w,a7t⟩:=Kd.gL eu.out bE GP GQ
       cases a3w
       replace GP:=eq_true GP
       replace GQ:=eq_true GQ
       go_wp2_with (first|((with_reducible refine aV (f:=49) rfl ?_);refine bH (some 15) rfl rfl Try.func49 (by kernel_rfl) rfl #[.slice A1 l1.length c1,.int .i64 (rd l0 bE)] rfl (by (try simp only [List.map_toArray,List.map_cons,List.map_nil]);first|done|rfl|(simp only [List.length_drop,List.length_take];rfl)) ?_;(with_reducible refine (bU.calls k1 _ _ l1 (rd l0 bE) true _ ?bO ?bP A6.out).mono ?_);(case bO=>repeat (first|exact gA.out|(with_reducible refine Kd.bV ?_ _)|(with_reducible refine Kd.bW ?_ _)|(with_reducible refine Kd.cy ?_)));(case bP=>exact gb.out);rintro e w' ⟨rfl,⟨nd,rfl⟩⟩;refine ⟨_,rfl,?_⟩))
       go_roundg k1
       case measure=>have:=dX.out;omega
       case rel=>exact ⟨(wrap64 (bE+1)),(by first|rfl|(simp;done)|(simp [*];done)),H',⟨by have:=dX.out;omega⟩,by repeat (first|exact aW.refl _|apply aW.step)⟩
      ·replace c7:=Bool.eq_false_iff.mpr c7
       subst c7
       have H1:(some false)=some r:=by rw [if_neg (show ¬(false=true) by decide)] at H;exact H
       clear H
       have H:=H1
       clear H1
       obtain rfl:=Option.some.inj H
       have GP:0<=(bE:Int):=of_decide_eq_true (by first|(with_reducible assumption)|assumption)
       have GQ:bE<(l0.length:Int):=of_decide_eq_true (by first|(with_reducible assumption)|assumption)
       obtain ⟨b3H,a3w,a7t⟩:=Kd.gL eu.out bE GP GQ
       cases a3w
       replace GP:=eq_true GP
       replace GQ:=eq_true GQ
       go_wp2_with (first|((with_reducible refine aV (f:=49) rfl ?_);refine bH (some 15) rfl rfl Try.func49 (by kernel_rfl) rfl #[.slice A1 l1.length c1,.int .i64 (rd l0 bE)] rfl (by (try simp only [List.map_toArray,List.map_cons,List.map_nil]);first|done|rfl|(simp only [List.length_drop,List.length_take];rfl)) ?_;(with_reducible refine (bU.calls k1 _ _ l1 (rd l0 bE) false _ ?bO ?bP A6.out).mono ?_);(case bO=>repeat (first|exact gA.out|(with_reducible refine Kd.bV ?_ _)|(with_reducible refine Kd.bW ?_ _)|(with_reducible refine Kd.cy ?_)));(case bP=>exact gb.out);rintro e w' ⟨rfl,⟨nd,rfl⟩⟩;refine ⟨_,rfl,?_⟩))
       go_ret
       exact ⟨by first|rfl|(simp;done)|(simp [*];done),by repeat (first|exact aW.refl _|apply aW.step)⟩
     ·rw [if_neg c5] at H
      exact absurd H (by simp)
    ·rw [if_neg c4] at H
     exact absurd H (by simp)
   ·rw [if_neg c3] at H
    have iw:decide (bE<(l0.length:Int))=false:=decide_eq_false c3
    clear c3
    obtain rfl:=Option.some.inj H
    go_wp2
    go_ret
    exact ⟨by first|rfl|(simp;done)|(simp [*];done),by repeat (first|exact aW.refl _|apply aW.step)⟩
end Go.Proofs.Ytkckdphjhlbdcaa.P
namespace Go.Proofs.Ytkckdphjhlbdcaa.PT
open Go.RowKit Go.Proofs.Ytkckdphjhlbdcaa.P Go.Proofs.YtkckdphjhlbdcaaW.PrintWords Go.Proofs.YtkckdphjhlbdcaaW.PrintLast Go.Proofs.Ytkckdphjhlbdcaa.EvKit Go.Proofs.Ytkckdphjhlbdcaa.Lp
set_option linter.all false
def GR (K:Int) (last:Int):List Int->Bool
 | []=>true
 |v::r=>decide (last<v)&&decide (v<K)&&GR K v r
theorem Vl (K:Int) (hK:K<=6):∀(l:List Int) (a:Int),GR K a l=(iA a l&&l.all (fun v=>decide (v<K)))
 | [],_=>rfl
 |v::r,a=>by
  simp only [GR,iA,List.all_cons,Vl K hK r v]
  by_cases h:v<K
  ·rw [decide_eq_true h,decide_eq_true (show v<6 by omega)];simp [Bool.and_assoc]
  ·rw [decide_eq_false h];simp
theorem a7u (K:Int) (hK0:0<=K) (hK:K<=6) (l:List Int) (hl:l.length<=9223372036854775806):∀d i,i+d=l.length-> -1<=before l i->Ev (fun k=>bZ.l0 k l K l (l.length:Int) (i:Int)) (GR K (before l i) (l.drop i)):=by
 intro d
 induction d with
 |zero=>
  intro i hi _
  refine Ev.succ ?_
  simp only [bZ.l0,if_neg (show ¬((i:Int)<(l.length:Int)) by omega)]
  rw [List.drop_of_length_le (by omega)];exact Ev.now _
 |succ d ih=>
  intro i hi hb
  have hlt:i<l.length:=by omega
  refine Ev.succ ?_
  simp only [bZ.l0,if_pos (show ((i:Int)<(l.length:Int)) by omega),if_pos (show (0:Int)<=(i:Int) by omega),qh hlt,dQ (show i<=9223372036854775806 by omega),Db,Option.bind_some,
   show wrap64 (K - 1)=K - 1 from XZ (by omega) (by omega),decide_eq_true_eq]
  rw [ox hlt]
  simp only [GR]
  have hnext:before l (i+1)=l[i]:=by unfold before;simp [List.getD_eq_getElem?_getD,hlt]
  have ih':=ih (i+1) (by omega)
  rw [hnext] at ih'
  by_cases h0:i=0
  ·subst h0
   simp only [show ¬(((0:Nat):Int)>0) by omega,if_false]
   have hb0:before l 0= -1:=rfl
   rw [hb0]
   by_cases h1:0<=l[0]/\l[0]<=K - 1
   ·simp only [show (-1:Int)<l[0] by omega,show l[0]<K by omega,decide_true,Bool.true_and]
    exact Ev.congr (fun _=>if_pos h1) (ih' (by omega))
   ·have:(decide ((-1:Int)<l[0])&&decide (l[0]<K)&&GR K l[0] (l.drop (0+1)))=false:=by
     simp only [Bool.and_eq_false_iff,decide_eq_false_iff_not];left;omega
    rw [this];exact Ev.congr (fun _=>if_neg h1) (Ev.now _)
  ·have hw:wrap64 ((i:Int)- 1)=((i - 1:Nat):Int):=by unfold wrap64;omega
   have hb0:before l i=l[i - 1]:=by unfold before;rw [if_neg h0];simp [List.getD_eq_getElem?_getD,show i - 1<l.length by omega]
   rw [hb0] at hb⊢
   simp only [show ((i:Int)>0) by omega,if_true,hw,show (0:Int)<=((i - 1:Nat):Int) by omega,show (((i - 1:Nat):Int)<(l.length:Int)) by omega,qh (show i - 1<l.length by omega)]
   by_cases h1:0<=l[i]/\l[i]<=K - 1
   ·by_cases h2:l[i]<=l[i - 1]
    ·simp only [if_pos h1,if_pos h2,show ¬(l[i - 1]<l[i]) by omega,decide_false,Bool.false_and];exact Ev.now _
    ·simp only [if_pos h1,if_neg h2,show (l[i - 1]<l[i]) by omega,show l[i]<K by omega,decide_true,Bool.true_and]
     exact ih' (by omega)
   ·simp only [if_neg h1]
    have:(decide (l[i - 1]<l[i])&&decide (l[i]<K)&&GR K l[i] (l.drop (i+1)))=false:=by
     simp only [Bool.and_eq_false_iff,decide_eq_false_iff_not];left;omega
    rw [this];exact Ev.now _
theorem Mj (K:Int) (hK0:0<=K) (hK:K<=6) (l:List Int) (hl:l.length<=9223372036854775806):Ev (fun k=>bZ.f k l K) (iA (-1) l&&l.all (fun v=>decide (v<K))):=by
 unfold bZ.f
 rw [<-Vl K hK]
 have:=a7u K hK0 hK l hl l.length 0 (by omega) (by simp [before])
 simpa [before] using this
theorem Od (a b:List Int) (ha:a.length<=1048576) (hb:b.length<=1048576):Ev (fun k=>bT.f k a b) (a.all (fun v=>decide (v∈b))):=by
 unfold bT.f
 have:=Ev.all a (fun v=>decide (v∈b)) (g:=fun k i=>bT.l0 k b a (a.length:Int) (i:Int)) (R:=true) ?_ ?_ ?_
 ·simpa using this
 ·intro _
  refine Ev.succ ?_
  simp only [bT.l0]
  exact Ev.neg (by omega) (Ev.now _)
 ·intro i hi hp R' ih
  refine Ev.succ ?_
  simp only [bT.l0,qh hi,dQ (show i<=9223372036854775806 by omega)]
  refine Ev.pos (by omega) (Ev.pos (by omega) (Ev.pos (by omega) (Ev.bind (uF b a[i] hb) (Ev.pos hp ih))))
 ·intro i hi hp
  refine Ev.succ ?_
  simp only [bT.l0,qh hi,dQ (show i<=9223372036854775806 by omega)]
  refine Ev.pos (by omega) (Ev.pos (by omega) (Ev.pos (by omega) (Ev.bind (uF b a[i] hb) (Ev.neg (by rw [hp];decide) (Ev.now _)))))
theorem b1n (K:Int) (aa:List (List Int)) (v:Nat) (hv:(v:Int)<6) (hne:aa.length<=7) (hr:∀j,(aa.getD j []).length<=1048576) (R':Bool) (hnext:Ev (fun k=>aQ.l1 k K aa ((v+1:Nat):Int)) R'):
 ∀m j b,j+m=aa.length->Ev (fun k=>aQ.l2 k K aa (v:Int) b aa (aa.length:Int) (j:Int)) (if (b||(aa.drop j).any (fun e=>decide ((v:Int)∈e)))=true then R' else false):=by
 intro m
 induction m with
 |zero=>
  intro j b hj
  have e:j=aa.length:=by omega
  subst e
  refine Ev.succ ?_
  simp only [aQ.l2,List.drop_length,List.any_nil,Bool.or_false,dQ (show v<=9223372036854775806 by omega)]
  refine Ev.neg (by omega) ?_
  cases b with
  |true=>exact Ev.pos rfl hnext
  |false=>exact Ev.neg (by decide) (Ev.now _)
 |succ m ih=>
  intro j b hj
  have hlt:j<aa.length:=by omega
  have hge:aa.getD j []=aa[j]:=by simp [List.getD_eq_getElem?_getD,hlt]
  refine Ev.succ ?_
  simp only [aQ.l2,qR hlt,dQ (show j<=9223372036854775806 by omega)]
  refine Ev.pos (by omega) (Ev.pos (by omega) (Ev.pos (by omega) ?_))
  rw [List.drop_eq_getElem_cons hlt,List.any_cons]
  cases b with
  |true=>
   refine Ev.pos rfl (Ev.to (ih (j+1) true (by omega)) ?_)
   simp
  |false=>
   refine Ev.neg (by decide) (Ev.bind (uF _ _ (hr j)) (Ev.to (ih (j+1) _ (by omega)) ?_))
   rw [hge,Bool.false_or]
theorem b1o (K:Int) (aa:List (List Int)) (v:Nat) (hv:(v:Int)<6) (hne:aa.length<=7) (hr:∀j,(aa.getD j []).length<=1048576) (hp:aa.any (fun e=>decide ((v:Int)∈e))=false):
 Ev (fun k=>aQ.l2 k K aa (v:Int) false aa (aa.length:Int) 0) false:=by
 have key:∀m j,j+m=aa.length->Ev (fun k=>aQ.l2 k K aa (v:Int) false aa (aa.length:Int) (j:Int)) false:=by
  intro m
  induction m with
  |zero=>
   intro j hj
   refine Ev.succ ?_
   simp only [aQ.l2]
   exact Ev.neg (by omega) (Ev.neg (by decide) (Ev.now _))
  |succ m ih=>
   intro j hj
   have hlt:j<aa.length:=by omega
   have hge:aa.getD j []=aa[j]:=by simp [List.getD_eq_getElem?_getD,hlt]
   have hnot:¬(v:Int)∈aa.getD j []:=fun h=>by
    rw [<-Bool.not_eq_true,List.any_eq_true] at hp
    exact hp ⟨aa[j],List.getElem_mem hlt,by rw [<-hge];exact decide_eq_true h⟩
   refine Ev.succ ?_
   simp only [aQ.l2,qR hlt,dQ (show j<=9223372036854775806 by omega)]
   refine Ev.pos (by omega) (Ev.pos (by omega) (Ev.pos (by omega) (Ev.neg (by decide) (Ev.bind (uF _ _ (hr j)) ?_))))
   rw [decide_eq_false hnot]
   exact ih (j+1) (by omega)
 exact key aa.length 0 (by omega)
theorem EA:∀(l:List Int) (a:Int),iA a l=true->∀v,v∈l->a<v
 | [],_,_,v,hv=>by cases hv
 |v::r,a,h,u,hu=>by
  simp only [iA,Bool.and_eq_true,decide_eq_true_eq] at h
  rcases List.mem_cons.1 hu with rfl|hu
  ·exact h.1.1
  ·have:=EA r v h.2 u hu;omega
theorem Sh:∀(l acc:List Int) (v:Int),v∈l.foldl yh acc↔v∈acc∨v∈l
 | [],acc,v=>by simp
 |x::r,acc,v=>by
  rw [List.foldl_cons,Sh r (yh acc x) v]
  unfold yh
  by_cases h:x∈acc
  ·rw [if_pos h];simp only [List.mem_cons]
   constructor
   ·rintro (h1|h1)
    ·exact .inl h1
    ·exact .inr (.inr h1)
   ·rintro (h1|rfl|h1)
    ·exact .inl h1
    ·exact .inl h
    ·exact .inr h1
  ·rw [if_neg h];simp only [List.mem_append,List.mem_cons,List.not_mem_nil,or_false]
   exact or_assoc
theorem JE:∀(l acc:List Int),acc.Nodup->(l.foldl yh acc).Nodup
 | [],acc,h=>h
 |x::r,acc,h=>by
  rw [List.foldl_cons]
  refine JE r _ ?_
  unfold yh
  by_cases hx:x∈acc
  ·rw [if_pos hx];exact h
  ·rw [if_neg hx,List.nodup_append]
   exact ⟨h,by simp,fun a ha b hb e=>by rw [List.mem_singleton] at hb;subst hb;subst e;exact hx ha⟩
theorem Ti (K:Nat):((List.range K).map (fun v:Nat=>(v:Int))).Nodup:=by
 refine List.pairwise_map.2 ?_
 have h:(List.range K).Pairwise (fun a b=>a≠b):=List.nodup_range
 exact h.imp (fun {a b} hab e=>hab (Int.ofNat.inj e))
theorem Si (K:Nat) (aa:List (List Int)) (hlo:∀v,v∈aa.flatten->0<=v/\v<(K:Int)):decide (((ou aa).length:Int)=(K:Int))=(List.range K).all (fun v=>aa.any (fun e=>decide ((v:Int)∈e))):=by
 have hm:∀v,v∈ou aa↔v∈aa.flatten:=fun v=>by unfold ou;rw [Sh];simp
 have Ih:(ou aa).Nodup:=JE _ _ List.nodup_nil
 have hsub:∀v,v∈ou aa->v∈(List.range K).map (fun v:Nat=>(v:Int)):=fun v hv=>by
  have:=hlo v ((hm v).1 hv)
  exact List.mem_map.2 ⟨v.toNat,List.mem_range.2 (by omega),by omega⟩
 have hle:=pE _ _ Ih hsub
 rw [List.length_map,List.length_range] at hle
 rw [Bool.eq_iff_iff,decide_eq_true_iff,List.all_eq_true]
 have Gs:∀v:Nat,(aa.any (fun e=>decide ((v:Int)∈e))=true↔(v:Int)∈ou aa):=fun v=>by
  rw [hm,List.any_eq_true,List.mem_flatten]
  simp only [decide_eq_true_eq]
 constructor
 ·intro h v hv
  rw [Gs]
  by_cases hin:(v:Int)∈ou aa
  ·exact hin
  ·have h2:((v:Int)::ou aa).Nodup:=List.nodup_cons.2 ⟨hin,Ih⟩
   have h3:=pE ((v:Int)::ou aa) ((List.range K).map (fun v:Nat=>(v:Int))) h2 (fun x hx=>by
    rcases List.mem_cons.1 hx with rfl|hx
    ·exact List.mem_map.2 ⟨v,hv,rfl⟩
    ·exact hsub x hx)
   rw [List.length_cons,List.length_map,List.length_range] at h3
   omega
 ·intro h
  have h3:=pE ((List.range K).map (fun v:Nat=>(v:Int))) (ou aa) (Ti K) (fun x hx=>by
   obtain ⟨v,hv,rfl⟩:=List.mem_map.1 hx
   exact (Gs v).1 (h v hv))
  rw [List.length_map,List.length_range] at h3
  omega
theorem Xh (a:Int) (aa:List (List Int)) (hr:∀x,x∈aa->x.length<=1048576):Ev (fun k=>aQ.f k a aa) (kC a aa):=by
 have hrd:∀j,(aa.getD j []).length<=1048576:=fun j=>by
  by_cases hj:j<aa.length
  ·have:aa.getD j []=aa[j]:=by simp [List.getD_eq_getElem?_getD,hj]
   rw [this];exact hr _ (List.getElem_mem hj)
  ·have:aa.getD j []=[]:=by simp [List.getD_eq_getElem?_getD,hj]
   rw [this];simp
 unfold aQ.f kC
 simp only [Db,Option.bind_some]
 by_cases ha:0<=a/\a<=6
 case neg=>
  rw [decide_eq_false ha,Bool.false_and]
  refine Ev.neg (by decide) (Ev.succ ?_)
  simp only [aQ.j0]
  exact Ev.pos (by trivial) (Ev.now _)
 obtain ⟨K,rfl⟩:∃K:Nat,a=(K:Int):=⟨a.toNat,by omega⟩
 rw [decide_eq_true ha,Bool.true_and]
 refine Ev.pos rfl (Ev.succ ?_)
 simp only [aQ.j0]
 by_cases hne:aa.length<=7
 case neg=>
  rw [decide_eq_false hne,Bool.false_and,Bool.false_and]
  exact Ev.pos (decide_eq_true (by omega)) (Ev.now _)
 rw [decide_eq_true hne,Bool.true_and]
 refine Ev.neg (by rw [decide_eq_false (show ¬(aa.length:Int)>7 by omega)];decide) ?_
 have key:=Ev.all aa (fun e=>iA (-1) e&&e.all (fun v=>decide (v<(K:Int)))) (g:=fun k i=>aQ.l0 k (K:Int) aa aa (aa.length:Int) (i:Int)) (R:=(List.range K).all (fun v=>aa.any (fun e=>decide ((v:Int)∈e)))) ?_ ?_ ?_
 ·refine Ev.to key ?_
  by_cases hA:aa.all (fun e=>iA (-1) e&&e.all (fun v=>decide (v<(K:Int))))=true
  ·rw [hA,Bool.true_and]
   have h1:aa.all (iA (-1))=true:=List.all_eq_true.2 (fun e he=>by have:=List.all_eq_true.1 hA e he;rw [Bool.and_eq_true] at this;exact this.1)
   have h2:aa.flatten.all (fun v=>decide (v<(K:Int)))=true:=List.all_eq_true.2 (fun v hv=>by
    obtain ⟨e,he,BW⟩:=List.mem_flatten.1 hv
    have:=List.all_eq_true.1 hA e he;rw [Bool.and_eq_true] at this
    exact List.all_eq_true.1 this.2 v BW)
   rw [h1,h2,Bool.true_and,Bool.true_and]
   refine (Si K aa (fun v hv=>?_)).symm
   have hlt:=of_decide_eq_true (List.all_eq_true.1 h2 v hv)
   obtain ⟨e,he,BW⟩:=List.mem_flatten.1 hv
   have:=(EA e (-1) (List.all_eq_true.1 h1 e he)) v BW
   omega
  ·have hA2:=Bool.eq_false_iff.2 hA
   rw [hA2,Bool.false_and]
   symm
   rw [Bool.eq_false_iff]
   intro h
   simp only [Bool.and_eq_true,List.all_eq_true,decide_eq_true_eq] at h
   refine hA (List.all_eq_true.2 (fun e he=>?_))
   rw [Bool.and_eq_true]
   exact ⟨h.1 e he,List.all_eq_true.2 (fun v hv=>decide_eq_true (h.2.1 v (List.mem_flatten.2 ⟨e,he,hv⟩)))⟩
 ·intro hall
  refine Ev.succ ?_
  simp only [aQ.l0]
  refine Ev.neg (by omega) ?_
  have k2:=Ev.all (List.range K) (fun v=>aa.any (fun e=>decide ((v:Int)∈e))) (g:=fun k i=>aQ.l1 k (K:Int) aa (i:Int)) (R:=true) ?_ ?_ ?_
  ·rw [Bool.and_true] at k2;exact k2
  ·intro _
   refine Ev.succ ?_
   simp only [aQ.l1,List.length_range]
   exact Ev.neg (by omega) (Ev.now _)
  ·intro v hv hp R' ih
   rw [List.length_range] at hv
   rw [List.getElem_range] at hp
   refine Ev.succ ?_
   simp only [aQ.l1]
   have:=b1n (K:Int) aa v (by omega) hne hrd R' ih aa.length 0 false (by omega)
   rw [Bool.false_or,List.drop_zero,if_pos hp] at this
   exact Ev.pos (by omega) this
  ·intro v hv hp
   rw [List.length_range] at hv
   rw [List.getElem_range] at hp
   refine Ev.succ ?_
   simp only [aQ.l1]
   refine Ev.pos (by omega) ?_
   exact b1o (K:Int) aa v (by omega) hne hrd hp
 ·intro i hi hp R' ih
  refine Ev.succ ?_
  have hge:aa.getD i []=aa[i]:=by simp [List.getD_eq_getElem?_getD,hi]
  simp only [aQ.l0,qR hi,hge,dQ (show i<=9223372036854775806 by omega)]
  refine Ev.pos (by omega) (Ev.pos (by omega) (Ev.pos (by omega) (Ev.bind (Mj (K:Int) (by omega) (by omega) _ (by have:=hr _ (List.getElem_mem hi);omega)) (Ev.pos hp ih))))
 ·intro i hi hp
  refine Ev.succ ?_
  have hge:aa.getD i []=aa[i]:=by simp [List.getD_eq_getElem?_getD,hi]
  simp only [aQ.l0,qR hi,hge,dQ (show i<=9223372036854775806 by omega)]
  refine Ev.pos (by omega) (Ev.pos (by omega) (Ev.pos (by omega) (Ev.bind (Mj (K:Int) (by omega) (by omega) _ (by have:=hr _ (List.getElem_mem hi);omega)) (Ev.neg (by rw [hp];decide) (Ev.now _)))))
end Go.Proofs.Ytkckdphjhlbdcaa.PT
namespace Go.Proofs.Ytkckdphjhlbdcaa.P
open Go.RowKit Go.Proofs.YtkckdphjhlbdcaaW.PrintWords Go.Proofs.YtkckdphjhlbdcaaW.PrintLast Go.Proofs.YtkckdphjhlbdcaaW.PrintMore
attribute [local go_sem] max2_int min2_int max_two min_two max_three min_three max_four min_four
set_option linter.all false
def bG.l0:Nat->List Int->List Int->List Int->Int->Int->Option (List Int)
 |0,_,_,_,_,_=>none
 |k+1,x1,x5,x9,Oe,yL=>if yL<Oe then (if 0<=yL then (if yL<(x9.length:Int) then ((bU.f k x1 (rd x9 yL)).bind fun t130=>(if t130=true then (if x5.length<17592186044416 then (bG.l0 k x1 (x5++[rd x9 yL]) x9 Oe (wrap64 (yL+1))) else (none)) else (bG.l0 k x1 x5 x9 Oe (wrap64 (yL+1))))) else (none)) else (none)) else (some x5)
def bG.f (k:Nat) (l0:List Int) (l1:List Int):Option (List Int):=bG.l0 k l1 (([]:List Int)) l0 (l0.length:Int) 0
theorem bG.cC:∀k,(∀y0 y1 y2 y3 y4,aR (bG.l0 k y0 y1 y2 y3 y4) (bG.l0 (k+1) y0 y1 y2 y3 y4))
 |0=>fun _ _ _ _ _ r h=>by simp [bG.l0] at h
 |k+1=>by
  have dN:=bG.cC k
  ·intro y0 y1 y2 y3 y4
   unfold bG.l0
   repeat' first
   |(with_reducible exact dN _ _ _ _ _)
   |(with_reducible exact bU.mono _ _ _)
   |(with_reducible exact aR.refl _)
   |(with_reducible exact aR.none _)
   |(with_reducible refine aR.ite ?_ ?_)
   |(with_reducible refine aR.bind ?_ (fun _=>?_))
theorem bG.mono:∀a0 a1 k,aR (bG.f k a0 a1) (bG.f (k+1) a0 a1):=by
 intro a0 a1 k
 have dN:=bG.cC k
 unfold bG.f
 repeat' first
  |(with_reducible exact dN _ _ _ _ _)
  |(with_reducible exact bU.mono _ _ _)
  |(with_reducible exact aR.refl _)
  |(with_reducible exact aR.none _)
  |(with_reducible refine aR.ite ?_ ?_)
  |(with_reducible refine aR.bind ?_ (fun _=>?_))
set_option maxHeartbeats 8000000 in
set_option maxRecDepth 100000 in
theorem bG.calls (k:Nat) (A0:Option Addr) (c0:Nat) (l0:List Int) (A1:Option Addr) (c1:Nat) (l1:List Int) (r:List Int) (w:World) (fl:Kd.C (Kd.int .i64) w A0 l0.length l0) (hc0:l0.length<=c0) (hr1:Kd.C (Kd.int .i64) w A1 l1.length l1) (hc1:l1.length<=c1) (h:bG.f k l0 l1=some r):
 Calls Try.prog 68 #[.slice A0 l0.length c0,.slice A1 l1.length c1] w fun e w'=>∃lH:Value,e= .returned (lH)/\Kd.R (Kd.int .i64) 3 w' w.heap.size (fun _=>True) lH r/\Below w.heap.size w w':=by
 have eu:=Aside0.mk fl
 have kr:=Aside0.mk hc0
 clear fl hc0
 have gA:=Aside0.mk hr1
 have gb:=Aside0.mk hc1
 clear hr1 hc1
 have HB:=Aside0.mk (Below.refl w.heap.size w)
 have H:(bG.l0 k l1 (([]:List Int)) l0 (l0.length:Int) 0)=some r:=h
 clear h
 obtain ⟨b1p,JF⟩:∃y_:List Int,y_=(([]:List Int)):=⟨_,rfl⟩
 replace H:(bG.l0 k l1 b1p l0 (l0.length:Int) 0)=some r:=by first|(rw [JF];with_reducible exact H)|(have eF:=(Option.bind_some _ _).symm.trans H;rw [JF];with_reducible exact eF)|(have eF:=(Option.bind_some _ _).symm.trans H;with_reducible exact eF)|with_reducible exact H|(rw [JF];exact H)|exact H
 have a5z:=Aside0.mk JF
 clear JF
 have H':=Aside0.mk H
 clear H
 go_enter Try.func68,Try.ntmps68
 go_wp2_with (first|((with_reducible refine bn (N:=8) rfl ?_);refine Kd.DM (Kd.int .i64) _ 3 ?hg (N:=8) ?hd (xs:=([]:List Int)) (inner:=[]) (ok:=fun _=>True) (gK:=fun _=>True) ?hr ?hp (fun _ hk=>hk) trivial (Below.refl _ _) (Nat.le_refl _) (by simp) ?_;(case hd=>rfl);(case hg=>rfl);(case hr=>first|(go_simp;done)|(go_simp;rfl));(case hp=>exact (dD.none _ _));intro v127 w3 ho4 hb vR nQ;clear vR nQ;(first|rw [<-a5z.out] at ho4|(simp only [Int.reduceToNat] at ho4;rw [<-a5z.out] at ho4));have aA:=Aside0.mk (Kd.ie ho4 (ax ay));have aC:=Aside0.mk (ah ay hb);clear HB;have b3I:=aA;have HB:=aC;clear aA aC;clear hb ho4))
 go_loopg [5,11] k (fun kq v5 v11 w'=>∃(bC:List Int) (gZ:Int),v11= .int .i64 gZ/\Aside0 (bG.l0 kq l1 bC l0 (l0.length:Int) gZ=some r)/\Aside0 (kq<=k)/\Aside0 (Kd.R (Kd.int .i64) 3 w' w.heap.size (fun _=>True) v5 bC)/\Aside0 (Below w.heap.size w w'))
 case atStart=>exact ⟨(b1p),(0),(by first|rfl|(simp;done)|(simp [*];done)),H',⟨Nat.le_refl _⟩,⟨by (with_reducible repeat (first|apply Kd.ck|apply Kd.cn|apply Kd.cK));exact b3I.out⟩,⟨ay⟩⟩
 case round=>
  clear H'
  try clear c1
  try clear p2
  obtain ⟨bC,gZ,rfl,HA,dX,dI,HB⟩:=hrel
  cases gk with
  |zero=>exact absurd HA.out (by simp [bG.l0])
  |succ k1=>
   have H:=HA.out
   clear HA
   simp only [bG.l0] at H
   by_cases c5:gZ<(l0.length:Int)
   ·rw [if_pos c5] at H
    have wF:decide (gZ<(l0.length:Int))=true:=decide_eq_true c5
    clear c5
    by_cases c6:0<=gZ
    ·rw [if_pos c6] at H
     have oc:decide (0<=gZ)=true:=decide_eq_true c6
     clear c6
     by_cases c7:gZ<(l0.length:Int)
     ·rw [if_pos c7] at H
      have tH:decide (gZ<(l0.length:Int))=true:=decide_eq_true c7
      clear c7
      replace H:=Option.bind_eq_some_iff.mp H
      obtain ⟨t130,NQ,H⟩:=H
      replace H:(if t130=true then (if bC.length<17592186044416 then (bG.l0 k1 l1 (bC++[rd l0 gZ]) l0 (l0.length:Int) (wrap64 (gZ+1))) else (none)) else (bG.l0 k1 l1 bC l0 (l0.length:Int) (wrap64 (gZ+1))))=some r:=H
      have A8:=Aside0.mk NQ
      clear NQ
      by_cases c9:t130=true
      ·subst c9
       have H1:(if bC.length<17592186044416 then (bG.l0 k1 l1 (bC++[rd l0 gZ]) l0 (l0.length:Int) (wrap64 (gZ+1))) else (none))=some r:=by rw [if_pos rfl] at H;exact H
       clear H
       have H:=H1
       clear H1
       by_cases c10:bC.length<17592186044416
       ·rw [if_pos c10] at H
        have b3J:=Aside0.mk c10
        clear c10
        obtain ⟨b1q,JG⟩:∃y_:List Int,y_=(bC++[rd l0 gZ]):=⟨_,rfl⟩
        replace H:(bG.l0 k1 l1 b1q l0 (l0.length:Int) (wrap64 (gZ+1)))=some r:=by first|(rw [JG];with_reducible exact H)|(have eF:=(Option.bind_some _ _).symm.trans H;rw [JG];with_reducible exact eF)|(have eF:=(Option.bind_some _ _).symm.trans H;with_reducible exact eF)|with_reducible exact H|(rw [JG];exact H)|exact H
        have b3K:=Aside0.mk JG
        clear JG
        have H':=Aside0.mk H
        clear H
        have GU:0<=(gZ:Int):=of_decide_eq_true (by first|(with_reducible assumption)|assumption)
        have GV:gZ<(l0.length:Int):=of_decide_eq_true (by first|(with_reducible assumption)|assumption)
        obtain ⟨b3L,a3x,uH⟩:=Kd.gL eu.out gZ GU GV
        cases a3x
        replace uH:=(HB.out.cell (World.block_lt_of_cell? w _ uH)).trans uH
        replace GU:=eq_true GU
        replace GV:=eq_true GV
        go_wp2_with (first|((with_reducible refine aV (f:=49) rfl ?_);refine bH (some 17) rfl rfl Try.func49 (by kernel_rfl) rfl #[.slice A1 l1.length c1,.int .i64 (rd l0 gZ)] rfl (by (try simp only [List.map_toArray,List.map_cons,List.map_nil]);first|done|rfl|(simp only [List.length_drop,List.length_take];rfl)) ?_;(with_reducible refine (bU.calls k1 _ _ l1 (rd l0 gZ) true _ ?bO ?bP A8.out).mono ?_);(case bO=>repeat (first|exact (Kd.bp gA.out HB.out)|(with_reducible refine Kd.bV ?_ _)|(with_reducible refine Kd.bW ?_ _)|(with_reducible refine Kd.cy ?_)));(case bP=>exact gb.out);rintro e w' ⟨rfl,⟨nd,rfl⟩⟩;refine ⟨_,rfl,?_⟩)|((with_reducible refine gW (b:= .append) (xs:= #[.tmp 18,.tmp 20]) rfl ?_);at_builtin;refine Kd.mR (Kd.int .i64) (w0:=w) w.heap.size rfl (.tmp 18) (.tmp 20) 23 3 (.int .i64 0) 8 rfl Try.underlying23 info3 rfl (by decide) (by omega) u5 bC (rd l0 gZ) [.int .i64 (rd l0 gZ)] (fun _=>True) (fun _=>False) rfl rfl ?aP (fun _ hk=>hk.elim) ?aF ?aO ?aB ?aS ?aL ?_;(case aP=>exact rfl);(case aB=>exact ay);(case aF=>exact (fun _ _=>trivial));(case aO=>exact (by (with_reducible repeat (first|apply Kd.ck|apply Kd.cn|apply Kd.cK));exact dI.out));(case aS=>exact (ax ay));(case aL=>have:=b3J.out;omega);intro v132 kV ho hb hg hat;rw [<-b3K.out] at ho;have aA:=Aside0.mk (hb);have aC:=Aside0.mk (ho);clear HB;clear dI;have HB:=aA;have b3M:=aC;clear aA aC;clear ho hb hg hat))
        go_roundg k1
        case measure=>have:=dX.out;omega
        case rel=>exact ⟨(b1q),(wrap64 (gZ+1)),(by first|rfl|(simp;done)|(simp [*];done)),H',⟨by have:=dX.out;omega⟩,⟨by (with_reducible repeat (first|apply Kd.ck|apply Kd.cn|apply Kd.cK));exact b3M.out⟩,⟨ay⟩⟩
       ·rw [if_neg c10] at H
        exact absurd H (by simp)
      ·replace c9:=Bool.eq_false_iff.mpr c9
       subst c9
       have H1:(bG.l0 k1 l1 bC l0 (l0.length:Int) (wrap64 (gZ+1)))=some r:=by rw [if_neg (show ¬(false=true) by decide)] at H;exact H
       clear H
       have H:=H1
       clear H1
       have H':=Aside0.mk H
       clear H
       have GU:0<=(gZ:Int):=of_decide_eq_true (by first|(with_reducible assumption)|assumption)
       have GV:gZ<(l0.length:Int):=of_decide_eq_true (by first|(with_reducible assumption)|assumption)
       obtain ⟨b3L,a3x,uH⟩:=Kd.gL eu.out gZ GU GV
       cases a3x
       replace uH:=(HB.out.cell (World.block_lt_of_cell? w _ uH)).trans uH
       replace GU:=eq_true GU
       replace GV:=eq_true GV
       go_wp2_with (first|((with_reducible refine aV (f:=49) rfl ?_);refine bH (some 17) rfl rfl Try.func49 (by kernel_rfl) rfl #[.slice A1 l1.length c1,.int .i64 (rd l0 gZ)] rfl (by (try simp only [List.map_toArray,List.map_cons,List.map_nil]);first|done|rfl|(simp only [List.length_drop,List.length_take];rfl)) ?_;(with_reducible refine (bU.calls k1 _ _ l1 (rd l0 gZ) false _ ?bO ?bP A8.out).mono ?_);(case bO=>repeat (first|exact (Kd.bp gA.out HB.out)|(with_reducible refine Kd.bV ?_ _)|(with_reducible refine Kd.bW ?_ _)|(with_reducible refine Kd.cy ?_)));(case bP=>exact gb.out);rintro e w' ⟨rfl,⟨nd,rfl⟩⟩;refine ⟨_,rfl,?_⟩))
       go_roundg k1
       case measure=>have:=dX.out;omega
       case rel=>exact ⟨(bC),(wrap64 (gZ+1)),(by first|rfl|(simp;done)|(simp [*];done)),H',⟨by have:=dX.out;omega⟩,⟨by (with_reducible repeat (first|apply Kd.ck|apply Kd.cn|apply Kd.cK));exact dI.out⟩,⟨ay⟩⟩
     ·rw [if_neg c7] at H
      exact absurd H (by simp)
    ·rw [if_neg c6] at H
     exact absurd H (by simp)
   ·rw [if_neg c5] at H
    have wF:decide (gZ<(l0.length:Int))=false:=decide_eq_false c5
    clear c5
    obtain rfl:=Option.some.inj H
    go_wp2
    go_ret
    exact ⟨_,by first|rfl|(simp [aX,aY]<;>rfl)|(simp [*,aX,aY]<;>rfl),by (with_reducible repeat (first|apply Kd.ck|apply Kd.cn|apply Kd.cK));exact dI.out,ay⟩
end Go.Proofs.Ytkckdphjhlbdcaa.P
