/-
  Part 9 of the proof of this: The law FnExactPlanOK answers true at every argument.
-/
import Derived.Test.YtkckdphjhlbdcaaKPlanOK1
import Derived.Test.YtkckdphjhlbdcaaKPlanOK2
import Derived.Test.YtkckdphjhlbdcaaKPlanOK4
import Derived.Test.YtkckdphjhlbdcaaKPlanOK8
namespace Go.Proofs.Ytkckdphjhlbdcaa.PT
open Go.RowKit Go.Proofs.Ytkckdphjhlbdcaa.P Go.Proofs.YtkckdphjhlbdcaaW.PrintWords Go.Proofs.YtkckdphjhlbdcaaW.PrintLast Go.Proofs.Ytkckdphjhlbdcaa.EvKit Go.Proofs.Ytkckdphjhlbdcaa.Num Go.Proofs.Ytkckdphjhlbdcaa.Lp
set_option linter.all false
theorem ZT {w:World} {B m N K:Nat} {T:bA} {cs:Array Value} (h:w.heap[B]? =some (.cells cs 79 (0,0))) (hR:ic cs m N K T):vo w B m N K T:=⟨cs,h,hR⟩
set_option maxHeartbeats 2000000 in
set_option maxRecDepth 100000 in
theorem Ox (D C L m N K:Nat) (T0:bA) (Inv:bA->Prop) (cs:Array Value) (w:World) (hR:ic cs m N K T0) (hcd:C*D+C*D<=1000000) (Jm:Road D C L m N K (fun T T'=>Nonempty (DStep m N K T T')) Inv T0) (a5b:∀T,Inv T->∀r,r<m->T.cell r N<0->∃c,c<N/\T.cell r c<0):
 Calls Try.prog 61 #[.agg cs] w fun e w'=>∃cs' T,e= .returned (.agg cs')/\ic cs' m N K T/\Inv T/\(∀r,r<m->¬T.cell r N<0)/\Below w.heap.size w w':=by
 have hu:=Try.underlying79
 have HR:=Aside0.mk hR
 have tM:=Aside0.mk Jm
 have HFe:=Aside0.mk a5b
 have HCD:=Aside0.mk hcd
 clear hR Jm a5b hcd
 go_enter Try.func61,Try.ntmps61
 go_wp2
 have qj:Aside0 (((w.alloc (.cells cs 79)).alloc (.cells Try.zeroCells79 79)).heap[w.heap.size]? =some (.cells cs 79 (0,0))):=⟨ai (dn w _) _⟩
 have Rg:Aside0 (((w.alloc (.cells cs 79)).alloc (.cells Try.zeroCells79 79)).heap[w.heap.size+1]? =some (.cells Try.zeroCells79 79 (0,0))):=⟨by have:=dn (w.alloc (.cells cs 79)) (.cells Try.zeroCells79 79);rw [qi] at this;exact this⟩
 have eN:Aside0 (Below w.heap.size w ((w.alloc (.cells cs 79)).alloc (.cells Try.zeroCells79 79))):=⟨aT (aT (Below.refl _ _) _) _⟩
 go_loopg [3] L (fun G s3 wr=>∃(n:Nat) (T:bA) (cs1:Array Value),L - n<=G/\Aside0 (Reach (fun T T'=>Nonempty (DStep m N K T T')) T0 n T)/\Aside0 (Inv T)/\Aside0 (ic cs1 m N K T)/\Aside0 (wr.heap[w.heap.size]? =some (.cells cs1 79 (0,0)))/\Aside0 (wr.heap[w.heap.size+1]? =some (.cells Try.zeroCells79 79 (0,0)))/\Aside0 (Below w.heap.size w wr))
 case atStart=>exact ⟨0,T0,cs,by omega,⟨Reach.zero _ _⟩,⟨tM.out.start⟩,HR,qj,Rg,eN⟩
 case round=>
  clear qj Rg eN HR
  obtain ⟨n,T,cs1,hG,ZR,zh,HR,HA,fB,cO⟩:=hrel
  have HnL:=Aside0.mk (tM.out.few ZR.out)
  have HF:=Aside0.mk (tM.out.fine T zh.out)
  have h0r:=bB HA.out HR.out.rows
  go_wp2
  clear h0r
  go_loopw [3,9] (fun bv iv wr=>∃(x:Int) (i:Nat),bv= .int .i64 x/\iv= .int .i64 (i:Int)/\i<=m/\Aside0 (Wp T N i x)/\Aside0 (wr.heap[w.heap.size]? =some (.cells cs1 79 (0,0)))/\Aside0 (wr.heap[w.heap.size+1]? =some (.cells Try.zeroCells79 79 (0,0)))/\Aside0 (Below w.heap.size w wr)) (fun _ iv _=>m -(intOf iv).toNat)
  case atStart=>exact ⟨-1,0,rfl,rfl,Nat.zero_le _,⟨.inl ⟨rfl,fun j hj=>by omega⟩⟩,HA,fB,cO⟩
  case round=>
   clear HA fB cO
   obtain ⟨x,i,rfl,rfl,xQ,Ri,HA,fB,cO⟩:=hrel
   by_cases hi:i<m
   ·have Fq:=Aside0.mk hi
    have UB:i<m+K:=by omega
    have b0:(0:Int)<=(i:Int):=by omega
    have b1:(i:Int)<16:=by have:=HR.out.hm;omega
    have b2:(0:Int)<=(N:Int):=by omega
    have b3:(N:Int)<16:=by have:=HR.out.hN;omega
    have lS:Aside0 (wrap64 ((i:Int)+1)=((i+1:Nat):Int)):=⟨dQ (by have:=HR.out.hm;omega)⟩
    have hm:=zN
    have jY:=Aside0.mk (fun W=>xM (T.cell i N) W)
    have g4:decide ((i:Int)<(m:Int))=true:=decide_eq_true (by omega)
    have Fo:decide (i<m)=true:=decide_eq_true hi
    by_cases hp:T.cell i N<0
    ·have hz:jX (T.cell i N)<0:=of_decide_eq_true (by rw [zQ];exact decide_eq_true hp)
     have HP:=Aside0.mk hp
     obtain ⟨z,hz'⟩:∃z,z=jX (T.cell i N):=⟨_,rfl⟩
     rw [<-hz'] at hz jY
     have g5:decide (z<0)=true:=decide_eq_true hz
     have yH:Aside0 (Wp T N (i+1) (i:Int)):=⟨.inr ⟨i,rfl,by omega,hp⟩⟩
     clear hz hz' hp hi
     by_cases hx:x= -1
     ·subst hx
      have g6:decide ((-1:Int)<0)=true:=rfl
      have HS:Aside0 (∀w':World,w'.heap[w.heap.size]? =some (.cells cs1 79 (0,0))->w'.cell? ⟨w.heap.size,529,none⟩=some (.int .i64 (N:Int))/\w'.cell? ⟨w.heap.size,i*32+N*2,none⟩=some (.int .i64 (T.cell i N).num)/\w'.cell? ⟨w.heap.size,i*32+N*2+1,none⟩=some (.int .i64 ((T.cell i N).den:Int))):=⟨fun w' h=>⟨bB h HR.out.od,bB h (HR.out.num i N UB (Nat.le_refl _)),bB h (HR.out.den i N UB (Nat.le_refl _))⟩⟩
      skip
      go_wp2
      refine fL (n:=25) (S:=fun w'=>w'.cell? ⟨w.heap.size,529,none⟩=some (.int .i64 (N:Int))/\w'.cell? ⟨w.heap.size,i*32+N*2,none⟩=some (.int .i64 (T.cell i N).num)/\w'.cell? ⟨w.heap.size,i*32+N*2+1,none⟩=some (.int .i64 ((T.cell i N).den:Int))) (ds:=[]) #[false,false,false,false,false,false,false,false,false,false,false,false,false,false,false,false,false,false,false,false,false,false,false,false,false] (by kernel_rfl) rfl rfl (HS.out _ (ak HA.out)) (fun hHeld=>?_)
      refine bl (i:=0) (N:=some 12) ?_
      refine bl (i:=1) (N:=some 13) ?_
      refine dS (i:=2) (N:=some 14) (v:=?_) (a':=?_) #[true,true,true,false,false,false,false,false,false,false,false,false,false,false,false,false,false,false,false,false,false,false,false,false,false] rfl rfl (by kernel_rfl) (fun _ _ _ h=>h) (Or.inl ⟨by rfl,?_⟩) hHeld ?_ ?_
      rotate_left
      ·rintro w' ⟨s0,s1,s2⟩
       go_simp
       with_reducible rfl
      rotate_left
      ·exact fj
      refine bl (i:=3) (N:=some 15) ?_
      refine bl (i:=4) (N:=some 16) ?_
      refine bl (i:=5) (N:=some 17) ?_
      refine dS (i:=6) (N:=some 18) (v:=?_) (a':=?_) #[true,true,true,true,true,true,true,false,false,false,false,false,false,false,false,false,false,false,false,false,false,false,false,false,false] rfl rfl (by kernel_rfl) (fun _ _ _ h=>h) (Or.inl ⟨by rfl,?_⟩) hHeld ?_ ?_
      rotate_left
      ·rintro w' ⟨s0,s1,s2⟩
       go_simp
       with_reducible rfl
      rotate_left
      ·exact fj
      refine bl (i:=7) (N:=some 19) ?_
      refine gj (i:=8) (N:=some 20) #[true,true,true,true,true,true,true,true,true,false,false,false,false,false,false,false,false,false,false,false,false,false,false,false,false] rfl rfl (by kernel_rfl) (by decide) (fun K hK=>?_)
      refine tu 114 #[V (T.cell i N)] (by rfl) rfl ?_ ?_
      ·go_simp
      refine (jY.out _).mono ?_
      rintro e w1 ⟨rfl,hb1⟩
      have mX:=ah (aI (Below.refl wr.heap.size wr)) hb1
      have gw:=Aside0.mk (aj HA.out mX)
      have gM:=Aside0.mk (aj fB.out mX)
      have fS:=Aside0.mk (ah cO.out mX)
      clear hb1 mX
      refine ⟨_,rfl,?_⟩
      refine hK.out _ _ (HS.out _ gw.out) (fun hHeld=>?_)
      clear hK K
      refine fq (a':=?_) ?_ ?_
      rotate_left
      ·show Act.put _ (some 20) _=_
       simp only [Act.put,List.setIfInBounds_toArray,List.set_cons_zero,List.set_cons_succ,dJ,eD]
       rfl
      refine bl (i:=9) (N:=some 21) ?_
      refine bl (i:=10) (N:=some 22) ?_
      refine bl (i:=11) (N:=some 23) ?_
      refine bl (i:=12) (N:=some 24) ?_
      refine bl (i:=13) (N:=some 25) ?_
      refine kR (i:=14) (N:=some 26) ?_
      refine kR (i:=15) (N:=some 27) ?_
      refine kR (i:=16) (N:=some 28) ?_
      refine kR (i:=17) (N:=some 29) ?_
      refine kR (i:=18) (N:=some 30) ?_
      refine kR (i:=19) (N:=some 31) ?_
      refine kR (i:=20) (N:=some 32) ?_
      refine kR (i:=21) (N:=some 33) ?_
      refine kR (i:=22) (N:=some 34) ?_
      refine bl (i:=23) (N:=some 35) ?_
      refine bl (i:=24) (N:=some 36) ?_
      refine gU (by kernel_rfl) ?_
      clear hHeld
      go_wp2
      go_roundw
      case rel=>exact ⟨(i:Int),i+1,rfl,by first|(rw [lS.out];done)|rfl|(simp;done),Fq.out,yH,gw,gM,fS⟩
      case measure=>(try rw [lS.out]);have:=Fq.out;simp [intOf];omega
     ·obtain ⟨b,rfl,hbr,uf⟩:∃b:Nat,x=b/\b<i/\T.cell b N<0:=by
       rcases Ri.out with ⟨e,_⟩|h
       ·exact absurd e hx
       ·exact h
      have g6:decide ((b:Int)<0)=false:=decide_eq_false (by omega)
      have b4:(0:Int)<=(b:Int):=by omega
      have b5:(b:Int)<16:=by have:=HR.out.hm;omega
      obtain ⟨xi,Jo⟩:∃xi,xi=(T.basis i:Int):=⟨_,rfl⟩
      obtain ⟨xb,hxb⟩:∃xb,xb=(T.basis b:Int):=⟨_,rfl⟩
      have EX:Aside0 (Wp T N (i+1) (b:Int)):=⟨.inr ⟨b,rfl,by omega,uf⟩⟩
      have HS:Aside0 (∀w':World,w'.heap[w.heap.size]? =some (.cells cs1 79 (0,0))->w'.cell? ⟨w.heap.size,529,none⟩=some (.int .i64 (N:Int))/\w'.cell? ⟨w.heap.size,i*32+N*2,none⟩=some (.int .i64 (T.cell i N).num)/\w'.cell? ⟨w.heap.size,i*32+N*2+1,none⟩=some (.int .i64 ((T.cell i N).den:Int))/\w'.cell? ⟨w.heap.size,512+i,none⟩=some (.int .i64 xi)/\w'.cell? ⟨w.heap.size,512+b,none⟩=some (.int .i64 xb)):=⟨fun w' h=>⟨bB h HR.out.od,bB h (HR.out.num i N UB (Nat.le_refl _)),bB h (HR.out.den i N UB (Nat.le_refl _)),by rw [Jo];exact bB h (HR.out.fG i Fq.out),by rw [hxb];exact bB h (HR.out.fG b (by have:=Fq.out;omega))⟩⟩
      by_cases Da:xi<xb
      ·have g7:decide (xi<xb)=true:=decide_eq_true Da
       clear hx Jo hxb Da uf
       go_wp2
       refine fL (n:=25) (S:=fun w'=>w'.cell? ⟨w.heap.size,529,none⟩=some (.int .i64 (N:Int))/\w'.cell? ⟨w.heap.size,i*32+N*2,none⟩=some (.int .i64 (T.cell i N).num)/\w'.cell? ⟨w.heap.size,i*32+N*2+1,none⟩=some (.int .i64 ((T.cell i N).den:Int))/\w'.cell? ⟨w.heap.size,512+i,none⟩=some (.int .i64 xi)/\w'.cell? ⟨w.heap.size,512+b,none⟩=some (.int .i64 xb)) (ds:=[]) #[false,false,false,false,false,false,false,false,false,false,false,false,false,false,false,false,false,false,false,false,false,false,false,false,false] (by kernel_rfl) rfl rfl (HS.out _ (ak HA.out)) (fun hHeld=>?_)
       refine bl (i:=0) (N:=some 12) ?_
       refine bl (i:=1) (N:=some 13) ?_
       refine dS (i:=2) (N:=some 14) (v:=?_) (a':=?_) #[true,true,true,false,false,false,false,false,false,false,false,false,false,false,false,false,false,false,false,false,false,false,false,false,false] rfl rfl (by kernel_rfl) (fun _ _ _ h=>h) (Or.inl ⟨by rfl,?_⟩) hHeld ?_ ?_
       rotate_left
       ·rintro w' ⟨s0,s1,s2,s3,s4⟩
        go_simp
        with_reducible rfl
       rotate_left
       ·exact fj
       refine bl (i:=3) (N:=some 15) ?_
       refine bl (i:=4) (N:=some 16) ?_
       refine bl (i:=5) (N:=some 17) ?_
       refine dS (i:=6) (N:=some 18) (v:=?_) (a':=?_) #[true,true,true,true,true,true,true,false,false,false,false,false,false,false,false,false,false,false,false,false,false,false,false,false,false] rfl rfl (by kernel_rfl) (fun _ _ _ h=>h) (Or.inl ⟨by rfl,?_⟩) hHeld ?_ ?_
       rotate_left
       ·rintro w' ⟨s0,s1,s2,s3,s4⟩
        go_simp
        with_reducible rfl
       rotate_left
       ·exact fj
       refine bl (i:=7) (N:=some 19) ?_
       refine gj (i:=8) (N:=some 20) #[true,true,true,true,true,true,true,true,true,false,false,false,false,false,false,false,false,false,false,false,false,false,false,false,false] rfl rfl (by kernel_rfl) (by decide) (fun K hK=>?_)
       refine tu 114 #[V (T.cell i N)] (by rfl) rfl ?_ ?_
       ·go_simp
       refine (jY.out _).mono ?_
       rintro e w1 ⟨rfl,hb1⟩
       have mX:=ah (aI (Below.refl wr.heap.size wr)) hb1
       have gw:=Aside0.mk (aj HA.out mX)
       have gM:=Aside0.mk (aj fB.out mX)
       have fS:=Aside0.mk (ah cO.out mX)
       clear hb1 mX
       refine ⟨_,rfl,?_⟩
       refine hK.out _ _ (HS.out _ gw.out) (fun hHeld=>?_)
       clear hK K
       refine fq (a':=?_) ?_ ?_
       rotate_left
       ·show Act.put _ (some 20) _=_
        simp only [Act.put,List.setIfInBounds_toArray,List.set_cons_zero,List.set_cons_succ,dJ,eD]
        rfl
       refine bl (i:=9) (N:=some 21) ?_
       refine bl (i:=10) (N:=some 22) ?_
       refine bl (i:=11) (N:=some 23) ?_
       refine bl (i:=12) (N:=some 24) ?_
       refine bl (i:=13) (N:=some 25) ?_
       refine bl (i:=14) (N:=some 26) ?_
       refine bl (i:=15) (N:=some 27) ?_
       refine bl (i:=16) (N:=some 28) ?_
       refine dS (i:=17) (N:=some 29) (v:=?_) (a':=?_) #[true,true,true,true,true,true,true,true,true,true,true,true,true,true,true,true,true,true,false,false,false,false,false,false,false] rfl rfl (by kernel_rfl) (fun _ _ _ h=>h) (Or.inl ⟨by rfl,?_⟩) hHeld ?_ ?_
       rotate_left
       ·rintro w' ⟨s0,s1,s2,s3,s4⟩
        go_simp
        with_reducible rfl
       rotate_left
       ·exact fj
       refine bl (i:=18) (N:=some 30) ?_
       refine bl (i:=19) (N:=some 31) ?_
       refine bl (i:=20) (N:=some 32) ?_
       refine dS (i:=21) (N:=some 33) (v:=?_) (a':=?_) #[true,true,true,true,true,true,true,true,true,true,true,true,true,true,true,true,true,true,true,true,true,true,false,false,false] rfl rfl (by kernel_rfl) (fun _ _ _ h=>h) (Or.inl ⟨by rfl,?_⟩) hHeld ?_ ?_
       rotate_left
       ·rintro w' ⟨s0,s1,s2,s3,s4⟩
        go_simp
        with_reducible rfl
       rotate_left
       ·exact fj
       refine bl (i:=22) (N:=some 34) ?_
       refine bl (i:=23) (N:=some 35) ?_
       refine bl (i:=24) (N:=some 36) ?_
       refine gU (by kernel_rfl) ?_
       clear hHeld
       go_wp2
       go_roundw
       case rel=>exact ⟨(i:Int),i+1,rfl,by first|(rw [lS.out];done)|rfl|(simp;done),Fq.out,yH,gw,gM,fS⟩
       case measure=>(try rw [lS.out]);have:=Fq.out;simp [intOf];omega
      ·have g7:decide (xi<xb)=false:=decide_eq_false Da
       clear hx Jo hxb Da uf
       go_wp2
       refine fL (n:=25) (S:=fun w'=>w'.cell? ⟨w.heap.size,529,none⟩=some (.int .i64 (N:Int))/\w'.cell? ⟨w.heap.size,i*32+N*2,none⟩=some (.int .i64 (T.cell i N).num)/\w'.cell? ⟨w.heap.size,i*32+N*2+1,none⟩=some (.int .i64 ((T.cell i N).den:Int))/\w'.cell? ⟨w.heap.size,512+i,none⟩=some (.int .i64 xi)/\w'.cell? ⟨w.heap.size,512+b,none⟩=some (.int .i64 xb)) (ds:=[]) #[false,false,false,false,false,false,false,false,false,false,false,false,false,false,false,false,false,false,false,false,false,false,false,false,false] (by kernel_rfl) rfl rfl (HS.out _ (ak HA.out)) (fun hHeld=>?_)
       refine bl (i:=0) (N:=some 12) ?_
       refine bl (i:=1) (N:=some 13) ?_
       refine dS (i:=2) (N:=some 14) (v:=?_) (a':=?_) #[true,true,true,false,false,false,false,false,false,false,false,false,false,false,false,false,false,false,false,false,false,false,false,false,false] rfl rfl (by kernel_rfl) (fun _ _ _ h=>h) (Or.inl ⟨by rfl,?_⟩) hHeld ?_ ?_
       rotate_left
       ·rintro w' ⟨s0,s1,s2,s3,s4⟩
        go_simp
        with_reducible rfl
       rotate_left
       ·exact fj
       refine bl (i:=3) (N:=some 15) ?_
       refine bl (i:=4) (N:=some 16) ?_
       refine bl (i:=5) (N:=some 17) ?_
       refine dS (i:=6) (N:=some 18) (v:=?_) (a':=?_) #[true,true,true,true,true,true,true,false,false,false,false,false,false,false,false,false,false,false,false,false,false,false,false,false,false] rfl rfl (by kernel_rfl) (fun _ _ _ h=>h) (Or.inl ⟨by rfl,?_⟩) hHeld ?_ ?_
       rotate_left
       ·rintro w' ⟨s0,s1,s2,s3,s4⟩
        go_simp
        with_reducible rfl
       rotate_left
       ·exact fj
       refine bl (i:=7) (N:=some 19) ?_
       refine gj (i:=8) (N:=some 20) #[true,true,true,true,true,true,true,true,true,false,false,false,false,false,false,false,false,false,false,false,false,false,false,false,false] rfl rfl (by kernel_rfl) (by decide) (fun K hK=>?_)
       refine tu 114 #[V (T.cell i N)] (by rfl) rfl ?_ ?_
       ·go_simp
       refine (jY.out _).mono ?_
       rintro e w1 ⟨rfl,hb1⟩
       have mX:=ah (aI (Below.refl wr.heap.size wr)) hb1
       have gw:=Aside0.mk (aj HA.out mX)
       have gM:=Aside0.mk (aj fB.out mX)
       have fS:=Aside0.mk (ah cO.out mX)
       clear hb1 mX
       refine ⟨_,rfl,?_⟩
       refine hK.out _ _ (HS.out _ gw.out) (fun hHeld=>?_)
       clear hK K
       refine fq (a':=?_) ?_ ?_
       rotate_left
       ·show Act.put _ (some 20) _=_
        simp only [Act.put,List.setIfInBounds_toArray,List.set_cons_zero,List.set_cons_succ,dJ,eD]
        rfl
       refine bl (i:=9) (N:=some 21) ?_
       refine bl (i:=10) (N:=some 22) ?_
       refine bl (i:=11) (N:=some 23) ?_
       refine bl (i:=12) (N:=some 24) ?_
       refine bl (i:=13) (N:=some 25) ?_
       refine bl (i:=14) (N:=some 26) ?_
       refine bl (i:=15) (N:=some 27) ?_
       refine bl (i:=16) (N:=some 28) ?_
       refine dS (i:=17) (N:=some 29) (v:=?_) (a':=?_) #[true,true,true,true,true,true,true,true,true,true,true,true,true,true,true,true,true,true,false,false,false,false,false,false,false] rfl rfl (by kernel_rfl) (fun _ _ _ h=>h) (Or.inl ⟨by rfl,?_⟩) hHeld ?_ ?_
       rotate_left
       ·rintro w' ⟨s0,s1,s2,s3,s4⟩
        go_simp
        with_reducible rfl
       rotate_left
       ·exact fj
       refine bl (i:=18) (N:=some 30) ?_
       refine bl (i:=19) (N:=some 31) ?_
       refine bl (i:=20) (N:=some 32) ?_
       refine dS (i:=21) (N:=some 33) (v:=?_) (a':=?_) #[true,true,true,true,true,true,true,true,true,true,true,true,true,true,true,true,true,true,true,true,true,true,false,false,false] rfl rfl (by kernel_rfl) (fun _ _ _ h=>h) (Or.inl ⟨by rfl,?_⟩) hHeld ?_ ?_
       rotate_left
       ·rintro w' ⟨s0,s1,s2,s3,s4⟩
        go_simp
        with_reducible rfl
       rotate_left
       ·exact fj
       refine bl (i:=22) (N:=some 34) ?_
       refine bl (i:=23) (N:=some 35) ?_
       refine bl (i:=24) (N:=some 36) ?_
       refine gU (by kernel_rfl) ?_
       clear hHeld
       go_wp2
       go_roundw
       case rel=>exact ⟨(b:Int),i+1,rfl,by first|(rw [lS.out];done)|rfl|(simp;done),Fq.out,EX,gw,gM,fS⟩
       case measure=>(try rw [lS.out]);have:=Fq.out;simp [intOf];omega
    ·have hz:¬jX (T.cell i N)<0:=fun h=>hp (of_decide_eq_true (by rw [<-zQ];exact decide_eq_true h))
     obtain ⟨z,hz'⟩:∃z,z=jX (T.cell i N):=⟨_,rfl⟩
     rw [<-hz'] at hz jY
     have g5:decide (z<0)=false:=decide_eq_false hz
     have yH:Aside0 (Wp T N (i+1) x):=⟨by
      rcases Ri.out with ⟨e,h⟩|⟨b,e,h1,h2⟩
      ·refine .inl ⟨e,fun j hj=>?_⟩
       by_cases e2:j=i
       ·rw [e2];exact hp
       ·exact h j (by omega)
      ·exact .inr ⟨b,e,by omega,h2⟩⟩
     have HS:Aside0 (∀w':World,w'.heap[w.heap.size]? =some (.cells cs1 79 (0,0))->w'.cell? ⟨w.heap.size,529,none⟩=some (.int .i64 (N:Int))/\w'.cell? ⟨w.heap.size,i*32+N*2,none⟩=some (.int .i64 (T.cell i N).num)/\w'.cell? ⟨w.heap.size,i*32+N*2+1,none⟩=some (.int .i64 ((T.cell i N).den:Int))):=⟨fun w' h=>⟨bB h HR.out.od,bB h (HR.out.num i N UB (Nat.le_refl _)),bB h (HR.out.den i N UB (Nat.le_refl _))⟩⟩
     skip
     clear hz hz' hp hi
     go_wp2
     refine fL (n:=25) (S:=fun w'=>w'.cell? ⟨w.heap.size,529,none⟩=some (.int .i64 (N:Int))/\w'.cell? ⟨w.heap.size,i*32+N*2,none⟩=some (.int .i64 (T.cell i N).num)/\w'.cell? ⟨w.heap.size,i*32+N*2+1,none⟩=some (.int .i64 ((T.cell i N).den:Int))) (ds:=[]) #[false,false,false,false,false,false,false,false,false,false,false,false,false,false,false,false,false,false,false,false,false,false,false,false,false] (by kernel_rfl) rfl rfl (HS.out _ (ak HA.out)) (fun hHeld=>?_)
     refine bl (i:=0) (N:=some 12) ?_
     refine bl (i:=1) (N:=some 13) ?_
     refine dS (i:=2) (N:=some 14) (v:=?_) (a':=?_) #[true,true,true,false,false,false,false,false,false,false,false,false,false,false,false,false,false,false,false,false,false,false,false,false,false] rfl rfl (by kernel_rfl) (fun _ _ _ h=>h) (Or.inl ⟨by rfl,?_⟩) hHeld ?_ ?_
     rotate_left
     ·rintro w' ⟨s0,s1,s2⟩
      go_simp
      with_reducible rfl
     rotate_left
     ·exact fj
     refine bl (i:=3) (N:=some 15) ?_
     refine bl (i:=4) (N:=some 16) ?_
     refine bl (i:=5) (N:=some 17) ?_
     refine dS (i:=6) (N:=some 18) (v:=?_) (a':=?_) #[true,true,true,true,true,true,true,false,false,false,false,false,false,false,false,false,false,false,false,false,false,false,false,false,false] rfl rfl (by kernel_rfl) (fun _ _ _ h=>h) (Or.inl ⟨by rfl,?_⟩) hHeld ?_ ?_
     rotate_left
     ·rintro w' ⟨s0,s1,s2⟩
      go_simp
      with_reducible rfl
     rotate_left
     ·exact fj
     refine bl (i:=7) (N:=some 19) ?_
     refine gj (i:=8) (N:=some 20) #[true,true,true,true,true,true,true,true,true,false,false,false,false,false,false,false,false,false,false,false,false,false,false,false,false] rfl rfl (by kernel_rfl) (by decide) (fun K hK=>?_)
     refine tu 114 #[V (T.cell i N)] (by rfl) rfl ?_ ?_
     ·go_simp
     refine (jY.out _).mono ?_
     rintro e w1 ⟨rfl,hb1⟩
     have mX:=ah (aI (Below.refl wr.heap.size wr)) hb1
     have gw:=Aside0.mk (aj HA.out mX)
     have gM:=Aside0.mk (aj fB.out mX)
     have fS:=Aside0.mk (ah cO.out mX)
     clear hb1 mX
     refine ⟨_,rfl,?_⟩
     refine hK.out _ _ (HS.out _ gw.out) (fun hHeld=>?_)
     clear hK K
     refine fq (a':=?_) ?_ ?_
     rotate_left
     ·show Act.put _ (some 20) _=_
      simp only [Act.put,List.setIfInBounds_toArray,List.set_cons_zero,List.set_cons_succ,dJ,eD]
      rfl
     refine bl (i:=9) (N:=some 21) ?_
     refine bl (i:=10) (N:=some 22) ?_
     refine kR (i:=11) (N:=some 23) ?_
     refine kR (i:=12) (N:=some 24) ?_
     refine kR (i:=13) (N:=some 25) ?_
     refine kR (i:=14) (N:=some 26) ?_
     refine kR (i:=15) (N:=some 27) ?_
     refine kR (i:=16) (N:=some 28) ?_
     refine kR (i:=17) (N:=some 29) ?_
     refine kR (i:=18) (N:=some 30) ?_
     refine kR (i:=19) (N:=some 31) ?_
     refine kR (i:=20) (N:=some 32) ?_
     refine kR (i:=21) (N:=some 33) ?_
     refine kR (i:=22) (N:=some 34) ?_
     refine kR (i:=23) (N:=some 35) ?_
     refine bl (i:=24) (N:=some 36) ?_
     refine gU (by kernel_rfl) ?_
     clear hHeld
     go_wp2
     go_roundw
     case rel=>exact ⟨x,i+1,rfl,by first|(rw [lS.out];done)|rfl|(simp;done),Fq.out,yH,gw,gM,fS⟩
     case measure=>(try rw [lS.out]);have:=Fq.out;simp [intOf];omega
   ·have g4:decide ((i:Int)<(m:Int))=false:=decide_eq_false (by omega)
    have Fo:decide (i<m)=false:=decide_eq_false hi
    have LL:i=m:=by omega
    by_cases hx:x= -1
    ·have HQ:Aside0 (∀r,r<m->¬T.cell r N<0):=⟨by
      rcases Ri.out with ⟨_,h⟩|⟨b,e,_⟩
      ·rw [<-LL];exact h
      ·omega⟩
     have g6:decide (x<0)=true:=decide_eq_true (by omega)
     have HI:Aside0 ((Try.prog.info? 79).map (·.size)=some cs1.size):=⟨by rw [HR.out.size];kernel_rfl⟩
     have HZ:Aside0 ((Try.zeroCells79).size=cs1.size):=⟨by rw [HR.out.size];kernel_rfl⟩
     clear hx LL hi xQ
     go_wp2_with (first|((with_reducible refine bn (N:=41) rfl ?_);refine wpList_load_row rfl 79 (.tmp 1) rfl w.heap.size rfl 79 cs1 (0,0) _ HA.out hu (by rfl) HI.out ?_)|((with_reducible refine kg (t:=79) (p:=2) rfl ?_);refine wpList_store_row rfl 79 (.tmp 2) (.tmp 41) rfl (w.heap.size+1) cs1 rfl rfl 79 Try.zeroCells79 fB.out HI.out HZ.out HR.out.one ?_))
     refine bodyPost_ret (results_cell_row rfl _ _ (w.heap.size+1) 79 cs1 (0,0) _ rfl (sL fB.out) hu (by rfl) HI.out) rfl ?_
     exact ⟨cs1,T,rfl,HR.out,zh.out,HQ.out,qG cO.out (by omega)⟩
    ·obtain ⟨r,rfl,hri,ET⟩:∃b:Nat,x=b/\b<i/\T.cell b N<0:=by
      rcases Ri.out with ⟨e,_⟩|h
      ·exact absurd e hx
      ·exact h
     have Nk:r<m:=by omega
     have g6:decide ((r:Int)<0)=false:=decide_eq_false (by omega)
     have h0c:=bB HA.out HR.out.od
     have HrN:=Aside0.mk ET
     clear hx LL hi xQ hri ET
     go_wp2
     clear h0c g4 Fo Ri
     go_loopw [5,44] (fun bv cv wr=>∃(x:Int) (c:Nat),bv= .int .i64 x/\cv= .int .i64 (c:Int)/\c<=N/\Aside0 (iP T m K r c x)/\Aside0 (wr.heap[w.heap.size]? =some (.cells cs1 79 (0,0)))/\Aside0 (wr.heap[w.heap.size+1]? =some (.cells Try.zeroCells79 79 (0,0)))/\Aside0 (Below w.heap.size w wr)) (fun _ cv _=>N -(intOf cv).toNat)
     case atStart=>exact ⟨-1,0,rfl,rfl,Nat.zero_le _,⟨iP.zero _ _ _ _⟩,HA,fB,cO⟩
     case round=>
      clear HA fB cO
      obtain ⟨x,c,rfl,rfl,hcN,NM,HA,fB,cO⟩:=hrel
      by_cases hc:c<N
      ·have wX:=Aside0.mk hc
       have CI:r<m+K:=by omega
       have h1:=bB HA.out (HR.out.num r c CI (Nat.le_of_lt hc))
       have h2:=bB HA.out (HR.out.den r c CI (Nat.le_of_lt hc))
       have b0:(0:Int)<=(r:Int):=by omega
       have b1:(r:Int)<16:=by have:=HR.out.hm;omega
       have b2:(0:Int)<=(c:Int):=by omega
       have b3:(c:Int)<16:=by have:=HR.out.hN;omega
       have yJ:Aside0 (wrap64 ((c:Int)+1)=((c+1:Nat):Int)):=⟨dQ (by have:=HR.out.hN;omega)⟩
       have hm:=zN
       have jY:=Aside0.mk (fun W=>xM (T.cell r c) W)
       have g4:decide ((c:Int)<(N:Int))=true:=decide_eq_true (by omega)
       have Fo:decide (c<N)=true:=decide_eq_true hc
       by_cases hp:T.cell r c<0
       ·have hz:jX (T.cell r c)<0:=of_decide_eq_true (by rw [zQ];exact decide_eq_true hp)
        obtain ⟨z,hz'⟩:∃z,z=jX (T.cell r c):=⟨_,rfl⟩
        rw [<-hz'] at hz jY
        have g5:decide (z<0)=true:=decide_eq_true hz
        by_cases hx:x= -1
        ·have g7:decide (x<0)=true:=decide_eq_true (by omega)
         have Gr:Aside0 (iP T m K r (c+1) (c:Int)):=⟨iP.first (hx ▸ NM.out) hp⟩
         clear hz hz' hp hc hx
         go_wp2_with (first|(go_at_call 114;(with_reducible refine (jY.out _).mono ?_);rintro e w1 ⟨rfl,hb1⟩;have gw:=Aside0.mk (aj HA.out hb1);have gM:=Aside0.mk (aj fB.out hb1);have fS:=Aside0.mk (ah cO.out hb1);clear hb1))
         go_roundw
         case rel=>exact ⟨c,c+1,rfl,by first|(rw [yJ.out];done)|rfl|(simp;done),wX.out,Gr,gw,gM,fS⟩
         case measure=>(try rw [yJ.out]);have:=wX.out;simp [intOf];omega
        ·obtain ⟨b,rfl,hbc,uf⟩:=NM.out.index hx
         have g7:decide ((b:Int)<0)=false:=decide_eq_false (by omega)
         have Dd:T.cell r c≠0:=fun h0=>by rw [h0] at hp;grind
         have De:T.cell r b≠0:=fun h0=>by rw [h0] at uf;grind
         have HCc:=Aside0.mk (fun W (h:vo W w.heap.size m N K T)=>Qs D C w.heap.size m N K r c b T W h HF.out HCD.out Nk hc (by omega) Dd De)
         generalize hy:lG T m r c b 0 K=y at HCc
         cases y with
         |true=>
          have Gr:Aside0 (iP T m K r (c+1) (c:Int)):=⟨iP.take NM.out hp hy⟩
          clear hz hz' hp hc hx Dd De uf hy
          go_wp2_with (first|(go_at_call 114;(with_reducible refine (jY.out _).mono ?_);rintro e w1 ⟨rfl,hb1⟩;have gw:=Aside0.mk (aj HA.out hb1);have gM:=Aside0.mk (aj fB.out hb1);have fS:=Aside0.mk (ah cO.out hb1);clear hb1)|(go_at_call 77;(with_reducible refine (HCc.out _ (ZT gw.out HR.out)).mono ?_);rintro e w2 ⟨rfl,hb2⟩;have ji:=Aside0.mk (aj gw.out hb2);have rN:=Aside0.mk (aj gM.out hb2);have Df:=Aside0.mk (ah fS.out hb2);clear hb2))
          go_roundw
          case rel=>exact ⟨c,c+1,rfl,by first|(rw [yJ.out];done)|rfl|(simp;done),wX.out,Gr,ji,rN,Df⟩
          case measure=>(try rw [yJ.out]);have:=wX.out;simp [intOf];omega
         |false=>
          have Gr:Aside0 (iP T m K r (c+1) (b:Int)):=⟨iP.keep NM.out hy⟩
          clear hz hz' hp hc hx Dd De uf hy
          go_wp2_with (first|(go_at_call 114;(with_reducible refine (jY.out _).mono ?_);rintro e w1 ⟨rfl,hb1⟩;have gw:=Aside0.mk (aj HA.out hb1);have gM:=Aside0.mk (aj fB.out hb1);have fS:=Aside0.mk (ah cO.out hb1);clear hb1)|(go_at_call 77;(with_reducible refine (HCc.out _ (ZT gw.out HR.out)).mono ?_);rintro e w2 ⟨rfl,hb2⟩;have ji:=Aside0.mk (aj gw.out hb2);have rN:=Aside0.mk (aj gM.out hb2);have Df:=Aside0.mk (ah fS.out hb2);clear hb2))
          go_roundw
          case rel=>exact ⟨b,c+1,rfl,by first|(rw [yJ.out];done)|rfl|(simp;done),wX.out,Gr,ji,rN,Df⟩
          case measure=>(try rw [yJ.out]);have:=wX.out;simp [intOf];omega
       ·have hz:¬jX (T.cell r c)<0:=fun h=>hp (of_decide_eq_true (by rw [<-zQ];exact decide_eq_true h))
        obtain ⟨z,hz'⟩:∃z,z=jX (T.cell r c):=⟨_,rfl⟩
        rw [<-hz'] at hz jY
        have g5:decide (z<0)=false:=decide_eq_false hz
        have Gr:=Aside0.mk (NM.out.skip hp)
        clear hz hz' hp hc
        go_wp2_with (first|(go_at_call 114;(with_reducible refine (jY.out _).mono ?_);rintro e w1 ⟨rfl,hb1⟩;have gw:=Aside0.mk (aj HA.out hb1);have gM:=Aside0.mk (aj fB.out hb1);have fS:=Aside0.mk (ah cO.out hb1);clear hb1))
        go_roundw
        case rel=>exact ⟨x,c+1,rfl,by first|(rw [yJ.out];done)|rfl|(simp;done),wX.out,Gr,gw,gM,fS⟩
        case measure=>(try rw [yJ.out]);have:=wX.out;simp [intOf];omega
      ·have g4:decide ((c:Int)<(N:Int))=false:=decide_eq_false (by omega)
       have Fo:decide (c<N)=false:=decide_eq_false hc
       have wJ:c=N:=by omega
       obtain ⟨j,hj,hjp⟩:=HFe.out T zh.out r Nk HrN.out
       have hx:x≠ -1:=by
        intro hx
        rcases NM.out with ⟨_,h⟩|⟨b,e,_⟩
        ·exact h j (by omega) hjp
        ·omega
       obtain ⟨b,rfl,hbc,uf⟩:=NM.out.index hx
       have g7:decide ((b:Int)<0)=false:=decide_eq_false (by omega)
       have hbN:b<N:=by omega
       have hne:T.cell r b≠0:=fun h0=>by rw [h0] at uf;grind
       have hst:Nonempty (DStep m N K T (T.pivot r b)):=⟨⟨r,b,Nk,hbN,HrN.out,uf,fun i hi qJ=>by
        rcases NM.out with ⟨e,_⟩|⟨b',e,_,_,h⟩
        ·omega
        ·have e2:b'=b:=by omega
         subst e2
         exact h i (by omega) qJ,rfl⟩⟩
       have NL:=Aside0.mk (tM.out.step T _ zh.out hst)
       have a2B:=Aside0.mk (ZR.out.next hst)
       have HP:=Aside0.mk (fun W=>IK D C m N K r b T cs1 W HR.out Nk hbN hne HF.out (tM.out.fine _ NL.out))
       have HI:Aside0 ((Try.prog.info? 79).map (·.size)=some cs1.size):=⟨by rw [HR.out.size];kernel_rfl⟩
       clear hx uf hst hne hjp hj wJ hbc
       go_wp2_with (first|((with_reducible refine bn (N:=71) rfl ?_);refine wpList_load_row rfl 79 (.tmp 1) rfl w.heap.size rfl 79 cs1 (0,0) _ HA.out hu (by rfl) HI.out ?_)|(go_at_call 78;(with_reducible refine (HP.out _).mono ?_);rintro e w1 ⟨iy,rfl,Rh,hb1⟩;have Jn:=Aside0.mk Rh;have gw:=Aside0.mk (aj HA.out hb1);have gM:=Aside0.mk (aj fB.out hb1);have fS:=Aside0.mk (ah cO.out hb1);have a2C:Aside0 ((Try.prog.info? 79).map (·.size)=some iy.size):=⟨by rw [Jn.out.size];kernel_rfl⟩;have HZs:Aside0 (cs1.size=iy.size):=⟨by rw [HR.out.size,Jn.out.size]⟩;clear hb1 Rh)|((with_reducible refine kg (t:=79) (p:=1) rfl ?_);refine wpList_store_row rfl 79 (.tmp 1) (.tmp 74) rfl w.heap.size iy rfl rfl 79 cs1 gw.out a2C.out HZs.out Jn.out.one ?_))
       go_roundg (L -(n+1))
       case measure=>have:=HnL.out;omega
       case rel=>exact ⟨n+1,T.pivot r b,iy,Nat.le_refl _,a2B,NL,Jn,⟨sL gw.out⟩,⟨uy gM.out (by omega)⟩,⟨qG fS.out (Nat.le_refl _)⟩⟩
def ind (e:List Int) (v:Int):Int:=if v∈e then 1 else 0
abbrev ye:Array Value:= #[.bool false,.int .i64 0,.int .i64 0,.slice none 0 0,.slice none 0 0]
structure Rows (av:List Int) (aa:List (List Int)) (i j:Nat) (rows:Nat->List Int):Prop where
 ZU:∀k,k<av.length->rows k=if k<i then aa.map (fun e=> - ind e (av.getD k 0)) else if k=i then (aa.take j).map (fun e=> - ind e (av.getD k 0)) else []
 pack:∀k,k<aa.length->rows (av.length+k)=(av.take (if k<j then i+1 else i)).map (fun v=>ind (aa.getD k []) v)
theorem Rows.start (av:List Int) (aa:List (List Int)):Rows av aa 0 0 (fun _=>[]):=
 ⟨fun k _=>by
  rw [if_neg (by omega)]
  split<;>simp,fun k _=>by rw [if_neg (by omega)];simp⟩
theorem Rows.next {av:List Int} {aa:List (List Int)} {i:Nat} {rows:Nat->List Int} (h:Rows av aa i aa.length rows):Rows av aa (i+1) 0 rows:=by
 refine ⟨fun k hk=>?_,fun k hk=>?_⟩
 ·rw [h.ZU k hk]
  by_cases e:k<i
  ·rw [if_pos e,if_pos (by omega)]
  ·rw [if_neg e]
   by_cases e2:k=i
   ·rw [if_pos e2,if_pos (by omega),List.take_length]
   ·rw [if_neg e2,if_neg (by omega)]
    split<;>simp
 ·rw [h.pack k hk,if_pos hk,if_neg (by omega)]
theorem Rows.step {av:List Int} {aa:List (List Int)} {i j:Nat} {rows:Nat->List Int} (h:Rows av aa i j rows) (hi:i<av.length) (hj:j<aa.length):
 Rows av aa i (j+1) (fun k=>if k=av.length+j then rows (av.length+j)++[ind (aa.getD j []) (av.getD i 0)] else if k=i then rows i++[- ind (aa.getD j []) (av.getD i 0)] else rows k):=by
 have hej:aa.getD j []=aa[j]:=by simp [List.getD_eq_getElem?_getD,hj]
 have hbi:av.getD i 0=av[i]:=by simp [List.getD_eq_getElem?_getD,hi]
 refine ⟨fun k hk=>?_,fun k hk=>?_⟩
 ·show (if k=av.length+j then _ else if k=i then _ else rows k)=_
  rw [if_neg (by omega)]
  by_cases e:k=i
  ·subst e
   rw [if_pos rfl,h.ZU k hk,if_neg (by omega),if_pos rfl,if_neg (by omega),if_pos rfl,List.take_succ_eq_append_getElem hj,List.map_append,hej];rfl
  ·rw [if_neg e,h.ZU k hk]
   by_cases e2:k<i
   ·rw [if_pos e2,if_pos e2]
   ·rw [if_neg e2,if_neg e2,if_neg e,if_neg e]
 ·show (if av.length+k=av.length+j then _ else if av.length+k=i then _ else rows (av.length+k))=_
  by_cases e:k=j
  ·subst e
   rw [if_pos rfl,h.pack k hk,if_neg (by omega),if_pos (by omega),List.take_succ_eq_append_getElem hi,List.map_append,hbi];rfl
  ·rw [if_neg (by omega),if_neg (by omega),h.pack k hk]
   by_cases e2:k<j
   ·rw [if_pos e2,if_pos (by omega)]
   ·rw [if_neg e2,if_neg (by omega)]
theorem Rows.len {av:List Int} {aa:List (List Int)} {i j:Nat} {rows:Nat->List Int} (h:Rows av aa i j rows) (hb:av.length<=6) (he:aa.length<=7):∀k,k<av.length+aa.length->(rows k).length<=7:=by
 intro k hk
 by_cases e:k<av.length
 ·rw [h.ZU k e]
  split
  ·simpa using he
  ·split
   ·simp;omega
   ·simp
 ·have e2:k=av.length+(k - av.length):=by omega
  rw [e2,h.pack _ (by omega)]
  simp;omega
theorem WL {W W1:World} {k:Nat} {cs:Array Value} {t:TypeId} {v:Value} {base:Nat} {xs:List Int} (h:W.heap[k]? =some (.cells cs t (0,0))) (ht:t≠3) (hR:Kd.R (Kd.int .i64) 3 W base (fun _=>True) v xs) (hg:W.grownBy W1 v.ownBlock):W1.heap[k]? =some (.cells cs t (0,0)):=
 (hg.block k (bf h) (fun e=>by
   obtain ⟨_,_,cells,hk⟩:=Ag hR e.symm
   rw [h] at hk;simp only [Option.some.injEq,Obj.cells.injEq] at hk
   exact absurd hk.2.1 ht)).trans h
theorem Td {W W1:World} {k:Nat} {o:Obj} {v:Value} (h:W.heap[k]? =some o) (hne:v.ownBlock≠some k) (hg:W.grownBy W1 v.ownBlock):W1.heap[k]? =some o:=
 (hg.block k (bf h) (fun e=>hne e.symm)).trans h
theorem a2D {W:World} {base:Nat} {v:Value} {xs:List Int} (h:Kd.R (Kd.int .i64) 3 W base (fun _=>True) v xs):∃B n d,v= .slice B n d:=by
 obtain ⟨B,d,e⟩:=Kd.gJ h
 exact ⟨B,_,d,e⟩
theorem Rj (W:World) (p:Addr) (v:Value):(W.setCell p v).heap.size=W.heap.size:=Array.size_modify
def UC (N g:Nat) (vs:Nat->Value):Prop:=∀k,k<N->(vs k).ownBlock≠some g
theorem UC.put {N g i:Nat} {vs:Nat->Value} {v1:Value} {W:World} (h:UC N g vs) (hi:i<N) (hg:g<W.heap.size) (hat:v1.ownBlock=(vs i).ownBlock∨∃b,v1.ownBlock=some b/\W.heap.size<=b):UC N g (fun k=>if k=i then v1 else vs k):=by
 intro k hk
 show (if k=i then v1 else vs k).ownBlock≠some g
 by_cases e:k=i
 ·rw [if_pos e]
  rcases hat with hat|⟨b,hb,hs⟩
  ·rw [hat];exact h i hi
  ·rw [hb];intro e2;have:=Option.some.inj e2;omega
 ·rw [if_neg e];exact h k hk
theorem tj.off {W:World} {base N:Nat} {vs:Nat->Value} {rows:Nat->List Int} (h:tj W base N vs rows) {g:Nat} (hg:W.heap.size<=g):UC N g vs:=by
 intro k hk e
 have:=(Ag (h.own k hk) e).2.1
 omega
def zi (av:List Int) (aa:List (List Int)):List (List Int):=av.map (fun v=>aa.map (fun e=> - ind e v))
def vt (av:List Int) (aa:List (List Int)):List (List Int):=aa.map (fun e=>av.map (fun v=>ind e v))
def a2E (av:List Int) (aa:List (List Int)):bA:=init aa.length av.length (fun i j=>((((zi av aa).getD i []).getD j 0:Int):Rat)) (fun _=>((-1:Int):Rat)) ((1:Int):Rat)
def WM (av:List Int) (aa:List (List Int)):bA:=init av.length aa.length (fun i j=>((((vt av aa).getD i []).getD j 0:Int):Rat)) (fun _=>((1:Int):Rat)) ((-1:Int):Rat)
def mH (av:List Int) (aa:List (List Int)):Bool:=av.all (fun v=>aa.any (fun e=>decide (v∈e)))
theorem Ah {W:World} {g g':Nat} {cs cs':Array Value} {t t':TypeId} (h:W.heap[g]? =some (.cells cs t (0,0))) (h':W.heap[g']? =some (.cells cs' t' (0,0))) (ht:t≠t'):g≠g':=by
 intro e;rw [e,h'] at h;simp only [Option.some.injEq,Obj.cells.injEq] at h;exact ht h.2.1.symm
def a7e (w:World) (av:List Int) (aa:List (List Int)) (QC QP:bA->Prop) (e:Ending) (w':World):Prop:=
 ∃g1 cs1 g2 iy T1 T2,e= .returned (.agg #[.bool true,.int .i64 (sm T1 (aa.length+av.length) aa.length av.length).num,.int .i64 ((sm T1 (aa.length+av.length) aa.length av.length).den:Int),.slice (some ⟨g1,0,none⟩) aa.length aa.length,.slice (some ⟨g2,0,none⟩) av.length av.length])/\QC T1/\QP T2/\
  w'.heap[g1]? =some (.cells cs1 34 (0,0))/\wT cs1 aa.length (fun j=>((xq T1 (aa.length+av.length) av.length j).num,((xq T1 (aa.length+av.length) av.length j).den:Int)))/\
  w'.heap[g2]? =some (.cells iy 34 (0,0))/\wT iy av.length (fun j=>((xq T2 (av.length+aa.length) aa.length j).num,((xq T2 (av.length+aa.length) aa.length j).den:Int)))/\
  g1≠g2/\w.heap.size<=g1/\w.heap.size<=g2/\Below w.heap.size w w'
def a7f (w:World) (av:List Int) (aa:List (List Int)) (QC QP:bA->Prop) (e:Ending) (w':World):Prop:=
 (mH av aa=true/\a7e w av aa QC QP e w')∨(mH av aa=false/\e= .returned (.agg ye)/\Below w.heap.size w w')
theorem a2F {av:List Int} {aa:List (List Int)} {rows:Nat->List Int} (h:Rows av aa av.length 0 rows):(List.range av.length).map (fun i=>rows (0+i))=zi av aa:=by
 unfold zi
 apply List.ext_getElem
 ·simp
 ·intro i h1 h2
  have hi:i<av.length:=by simpa using h1
  simp only [List.getElem_map,List.getElem_range,Nat.zero_add]
  rw [h.ZU i hi,if_pos hi]
  have:av.getD i 0=av[i]:=by simp [List.getD_eq_getElem?_getD,hi]
  rw [this]
theorem ZV {av:List Int} {aa:List (List Int)} {rows:Nat->List Int} (h:Rows av aa av.length 0 rows):(List.range aa.length).map (fun i=>rows (av.length+i))=vt av aa:=by
 unfold vt
 apply List.ext_getElem
 ·simp
 ·intro i h1 h2
  have hi:i<aa.length:=by simpa using h1
  simp only [List.getElem_map,List.getElem_range]
  rw [h.pack i hi,if_neg (by omega),List.take_length]
  have:aa.getD i []=aa[i]:=by simp [List.getD_eq_getElem?_getD,hi]
  rw [this]
structure St (w:World) (av:List Int) (aa:List (List Int)) (gC gP g8:Nat) (v:Int) (W:World) (vs vc:Nat->Value) (rows:Nat->List Int):Prop where
 Fs:tj W w.heap.size (av.length+aa.length) vs rows
 cc:lX W gC av.length 0 vc
 cp:lX W gP aa.length av.length vc
 az:W.heap[w.heap.size]? =some (.cells ye 58 (0,0))
 bx:W.heap[g8]? =some (.cells #[.int .i64 v] 3 (0,0))
 off:UC (av.length+aa.length) g8 vs
 mM:Below w.heap.size w W
 ne:gP≠gC/\w.heap.size≠gC/\w.heap.size≠gP/\g8≠gC/\g8≠gP/\w.heap.size<=gC/\w.heap.size<=gP
section
variable {w W w1:World} {av:List Int} {aa:List (List Int)} {gC gP g8:Nat} {v:Int} {vs vc:Nat->Value} {rows:Nat->List Int}
theorem St.below (h:St w av aa gC gP g8 v W vs vc rows) (hb:Below W.heap.size W w1):St w av aa gC gP g8 v w1 vs vc rows:=
 ⟨h.Fs.below hb,h.cc.below hb,h.cp.below hb,aj h.az hb,aj h.bx hb,h.off,ah h.mM hb,h.ne⟩
theorem St.app (h:St w av aa gC gP g8 v W vs vc rows) {i:Nat} (hi:i<av.length+aa.length) {v1:Value} {xs:List Int} (ho:Kd.R (Kd.int .i64) 3 w1 w.heap.size (fun _=>True) v1 xs) (hb:Below w.heap.size w w1) (hg:W.grownBy w1 (vs i).ownBlock) (hat:v1.ownBlock=(vs i).ownBlock∨∃b,v1.ownBlock=some b/\W.heap.size<=b):
 ∃B n d,v1= .slice B n d/\St w av aa gC gP g8 v w1 (fun k=>if k=i then v1 else vs k) vc (fun k=>if k=i then xs else rows k):=by
 obtain ⟨B,n,d,e⟩:=a2D ho
 have hR:=h.Fs.own i hi
 exact ⟨B,n,d,e,h.Fs.app hi ho hg hat,h.cc.grown hR hg,h.cp.grown hR hg,WL h.az (by decide) hR hg,Td h.bx (h.off i hi) hg,h.off.put hi (bf h.bx) hat,hb,h.ne⟩
theorem St.b0c (h:St w av aa gC gP g8 v W vs vc rows) {i:Nat} (hi:i<av.length) (x:Value):St w av aa gC gP g8 v (W.setCell ⟨gC,i,none⟩ x) vs (fun k=>if k=i then x else vc k) rows:=by
 obtain ⟨n1,n2,n3,n4,n5,n6,n7⟩:=h.ne
 refine ⟨?_,?_,(h.cp.other n1).congr (fun k _=>if_neg (by omega)),bz h.az n2,bz h.bx n4,h.off,bR h.mM n6,h.ne⟩
 ·obtain ⟨cs,hc,_⟩:=h.cc;exact h.Fs.put hc (by decide) i x
 ·have:=h.cc.put hi x;rwa [Nat.zero_add] at this
theorem St.b0d (h:St w av aa gC gP g8 v W vs vc rows) {j:Nat} (hj:j<aa.length) (x:Value):St w av aa gC gP g8 v (W.setCell ⟨gP,j,none⟩ x) vs (fun k=>if k=av.length+j then x else vc k) rows:=by
 obtain ⟨n1,n2,n3,n4,n5,n6,n7⟩:=h.ne
 refine ⟨?_,(h.cc.other (fun e=>n1 e.symm)).congr (fun k hk=>if_neg (by omega)),h.cp.put hj x,bz h.az n3,bz h.bx n5,h.off,bR h.mM n7,h.ne⟩
 obtain ⟨cs,hc,_⟩:=h.cp;exact h.Fs.put hc (by decide) j x
theorem St.UD (h:St w av aa gC gP g8 v W vs vc rows) {i:Nat} (hi:i<av.length):W.cell? ⟨gC,i,none⟩=some (vc i)/\W.frozen? ⟨gC,i,none⟩=false:=by
 have:=h.cc.at hi
 rw [Nat.zero_add] at this
 exact ⟨this,h.cc.frozen i⟩
theorem St.UE (h:St w av aa gC gP g8 v W vs vc rows) {j:Nat} (hj:j<aa.length):W.cell? ⟨gP,j,none⟩=some (vc (av.length+j))/\W.frozen? ⟨gP,j,none⟩=false:=⟨h.cp.at hj,h.cp.frozen j⟩
theorem St.at8 (h:St w av aa gC gP g8 v W vs vc rows):W.cell? ⟨g8,0,none⟩=some (.int .i64 v):=(ag h.bx 0).trans rfl
end
set_option maxHeartbeats 2000000 in
set_option maxRecDepth 100000 in
theorem Rk (A0:Option Addr) (c0:Nat) (av:List Int) (A1:Option Addr) (c1:Nat) (aa:List (List Int)) (w:World) (h0:Kd.C (Kd.int .i64) w A0 av.length av) (l0:av.length<=c0) (h1:Kd.C mN w A1 aa.length aa) (l1:aa.length<=c1)
 (hnb:av.length<=6) (hne:aa.length<=7) (hr:∀x,x∈aa->x.length<=1048576) (hok:iA (-1) av=true) (b0e:aa.all (iA (-1))=true) (QC QP:bA->Prop)
 (hFe:mH av aa=true->∀cs W,ic cs av.length (aa.length+av.length) (aa.length+1) (a2E av aa)->Calls Try.prog 61 #[.agg cs] W fun e w'=>∃cs' T,e= .returned (.agg cs')/\ic cs' av.length (aa.length+av.length) (aa.length+1) T/\QC T/\Below W.heap.size W w')
 (hLe:mH av aa=true->∀cs W,ic cs aa.length (av.length+aa.length) (av.length+1) (WM av aa)->Calls Try.prog 62 #[.agg cs] W fun e w'=>∃cs' T,e= .returned (.agg cs')/\ic cs' aa.length (av.length+aa.length) (av.length+1) T/\QP T/\Below W.heap.size W w')
 (hQC:∀T,QC T->(∀r,r<av.length->T.basis r<16)/\(∀r,r<av.length->Ok (T.cell r (aa.length+av.length)))/\∀r,r<=av.length->Ok (sm T (aa.length+av.length) aa.length r))
 (hQP:∀T,QP T->(∀r,r<aa.length->T.basis r<16)/\(∀r,r<aa.length->Ok (T.cell r (av.length+aa.length)))/\∀r,r<=aa.length->Ok (sm T (av.length+aa.length) av.length r)):
 Calls Try.prog 36 #[.slice A0 av.length c0,.slice A1 aa.length c1] w (a7f w av aa QC QP):=by
 obtain ⟨k1,hk1⟩:=Ev.rounds (Gl av (by omega))
 rw [hok] at hk1
 have Fb:=Aside0.mk (fun W (hb:Below w.heap.size w W)=>dG.calls k1 A0 c0 av _ W (Kd.bp h0 hb) l0 hk1)
 have Jd:=Aside0.mk (fun W (hb:Below w.heap.size w W)=>Fp A1 c1 aa W (Kd.bp h1 hb) l1 hr)
 rw [b0e,decide_eq_true hne] at Jd
 have b7p:=ZQ av.length (by omega)
 have b7q:=ZQ aa.length (by omega)
 have eu:=Aside0.mk h0
 have gA:=Aside0.mk h1
 have HB:=Aside0.mk (Below.refl w.heap.size w)
 have HFe:=Aside0.mk hFe
 have HLe:=Aside0.mk hLe
 have HQC:=Aside0.mk hQC
 have HQP:=Aside0.mk hQP
 clear h0 h1 hk1 hok b0e hFe hLe hQC hQP
 go_enter Try.func36,Try.ntmps36
 go_wp2_with (first|(go_at_call 53;(with_reducible refine (Fb.out _ (aT HB.out _)).mono ?_);rintro e w1 ⟨rfl,hb1⟩;have di:=Aside0.mk (ah (aT HB.out (.cells ye 58)) (dH hb1));have fB:Aside0 (w1.heap[w.heap.size]? =some (.cells ye 58 (0,0))):=⟨aj (dn w _) (dH hb1)⟩;clear hb1)|(go_at_call 52;(with_reducible refine (Jd.out _ di.out).mono ?_);rintro e w2 ⟨rfl,hb2⟩;have fQ:=Aside0.mk (ah di.out hb2);have ji:=Aside0.mk (aj fB.out hb2);clear hb2))
 have a2G:Aside0 (lX ((w2.alloc (.cells (mG av.length) 23)).alloc (.cells (mG aa.length) 23)) w2.heap.size av.length 0 (fun _=> .slice none 0 0)):=⟨Rf (ai (dn w2 _) _)⟩
 have a2H:Aside0 (lX ((w2.alloc (.cells (mG av.length) 23)).alloc (.cells (mG aa.length) 23)) (w2.heap.size+1) aa.length av.length (fun _=> .slice none 0 0)):=⟨Rf (by have:=dn (w2.alloc (.cells (mG av.length) 23)) (.cells (mG aa.length) 23);rw [qi] at this;exact this)⟩
 have b0h:Aside0 (((w2.alloc (.cells (mG av.length) 23)).alloc (.cells (mG aa.length) 23)).heap[w.heap.size]? =some (.cells ye 58 (0,0))):=⟨ai (ai ji.out _) _⟩
 have eN:Aside0 (Below w.heap.size w ((w2.alloc (.cells (mG av.length) 23)).alloc (.cells (mG aa.length) 23))):=⟨aT (aT fQ.out _) _⟩
 have UF:Aside0 (w.heap.size<w2.heap.size):=⟨bf ji.out⟩
 obtain ⟨gC,hgC⟩:∃gC,gC=w2.heap.size:=⟨_,rfl⟩
 obtain ⟨gP,hgP⟩:∃gP,gP=w2.heap.size+1:=⟨_,rfl⟩
 have HgP:Aside0 (gP≠gC):=⟨by omega⟩
 have HgA:Aside0 (w.heap.size≠gC):=⟨by have:=UF.out;omega⟩
 have b7r:Aside0 (w.heap.size≠gP):=⟨by have:=UF.out;omega⟩
 replace UF:Aside0 (w.heap.size<=gC):=⟨by have:=UF.out;omega⟩
 have b7s:Aside0 (w.heap.size<=gP):=⟨by have:=UF.out;omega⟩
 rw [<-hgC] at a2G
 rw [<-hgP] at a2H
 rw [<-hgP,<-hgC]
 clear fB di ji fQ Fb Jd HB hgC hgP b7p b7q
 generalize ((w2.alloc (.cells (mG av.length) 23)).alloc (.cells (mG aa.length) 23))=w4 at*
 go_loopw [30] (fun iv wr=>∃(i:Nat) (vs:Nat->Value) (rows:Nat->List Int),iv= .int .i64 (i:Int)/\i<=av.length/\Aside0 (∀k,k<i->aa.any (fun e=>decide (av.getD k 0∈e))=true)/\Aside0 (Rows av aa i 0 rows)/\Aside0 (tj wr w.heap.size (av.length+aa.length) vs rows)/\Aside0 (lX wr gC av.length 0 vs)/\Aside0 (lX wr gP aa.length av.length vs)/\Aside0 (wr.heap[w.heap.size]? =some (.cells ye 58 (0,0)))/\Aside0 (Below w.heap.size w wr)) (fun iv _=>av.length -(intOf iv).toNat)
 case atStart=>exact ⟨0,_,_,rfl,by omega,⟨fun k hk=>by omega⟩,⟨Rows.start _ _⟩,⟨a2A _ _ _⟩,a2G,a2H,b0h,eN⟩
 case round=>
  clear a2G a2H b0h eN
  obtain ⟨i,vs,rows,rfl,hi,wK,BV,HF,ZW,UG,UH,cO⟩:=hrel
  by_cases hib:i<av.length
  ·have yf:=Aside0.mk hib
   obtain ⟨ad,e,hx⟩:=Kd.gL eu.out (i:Int) (by omega) (by omega)
   cases e
   have hrd:rd av (i:Int)=av.getD i 0:=rfl
   rw [hrd,Int.toNat_natCast] at hx
   obtain ⟨v,hv⟩:∃v,v=av.getD i 0:=⟨_,rfl⟩
   rw [<-hv] at hx
   have HVi:Aside0 (av.getD i 0=v):=⟨hv.symm⟩
   have hx2:wr.cell? (ad.add i)=some (.int .i64 v):=(cO.out.cell (World.block_lt_of_cell? w _ hx)).trans hx
   have g0:(0:Int)<=(i:Int):=by omega
   have g1:(i:Int)<(av.length:Int):=by omega
   have oB:decide ((i:Int)<(av.length:Int))=true:=decide_eq_true g1
   have mW:decide (i<av.length)=true:=decide_eq_true hib
   have fE:Aside0 (wrap64 ((i:Int)+1)=((i+1:Nat):Int)):=⟨dQ (by omega)⟩
   have QD:Aside0 ((wr.alloc (.cells #[.int .i64 v] 3)).heap[wr.heap.size]? =some (.cells #[.int .i64 v] 3 (0,0))):=⟨dn wr _⟩
   have WN:Aside0 (∀W,Below w.heap.size w W->W.heap[wr.heap.size]? =some (.cells #[.int .i64 v] 3 (0,0))->Calls Try.prog 57 #[.slice A1 aa.length c1,.func (.func 58) #[] #[.pointer (some ⟨wr.heap.size,0,none⟩)]] W fun e w'=>e= .returned (.bool (aa.any (fun e=>decide (v∈e))))/\Below W.heap.size W w'):=⟨fun W hb hg=>LP (fun e=>decide (v∈e)) A1 c1 aa wr.heap.size W (Kd.bp gA.out hb) l1 (fun row hrow A2 c2 W2 hb2 hC hc=>ZO A2 c2 row wr.heap.size v W2 hC hc (hr row hrow) ((ag (aj hg hb2) 0).trans rfl))⟩
   have HGs:Aside0 (w.heap.size<=wr.heap.size):=⟨cO.out.size⟩
   have HgG:Aside0 (wr.heap.size≠gC):=⟨Nat.ne_of_gt ZW.out.lt⟩
   have b7t:Aside0 (wr.heap.size≠gP):=⟨Nat.ne_of_gt UG.out.lt⟩
   have b0l:Aside0 (UC (av.length+aa.length) wr.heap.size vs):=⟨HF.out.off (Nat.le_refl _)⟩
   generalize Gs:aa.any (fun e=>decide (v∈e))=y at WN
   clear hib hi hrd hx
   cases y with
   |false=>
    have b3o:=Aside0.mk Gs
    clear hv Gs
    go_wp2_with (first|(go_at_call 57;(with_reducible refine (WN.out _ (aT cO.out _) QD.out).mono ?_);rintro e w1 ⟨rfl,hb1⟩;have tN:=Aside0.mk (aj (ai UH.out _) hb1);have di:=Aside0.mk (ah (aT cO.out _) hb1);have hz0:=(ag tN.out 0).trans rfl;have hz1:=(ag tN.out 1).trans rfl;have hz2:=(ag tN.out 2).trans rfl;have hz3:=(ag tN.out 3).trans rfl;have oL:=(ag tN.out 4).trans rfl;have hy0:=af tN.out 0;have hy1:=af tN.out 1;have Nq:=af tN.out 2;have ZX:=af tN.out 3;have ZY:=af tN.out 4;clear hb1))
    have HR5:Aside0 ((((((w1.setCell ⟨w.heap.size,0,none⟩ (.bool false)).setCell ⟨w.heap.size,1,none⟩ (.int .i64 0)).setCell ⟨w.heap.size,2,none⟩ (.int .i64 0)).setCell ⟨w.heap.size,3,none⟩ (.slice none 0 0)).setCell ⟨w.heap.size,4,none⟩ (.slice none 0 0)).heap[w.heap.size]? =some (.cells ye 58 (0,0))):=⟨bh (bh (bh (bh (bh tN.out 0 _ (cs':=ye) rfl) 1 _ (cs':=ye) rfl) 2 _ (cs':=ye) rfl) 3 _ (cs':=ye) rfl) 4 _ (cs':=ye) rfl⟩
    refine bodyPost_ret (results_cell_row rfl _ _ w.heap.size 58 ye (0,0) _ rfl HR5.out Try.underlying58 (by rfl) (by kernel_rfl)) rfl ?_
    refine .inr ⟨?_,rfl,bR (bR (bR (bR (bR di.out (Nat.le_refl _)) (Nat.le_refl _)) (Nat.le_refl _)) (Nat.le_refl _)) (Nat.le_refl _)⟩
    unfold mH
    rw [List.all_eq_false]
    have hib:=yf.out
    have hbv:av.getD i 0=av[i]:=by simp [List.getD_eq_getElem?_getD,hib]
    refine ⟨v,?_,by rw [b3o.out];decide⟩
    rw [<-HVi.out,hbv];exact List.getElem_mem hib
   |true=>
    have b3p:Aside0 (∀k,k<i+1->aa.any (fun e=>decide (av.getD k 0∈e))=true):=⟨fun k hk=>by
     by_cases e:k=i
     ·rw [e,<-hv];exact Gs
     ·exact wK.out k (by omega)⟩
    clear hv Gs wK
    go_wp2_with (first|(go_at_call 57;(with_reducible refine (WN.out _ (aT cO.out _) QD.out).mono ?_);rintro e w1 ⟨rfl,hb1⟩;have hba:Below wr.heap.size wr w1:=ah (aT (Below.refl _ _) _) hb1;have tN:=Aside0.mk (aj UH.out hba);have QH:=Aside0.mk (aj QD.out hb1);have BP:=Aside0.mk (HF.out.below hba);have b0n:=Aside0.mk (ZW.out.below hba);have b0o:=Aside0.mk (UG.out.below hba);have di:=Aside0.mk (ah cO.out hba);clear hb1 hba))
    clear UH QD HF ZW UG cO WN hx2
    generalize wr.heap.size=g8 at*
    go_loopw [42] (fun jv wr=>∃(j:Nat) (vs:Nat->Value) (rows:Nat->List Int),jv= .int .i64 (j:Int)/\j<=aa.length/\Aside0 (Rows av aa i j rows)/\Aside0 (St w av aa gC gP g8 v wr vs vs rows)) (fun jv _=>aa.length -(intOf jv).toNat)
    case atStart=>exact ⟨0,vs,rows,rfl,by omega,BV,⟨BP.out,b0n.out,b0o.out,tN.out,QH.out,b0l.out,di.out,HgP.out,HgA.out,b7r.out,HgG.out,b7t.out,UF.out,b7s.out⟩⟩
    case round=>
     clear BV BP b0n b0o tN QH b0l di
     obtain ⟨j,vs,rows,rfl,hj,BV,HS⟩:=hrel
     by_cases NP:j<aa.length
     ·have yO:=Aside0.mk NP
      obtain ⟨Jc,A2,c2,e,hy,hly,hCy⟩:=Ad gA.out j NP
      cases e
      have HEj:Aside0 (aa.getD j []=aa[j]):=⟨by simp [List.getD_eq_getElem?_getD,NP]⟩
      have hle:=hr _ (List.getElem_mem NP)
      obtain ⟨kh,hkh⟩:=Ev.rounds (rD aa[j] v hle)
      have WO:Aside0 (∀W,Below w.heap.size w W->Calls Try.prog 54 #[.slice A2 (aa[j]).length c2,.int .i64 v] W fun e w'=>e= .returned (.bool (decide (v∈aa[j])))/\aW W w'):=⟨fun W hb=>dP.calls kh A2 c2 aa[j] v _ W (Kd.bp hCy hb) hly hkh⟩
      have Nq:wr.cell? (Jc.add j)=some (.slice A2 (aa[j]).length c2):=(HS.out.mM.cell (World.block_lt_of_cell? w _ hy)).trans hy
      clear hy hly hCy hle hkh
      generalize aa[j]=e at*
      have hbx0:=HS.out.at8
      have g2:(0:Int)<=(j:Int):=by omega
      have g3:(j:Int)<(aa.length:Int):=by omega
      have g3d:decide ((j:Int)<(aa.length:Int))=true:=decide_eq_true g3
      have Nh:decide (j<aa.length)=true:=decide_eq_true NP
      have rL:Aside0 (wrap64 ((j:Int)+1)=((j+1:Nat):Int)):=⟨dQ (by omega)⟩
      have CH:Aside0 (i<av.length+aa.length):=⟨by have:=yf.out;omega⟩
      have UI:Aside0 (av.length+j<av.length+aa.length):=⟨by omega⟩
      have Ff:Aside0 (¬av.length+j=i):=⟨by have:=yf.out;omega⟩
      have NI:Aside0 (∀k,k<av.length+aa.length->(rows k).length<=7):=⟨BV.out.len hnb hne⟩
      clear NP hj
      by_cases hmem:decide (v∈e)=true
      ·have Jo:ind e v=1:=by unfold ind;rw [if_pos (of_decide_eq_true hmem)]
       have Rl:Aside0 (Rows av aa i (j+1) (fun k=>if k=av.length+j then rows (av.length+j)++[1] else if k=i then rows i++[-1] else rows k)):=⟨by
        have:=BV.out.step yf.out yO.out
        rw [HEj.out,HVi.out,Jo] at this
        exact this⟩
       rw [hmem] at WO
       clear Jo hmem
       go_wp2_with (first|(go_at_call 54;(with_reducible refine (WO.out _ (by first|exact HS.out.mM|exact aI HS.out.mM)).mono ?_);rintro e w1 ⟨rfl,hb1⟩;have jY:=Aside0.mk (HS.out.below (dH hb1));have hp0:=(jY.out.UD yf.out).1;clear hb1)|((with_reducible refine gW (b:= .append) (xs:= #[.tmp 55,.tmp 58]) rfl ?_);at_builtin;refine Kd.mR (Kd.int .i64) (w0:=w) w.heap.size rfl _ _ 23 3 (.int .i64 0) 8 rfl Try.underlying23 info3 rfl (by decide) (by omega) (vs i) (rows i) (-1) [.int .i64 (-1)] (fun _=>True) (fun _=>False) rfl (by first|rfl|(go_simp;done)|(go_simp;rfl)) rfl (fun _ hk=>hk.elim) (fun _ _=>trivial) (jY.out.Fs.own i CH.out) jY.out.mM jY.out.mM.size (by have:=NI.out i CH.out;omega) ?_;intro v1 w3 xS hb3 hg3 Bg;obtain ⟨B1,n1,d1,rfl,hs3⟩:=jY.out.app CH.out xS hb3 hg3 Bg;have Rm:=Aside0.mk hs3;have Fe:=(Rm.out.UD yf.out).1;have hq1:=(Rm.out.UD yf.out).2;have Dg:=Aside0.mk (Rm.out.b0c yf.out (Value.slice B1 n1 d1));have hq2:=(Dg.out.UE yO.out).1;simp only [if_neg Ff.out] at hq2;have QB:=Aside0.mk (Dg.out.Fs.own _ UI.out);simp only [if_neg Ff.out] at QB;clear hs3 xS hb3 hg3 Bg)|((with_reducible refine gW (b:= .append) (xs:= #[.tmp 66,.tmp 68]) rfl ?_);at_builtin;refine Kd.mR (Kd.int .i64) (w0:=w) w.heap.size rfl _ _ 23 3 (.int .i64 0) 8 rfl Try.underlying23 info3 rfl (by decide) (by omega) (vs (av.length+j)) (rows (av.length+j)) (1) [.int .i64 (1)] (fun _=>True) (fun _=>False) rfl (by first|rfl|exact congrArg (fun n=>Value.slice (some ⟨n,0,none⟩) 1 1) (Rj _ _ _).symm|(go_simp;done)|(go_simp;rfl)) rfl (fun _ hk=>hk.elim) (fun _ _=>trivial) QB.out Dg.out.mM Dg.out.mM.size (by have:=NI.out (av.length+j) UI.out;omega) ?_;intro v2 w5 lJ jN ZZ Rn;obtain ⟨B2,n2,d2,rfl,hs5⟩:=Dg.out.app UI.out lJ jN (by simp only [if_neg Ff.out];exact ZZ) (by simp only [if_neg Ff.out];exact Rn);have Ro:=Aside0.mk hs5;have hq3:=(Ro.out.UE yO.out).1;have hq4:=(Ro.out.UE yO.out).2;clear hs5 lJ jN ZZ Rn))
       have Zh:=Aside0.mk (Ro.out.b0d yO.out (Value.slice B2 n2 d2))
       go_roundw
       case rel=>exact ⟨j+1,_,_,by first|(rw [rL.out];done)|rfl|(simp;done),yO.out,Rl,Zh⟩
       case measure=>(try rw [rL.out]);have:=yO.out;simp [intOf];omega
      ·replace hmem:decide (v∈e)=false:=Bool.eq_false_iff.mpr hmem
       have Jo:ind e v=0:=by unfold ind;rw [if_neg (of_decide_eq_false hmem)]
       have Rl:Aside0 (Rows av aa i (j+1) (fun k=>if k=av.length+j then rows (av.length+j)++[0] else if k=i then rows i++[0] else rows k)):=⟨by
        have:=BV.out.step yf.out yO.out
        rw [HEj.out,HVi.out,Jo] at this
        exact this⟩
       rw [hmem] at WO
       clear Jo hmem
       go_wp2_with (first|(go_at_call 54;(with_reducible refine (WO.out _ (by first|exact HS.out.mM|exact aI HS.out.mM)).mono ?_);rintro e w1 ⟨rfl,hb1⟩;have jY:=Aside0.mk (HS.out.below (dH hb1));have hp0:=(jY.out.UD yf.out).1;clear hb1)|((with_reducible refine gW (b:= .append) (xs:= #[.tmp 55,.tmp 58]) rfl ?_);at_builtin;refine Kd.mR (Kd.int .i64) (w0:=w) w.heap.size rfl _ _ 23 3 (.int .i64 0) 8 rfl Try.underlying23 info3 rfl (by decide) (by omega) (vs i) (rows i) (0) [.int .i64 (0)] (fun _=>True) (fun _=>False) rfl (by first|rfl|(go_simp;done)|(go_simp;rfl)) rfl (fun _ hk=>hk.elim) (fun _ _=>trivial) (jY.out.Fs.own i CH.out) jY.out.mM jY.out.mM.size (by have:=NI.out i CH.out;omega) ?_;intro v1 w3 xS hb3 hg3 Bg;obtain ⟨B1,n1,d1,rfl,hs3⟩:=jY.out.app CH.out xS hb3 hg3 Bg;have Rm:=Aside0.mk hs3;have Fe:=(Rm.out.UD yf.out).1;have hq1:=(Rm.out.UD yf.out).2;have Dg:=Aside0.mk (Rm.out.b0c yf.out (Value.slice B1 n1 d1));have hq2:=(Dg.out.UE yO.out).1;simp only [if_neg Ff.out] at hq2;have QB:=Aside0.mk (Dg.out.Fs.own _ UI.out);simp only [if_neg Ff.out] at QB;clear hs3 xS hb3 hg3 Bg)|((with_reducible refine gW (b:= .append) (xs:= #[.tmp 66,.tmp 68]) rfl ?_);at_builtin;refine Kd.mR (Kd.int .i64) (w0:=w) w.heap.size rfl _ _ 23 3 (.int .i64 0) 8 rfl Try.underlying23 info3 rfl (by decide) (by omega) (vs (av.length+j)) (rows (av.length+j)) (0) [.int .i64 (0)] (fun _=>True) (fun _=>False) rfl (by first|rfl|exact congrArg (fun n=>Value.slice (some ⟨n,0,none⟩) 1 1) (Rj _ _ _).symm|(go_simp;done)|(go_simp;rfl)) rfl (fun _ hk=>hk.elim) (fun _ _=>trivial) QB.out Dg.out.mM Dg.out.mM.size (by have:=NI.out (av.length+j) UI.out;omega) ?_;intro v2 w5 lJ jN ZZ Rn;obtain ⟨B2,n2,d2,rfl,hs5⟩:=Dg.out.app UI.out lJ jN (by simp only [if_neg Ff.out];exact ZZ) (by simp only [if_neg Ff.out];exact Rn);have Ro:=Aside0.mk hs5;have hq3:=(Ro.out.UE yO.out).1;have hq4:=(Ro.out.UE yO.out).2;clear hs5 lJ jN ZZ Rn))
       have Zh:=Aside0.mk (Ro.out.b0d yO.out (Value.slice B2 n2 d2))
       go_roundw
       case rel=>exact ⟨j+1,_,_,by first|(rw [rL.out];done)|rfl|(simp;done),yO.out,Rl,Zh⟩
       case measure=>(try rw [rL.out]);have:=yO.out;simp [intOf];omega
     ·have g3d:decide ((j:Int)<(aa.length:Int))=false:=decide_eq_false (by omega)
      have Nh:decide (j<aa.length)=false:=decide_eq_false NP
      have hj':j=aa.length:=by omega
      rw [hj'] at BV
      have Rl:=Aside0.mk BV.out.next
      clear hj' NP hj BV
      go_wp2
      go_roundw
      case rel=>exact ⟨i+1,vs,rows,by first|(rw [fE.out];done)|rfl|(simp;done),yf.out,b3p,Rl,⟨HS.out.Fs⟩,⟨HS.out.cc⟩,⟨HS.out.cp⟩,⟨HS.out.az⟩,⟨HS.out.mM⟩⟩
      case measure=>(try rw [fE.out]);have:=yf.out;simp [intOf];omega
  ·have hi':i=av.length:=by omega
   have oB:decide ((i:Int)<(av.length:Int))=false:=decide_eq_false (by omega)
   have mW:decide (i<av.length)=false:=decide_eq_false hib
   rw [hi'] at BV wK
   clear hi' hib hi
   have HCB:Aside0 (mH av aa=true):=⟨by
    unfold mH
    rw [List.all_eq_true]
    intro x hx
    obtain ⟨k,hk,rfl⟩:=List.getElem_of_mem hx
    have:=wK.out k hk
    rwa [show av.getD k 0=av[k] by simp [List.getD_eq_getElem?_getD,hk]] at this⟩
   have UJ:Below wr.heap.size wr (wr.alloc (.cells #[.bool true,.int .i64 0,.int .i64 0,.slice none 0 0,.slice none 0 0] 58)):=aT (Below.refl _ _) _
   have HF6:=Aside0.mk (HF.out.below UJ)
   have b7u:=Aside0.mk (ZW.out.below UJ)
   have b7v:=Aside0.mk (UG.out.below UJ)
   have b7w:=Aside0.mk (aj UH.out UJ)
   have b0q:=Aside0.mk (ah cO.out UJ)
   have HX6:=Aside0.mk (dn wr (.cells #[.bool true,.int .i64 0,.int .i64 0,.slice none 0 0,.slice none 0 0] 58))
   have Dh:Aside0 (w.heap.size<=wr.heap.size/\w.heap.size≠wr.heap.size):=⟨⟨cO.out.size,Nat.ne_of_lt (bf UH.out)⟩⟩
   have b7x:Aside0 (∀W,Below (wr.alloc (.cells #[.bool true,.int .i64 0,.int .i64 0,.slice none 0 0,.slice none 0 0] 58)).heap.size (wr.alloc (.cells #[.bool true,.int .i64 0,.int .i64 0,.slice none 0 0,.slice none 0 0] 58)) W->Calls Try.prog 60 #[.slice (some ⟨gC,0,none⟩) av.length av.length,.int .i64 (aa.length:Int),.int .i64 1,.int .i64 (-1)] W fun e w'=>∃cs',e= .returned (.agg cs')/\ic cs' av.length (aa.length+av.length) (aa.length+1) (a2E av aa)/\Below W.heap.size W w'):=⟨fun W hb=>by
    have hlen:(zi av aa).length=av.length:=by unfold zi;rw [List.length_map]
    have hC:=NJ (HF6.out.below hb) (b7u.out.below hb) (show 0+av.length<=_ by omega) (by omega)
    rw [a2F BV.out] at hC
    have:=Fm aa.length av.length (zi av aa) (some ⟨gC,0,none⟩) av.length 1 (-1) W (by rw [hlen];exact hC) (by omega) hlen (fun x hx=>by
     unfold zi at hx
     obtain ⟨v,_,rfl⟩:=List.mem_map.1 hx
     rw [List.length_map]) (by omega) (by omega)
    rw [hlen] at this
    exact this⟩
   have b7y:Aside0 (∀W,tj W w.heap.size (av.length+aa.length) vs rows->lX W gP aa.length av.length vs->Calls Try.prog 60 #[.slice (some ⟨gP,0,none⟩) aa.length aa.length,.int .i64 (av.length:Int),.int .i64 (-1),.int .i64 1] W fun e w'=>∃cs',e= .returned (.agg cs')/\ic cs' aa.length (av.length+aa.length) (av.length+1) (WM av aa)/\Below W.heap.size W w'):=⟨fun W hF hP=>by
    have hlen:(vt av aa).length=aa.length:=by unfold vt;rw [List.length_map]
    have hC:=NJ hF hP (Nat.le_refl _) (by omega)
    rw [ZV BV.out] at hC
    have:=Fm av.length aa.length (vt av aa) (some ⟨gP,0,none⟩) aa.length (-1) 1 W (by rw [hlen];exact hC) (by omega) hlen (fun x hx=>by
     unfold vt at hx
     obtain ⟨v,_,rfl⟩:=List.mem_map.1 hx
     rw [List.length_map]) (by omega) (by omega)
    rw [hlen] at this
    exact this⟩
   have HgX:Aside0 (gP≠wr.heap.size):=⟨Nat.ne_of_lt UG.out.lt⟩
   have Rp:(1:Nat)<2:=by decide
   have b0s:(1:Nat)<3:=by decide
   clear HF ZW UG UH cO UJ wK
   go_wp2_with (first
    |(go_at_call 60;(with_reducible refine (b7x.out _ (Below.refl _ _)).mono ?_);rintro e w6 ⟨CF,rfl,hr6,hb6⟩;have HR6:=Aside0.mk hr6;have b7z:=Aside0.mk hb6;clear hr6 hb6)
    |(go_at_call 61;(with_reducible refine (HFe.out HCB.out _ _ HR6.out).mono ?_);rintro e w7 ⟨cs7,T1,rfl,Jp,hq7,xO⟩;have HR7:=Aside0.mk Jp;have HQ7:=Aside0.mk hq7;have b0t:=Aside0.mk (ah b7z.out xO);clear Jp hq7 xO)
    |(go_at_call 59;have tk:=Rp;(with_reducible refine (EY _ _ _ _ T1 _ _ HR7.out (by omega) (HQC.out _ HQ7.out).1 (HQC.out _ HQ7.out).2.1 (HQC.out _ HQ7.out).2.2).mono ?_);clear tk Rp;rintro e w8 ⟨g1,cs8,rfl,IV,hp8,hs8,ni⟩;have Rq:=Aside0.mk (ah b0t.out ni);have HP8:=Aside0.mk hp8;have Ns:=Aside0.mk IV;have HS8:=Aside0.mk hs8;have th:=Aside0.mk (aj HX6.out Rq.out);have hx1:=(ag th.out 1).trans rfl;have hx2:=(ag th.out 2).trans rfl;have hx3:=(ag th.out 3).trans rfl;have hy1:=af th.out 1;have Nq:=af th.out 2;have ZX:=af th.out 3;have Uc:Aside0 (tj (((w8.setCell ⟨wr.heap.size,3,none⟩ (.slice (some ⟨g1,0,none⟩) aa.length aa.length)).setCell ⟨wr.heap.size,1,none⟩ (.int .i64 (sm T1 (aa.length+av.length) aa.length av.length).num)).setCell ⟨wr.heap.size,2,none⟩ (.int .i64 ((sm T1 (aa.length+av.length) aa.length av.length).den:Int))) w.heap.size (av.length+aa.length) vs rows):=⟨((HF6.out.below Rq.out).put th.out (by decide) 3 _).put (heap_set th.out) (by decide) 1 _|>.put (heap_set (heap_set th.out)) (by decide) 2 _⟩;have b7A:Aside0 (lX (((w8.setCell ⟨wr.heap.size,3,none⟩ (.slice (some ⟨g1,0,none⟩) aa.length aa.length)).setCell ⟨wr.heap.size,1,none⟩ (.int .i64 (sm T1 (aa.length+av.length) aa.length av.length).num)).setCell ⟨wr.heap.size,2,none⟩ (.int .i64 ((sm T1 (aa.length+av.length) aa.length av.length).den:Int))) gP aa.length av.length vs):=⟨(((b7v.out.below Rq.out).other HgX.out).other HgX.out).other HgX.out⟩;have Nt:Aside0 ((((w8.setCell ⟨wr.heap.size,3,none⟩ (.slice (some ⟨g1,0,none⟩) aa.length aa.length)).setCell ⟨wr.heap.size,1,none⟩ (.int .i64 (sm T1 (aa.length+av.length) aa.length av.length).num)).setCell ⟨wr.heap.size,2,none⟩ (.int .i64 ((sm T1 (aa.length+av.length) aa.length av.length).den:Int))).heap[wr.heap.size]? =some (.cells #[.bool true,.int .i64 (sm T1 (aa.length+av.length) aa.length av.length).num,.int .i64 ((sm T1 (aa.length+av.length) aa.length av.length).den:Int),.slice (some ⟨g1,0,none⟩) aa.length aa.length,.slice none 0 0] 58 (0,0))):=⟨bh (bh (bh th.out 3 (.slice (some ⟨g1,0,none⟩) aa.length aa.length) (cs':= #[.bool true,.int .i64 0,.int .i64 0,.slice (some ⟨g1,0,none⟩) aa.length aa.length,.slice none 0 0]) rfl) 1 (.int .i64 (sm T1 (aa.length+av.length) aa.length av.length).num) (cs':= #[.bool true,.int .i64 (sm T1 (aa.length+av.length) aa.length av.length).num,.int .i64 0,.slice (some ⟨g1,0,none⟩) aa.length aa.length,.slice none 0 0]) rfl) 2 (.int .i64 ((sm T1 (aa.length+av.length) aa.length av.length).den:Int)) (cs':= #[.bool true,.int .i64 (sm T1 (aa.length+av.length) aa.length av.length).num,.int .i64 ((sm T1 (aa.length+av.length) aa.length av.length).den:Int),.slice (some ⟨g1,0,none⟩) aa.length aa.length,.slice none 0 0]) rfl⟩;have b7B:Aside0 ((((w8.setCell ⟨wr.heap.size,3,none⟩ (.slice (some ⟨g1,0,none⟩) aa.length aa.length)).setCell ⟨wr.heap.size,1,none⟩ (.int .i64 (sm T1 (aa.length+av.length) aa.length av.length).num)).setCell ⟨wr.heap.size,2,none⟩ (.int .i64 ((sm T1 (aa.length+av.length) aa.length av.length).den:Int))).heap[w.heap.size]? =some (.cells ye 58 (0,0))):=⟨bz (bz (bz (aj b7w.out Rq.out) Dh.out.2) Dh.out.2) Dh.out.2⟩;have BQ:Aside0 ((((w8.setCell ⟨wr.heap.size,3,none⟩ (.slice (some ⟨g1,0,none⟩) aa.length aa.length)).setCell ⟨wr.heap.size,1,none⟩ (.int .i64 (sm T1 (aa.length+av.length) aa.length av.length).num)).setCell ⟨wr.heap.size,2,none⟩ (.int .i64 ((sm T1 (aa.length+av.length) aa.length av.length).den:Int))).heap[g1]? =some (.cells cs8 34 (0,0))):=⟨bz (bz (bz Ns.out (Ah Ns.out th.out (by decide))) (Ah Ns.out th.out (by decide))) (Ah Ns.out th.out (by decide))⟩;have b0u:Aside0 (Below w.heap.size w (((w8.setCell ⟨wr.heap.size,3,none⟩ (.slice (some ⟨g1,0,none⟩) aa.length aa.length)).setCell ⟨wr.heap.size,1,none⟩ (.int .i64 (sm T1 (aa.length+av.length) aa.length av.length).num)).setCell ⟨wr.heap.size,2,none⟩ (.int .i64 ((sm T1 (aa.length+av.length) aa.length av.length).den:Int)))):=⟨bR (bR (bR (ah b0q.out Rq.out) Dh.out.1) Dh.out.1) Dh.out.1⟩;clear IV hp8 hs8 ni)
    |(go_at_call 60;have tk:=b0s;(with_reducible refine (b7y.out _ Uc.out b7A.out).mono ?_);clear tk b0s;rintro e xL ⟨cs16,rfl,hr6,hb6⟩;have b7C:=Aside0.mk hr6;have b3q:=Aside0.mk hb6;clear hr6 hb6)
    |(go_at_call 62;(with_reducible refine (HLe.out HCB.out _ _ b7C.out).mono ?_);rintro e sX ⟨cs17,T2,rfl,Jp,hq7,xO⟩;have b7D:=Aside0.mk Jp;have WQ:=Aside0.mk hq7;have WR:=Aside0.mk (ah b3q.out xO);clear Jp hq7 xO)
    |(go_at_call 59;(with_reducible refine (EY _ _ _ _ T2 _ _ b7D.out (by omega) (HQP.out _ WQ.out).1 (HQP.out _ WQ.out).2.1 (HQP.out _ WQ.out).2.2).mono ?_);rintro e tq ⟨g2,b7E,rfl,IV,hp8,hs8,ni⟩;have OJ:=Aside0.mk (ah WR.out ni);have b7F:=Aside0.mk hp8;have b7G:=Aside0.mk IV;have b0v:=Aside0.mk hs8;have WS:=Aside0.mk (aj Nt.out OJ.out);have a5f:=Aside0.mk (aj b7B.out OJ.out);have b7H:=Aside0.mk (aj BQ.out OJ.out);have HGd:Aside0 (g1≠g2):=⟨by have h1:=bf BQ.out;have h2:=WR.out.size;have h3:=b0v.out;omega⟩;have b3r:=Aside0.mk (ah b0u.out OJ.out);have EW:=(ag WS.out 4).trans rfl;have ZY:=af WS.out 4;have Rs:Aside0 ((tq.setCell ⟨wr.heap.size,4,none⟩ (.slice (some ⟨g2,0,none⟩) av.length av.length)).heap[wr.heap.size]? =some (.cells #[.bool true,.int .i64 (sm T1 (aa.length+av.length) aa.length av.length).num,.int .i64 ((sm T1 (aa.length+av.length) aa.length av.length).den:Int),.slice (some ⟨g1,0,none⟩) aa.length aa.length,.slice (some ⟨g2,0,none⟩) av.length av.length] 58 (0,0))):=⟨bh WS.out 4 (.slice (some ⟨g2,0,none⟩) av.length av.length) (cs':= #[.bool true,.int .i64 (sm T1 (aa.length+av.length) aa.length av.length).num,.int .i64 ((sm T1 (aa.length+av.length) aa.length av.length).den:Int),.slice (some ⟨g1,0,none⟩) aa.length aa.length,.slice (some ⟨g2,0,none⟩) av.length av.length]) rfl⟩;have tO:Aside0 ((tq.setCell ⟨wr.heap.size,4,none⟩ (.slice (some ⟨g2,0,none⟩) av.length av.length)).heap[w.heap.size]? =some (.cells ye 58 (0,0))):=⟨bz a5f.out Dh.out.2⟩;have hxx0:=(ag Rs.out 0).trans rfl;have hzz0:=(ag tO.out 0).trans rfl;have hyy0:=af tO.out 0;have hxx1:=(ag Rs.out 1).trans rfl;have hzz1:=(ag tO.out 1).trans rfl;have hyy1:=af tO.out 1;have hxx2:=(ag Rs.out 2).trans rfl;have hzz2:=(ag tO.out 2).trans rfl;have hyy2:=af tO.out 2;have hxx3:=(ag Rs.out 3).trans rfl;have hzz3:=(ag tO.out 3).trans rfl;have hyy3:=af tO.out 3;have hxx4:=(ag Rs.out 4).trans rfl;have hzz4:=(ag tO.out 4).trans rfl;have hyy4:=af tO.out 4;clear IV hp8 hs8 ni))
   have b7I:Aside0 (((((((tq.setCell ⟨wr.heap.size,4,none⟩ (.slice (some ⟨g2,0,none⟩) av.length av.length)).setCell ⟨w.heap.size,0,none⟩ (.bool true)).setCell ⟨w.heap.size,1,none⟩ (.int .i64 (sm T1 (aa.length+av.length) aa.length av.length).num)).setCell ⟨w.heap.size,2,none⟩ (.int .i64 ((sm T1 (aa.length+av.length) aa.length av.length).den:Int))).setCell ⟨w.heap.size,3,none⟩ (.slice (some ⟨g1,0,none⟩) aa.length aa.length)).setCell ⟨w.heap.size,4,none⟩ (.slice (some ⟨g2,0,none⟩) av.length av.length)).heap[w.heap.size]? =some (.cells #[.bool true,.int .i64 (sm T1 (aa.length+av.length) aa.length av.length).num,.int .i64 ((sm T1 (aa.length+av.length) aa.length av.length).den:Int),.slice (some ⟨g1,0,none⟩) aa.length aa.length,.slice (some ⟨g2,0,none⟩) av.length av.length] 58 (0,0))):=⟨bh (bh (bh (bh (bh tO.out 0 (.bool true) (cs':= #[.bool true,.int .i64 0,.int .i64 0,.slice none 0 0,.slice none 0 0]) rfl) 1 (.int .i64 (sm T1 (aa.length+av.length) aa.length av.length).num) (cs':= #[.bool true,.int .i64 (sm T1 (aa.length+av.length) aa.length av.length).num,.int .i64 0,.slice none 0 0,.slice none 0 0]) rfl) 2 (.int .i64 ((sm T1 (aa.length+av.length) aa.length av.length).den:Int)) (cs':= #[.bool true,.int .i64 (sm T1 (aa.length+av.length) aa.length av.length).num,.int .i64 ((sm T1 (aa.length+av.length) aa.length av.length).den:Int),.slice none 0 0,.slice none 0 0]) rfl) 3 (.slice (some ⟨g1,0,none⟩) aa.length aa.length) (cs':= #[.bool true,.int .i64 (sm T1 (aa.length+av.length) aa.length av.length).num,.int .i64 ((sm T1 (aa.length+av.length) aa.length av.length).den:Int),.slice (some ⟨g1,0,none⟩) aa.length aa.length,.slice none 0 0]) rfl) 4 (.slice (some ⟨g2,0,none⟩) av.length av.length) (cs':= #[.bool true,.int .i64 (sm T1 (aa.length+av.length) aa.length av.length).num,.int .i64 ((sm T1 (aa.length+av.length) aa.length av.length).den:Int),.slice (some ⟨g1,0,none⟩) aa.length aa.length,.slice (some ⟨g2,0,none⟩) av.length av.length]) rfl⟩
   have hk:∀(g:Nat) (cs:Array Value),tq.heap[g]? =some (.cells cs 34 (0,0))->((((((tq.setCell ⟨wr.heap.size,4,none⟩ (.slice (some ⟨g2,0,none⟩) av.length av.length)).setCell ⟨w.heap.size,0,none⟩ (.bool true)).setCell ⟨w.heap.size,1,none⟩ (.int .i64 (sm T1 (aa.length+av.length) aa.length av.length).num)).setCell ⟨w.heap.size,2,none⟩ (.int .i64 ((sm T1 (aa.length+av.length) aa.length av.length).den:Int))).setCell ⟨w.heap.size,3,none⟩ (.slice (some ⟨g1,0,none⟩) aa.length aa.length)).setCell ⟨w.heap.size,4,none⟩ (.slice (some ⟨g2,0,none⟩) av.length av.length)).heap[g]? =some (.cells cs 34 (0,0)):=fun g cs h=>by
    have h1:=Ah h WS.out (by decide)
    have h2:=Ah h a5f.out (by decide)
    exact bz (bz (bz (bz (bz (bz h h1) h2) h2) h2) h2) h2
   have hbel:Below w.heap.size w ((((((tq.setCell ⟨wr.heap.size,4,none⟩ (.slice (some ⟨g2,0,none⟩) av.length av.length)).setCell ⟨w.heap.size,0,none⟩ (.bool true)).setCell ⟨w.heap.size,1,none⟩ (.int .i64 (sm T1 (aa.length+av.length) aa.length av.length).num)).setCell ⟨w.heap.size,2,none⟩ (.int .i64 ((sm T1 (aa.length+av.length) aa.length av.length).den:Int))).setCell ⟨w.heap.size,3,none⟩ (.slice (some ⟨g1,0,none⟩) aa.length aa.length)).setCell ⟨w.heap.size,4,none⟩ (.slice (some ⟨g2,0,none⟩) av.length av.length)):=bR (bR (bR (bR (bR (bR b3r.out Dh.out.1) (Nat.le_refl _)) (Nat.le_refl _)) (Nat.le_refl _)) (Nat.le_refl _)) (Nat.le_refl _)
   refine bodyPost_ret (results_cell_row rfl _ _ w.heap.size 58 (#[.bool true,.int .i64 (sm T1 (aa.length+av.length) aa.length av.length).num,.int .i64 ((sm T1 (aa.length+av.length) aa.length av.length).den:Int),.slice (some ⟨g1,0,none⟩) aa.length aa.length,.slice (some ⟨g2,0,none⟩) av.length av.length]) (0,0) _ rfl b7I.out Try.underlying58 (by rfl) (by kernel_rfl)) rfl ?_
   refine .inl ⟨HCB.out,g1,cs8,g2,b7E,T1,T2,rfl,HQ7.out,WQ.out,hk _ _ b7H.out,HP8.out,hk _ _ b7G.out,b7F.out,HGd.out,?_,?_,hbel⟩
   ·have h1:=HS8.out;have h2:=b0t.out.size;have h3:=b0q.out.size;omega
   ·have h1:=b0v.out;have h2:=WR.out.size;have h3:=b0u.out.size;omega
end Go.Proofs.Ytkckdphjhlbdcaa.PT
namespace Go.Proofs.Ytkckdphjhlbdcaa.PT
open Go.RowKit Go.Proofs.YtkckdphjhlbdcaaW.PrintWords
set_option linter.all false
theorem a7g (w:World) (o:Obj):(w.alloc o).heap.size=w.heap.size+1:=Array.size_push _
end Go.Proofs.Ytkckdphjhlbdcaa.PT
namespace Go.Proofs.Ytkckdphjhlbdcaa.PT
open Go.RowKit Go.Proofs.Ytkckdphjhlbdcaa.P Go.Proofs.YtkckdphjhlbdcaaW.PrintWords Go.Proofs.YtkckdphjhlbdcaaW.PrintLast Go.Proofs.Ytkckdphjhlbdcaa.EvKit
set_option linter.all false
structure Tr (S:Nat->Prop) (W W':World):Prop where
 os:W'.os=W.os
 tape:W'.tape=W.tape
 output:W'.output=W.output
 size:W.heap.size<=W'.heap.size
 block:∀k,k<W.heap.size->¬S k->W'.heap[k]? =W.heap[k]?
theorem Tr.below {S:Nat->Prop} {W W':World} {B:Nat} (h:Tr S W W') (hS:∀k,S k->B<=k) (hB:B<=W.heap.size):Below B W W':=⟨h.os,h.tape,h.output,by have:=h.size;omega,fun k hk=>h.block k (by omega) (fun hs=>by have:=hS k hs;omega)⟩
theorem Tr.trans {S S' T:Nat->Prop} {W W' W'':World} (h:Tr S W W') (h':Tr S' W' W'') (h1:∀k,S k->T k) (h2:∀k,S' k->k<W.heap.size->T k):Tr T W W'':=
 ⟨h'.os.trans h.os,h'.tape.trans h.tape,h'.output.trans h.output,Nat.le_trans h.size h'.size,fun k hk hn=>(h'.block k (Nat.lt_of_lt_of_le hk h.size) (fun hs=>hn (h2 k hs hk))).trans (h.block k hk (fun hs=>hn (h1 k hs)))⟩
theorem Tr.refl (S:Nat->Prop) (W:World):Tr S W W:=⟨rfl,rfl,rfl,Nat.le_refl _,fun _ _ _=>rfl⟩
structure Ow (α:Type) where
 kd:Kd α
 own:World->α->List Value->List Nat->Prop
 rd:∀{W x cs bs},own W x cs bs->kd.K W x cs
 lt:∀{W x cs bs},own W x cs bs->∀b,b∈bs->b<W.heap.size
 nodup:∀{W x cs bs},own W x cs bs->bs.Nodup
 move:∀{W W' x cs bs},own W x cs bs->(∀b,b∈bs->W'.heap[b]? =W.heap[b]?)->own W' x cs bs
namespace Ow
variable {α β:Type} {W W':World}
def scalar (enc:α->Value) (h1:∀x,(enc x).oneCell'=true):Ow α where
 kd:=Kd.scalar enc h1
 own:=fun _ x cs bs=>cs=[enc x]/\bs=[]
 rd:=fun h=>h.1
 lt:=fun h b hb=>by rw [h.2] at hb;cases hb
 nodup:=fun h=>by rw [h.2];exact List.nodup_nil
 move:=fun h _=>h
def int:Ow Int:=scalar (Value.int .i64) (fun _=>rfl)
def string:Ow ByteArray:=scalar Value.string (fun _=>rfl)
def bool:Ow Bool:=scalar Value.bool (fun _=>rfl)
def pair (A:Ow α) (B:Ow β):Ow (α×β) where
 kd:=Kd.pair A.kd B.kd
 own:=fun W x cs bs=>∃c1 c2 b1 b2,cs=c1++c2/\bs=b1++b2/\bs.Nodup/\A.own W x.1 c1 b1/\B.own W x.2 c2 b2
 rd:=fun ⟨c1,c2,_,_,h,_,_,ha,hb⟩=>⟨c1,c2,h,A.rd ha,B.rd hb⟩
 lt:=by
  rintro W x cs bs ⟨c1,c2,b1,b2,_,rfl,_,ha,hb⟩ b h
  rcases List.mem_append.1 h with h|h
  ·exact A.lt ha b h
  ·exact B.lt hb b h
 nodup:=fun ⟨_,_,_,_,_,_,h,_⟩=>h
 move:=by
  rintro W W' x cs bs ⟨c1,c2,b1,b2,h1,rfl,h3,ha,hb⟩ hm
  exact ⟨c1,c2,b1,b2,h1,rfl,h3,A.move ha (fun b h=>hm b (List.mem_append_left _ h)),B.move hb (fun b h=>hm b (List.mem_append_right _ h))⟩
def seg (sz:Nat) (cur:Array Value) (j:Nat):List Value:=(cur.toList.drop (j*sz)).take sz
def slice (e:Nat) (D:Ow α):Ow (List α) where
 kd:=Kd.slice e D.kd
 own:=fun W xs cs bs=>(xs=[]/\cs=[.slice none 0 0]/\bs=[])∨
  ∃(g:Nat) (cap:Nat) (cur:Array Value) (Jq:List (List Nat)),cs=[.slice (some ⟨g,0,none⟩) xs.length cap]/\W.heap[g]? =some (.cells cur e (0,0))/\xs.length<=cap/\cap<=maxLen/\cur.size=cap*D.kd.sz/\
   bs=g::Jq.flatten/\bs.Nodup/\Jq.length=xs.length/\∀j,(h:j<xs.length)->(h':j<Jq.length)->D.own W xs[j] (seg D.kd.sz cur j) Jq[j]
 rd:=by
  rintro W xs cs bs (⟨rfl,rfl,_⟩|⟨g,cap,cur,Jq,rfl,hg,hl,hm,hc,_,_,hb,hj⟩)
  ·exact ⟨none,0,rfl,Nat.le_refl _,rfl,by simp,fun h=>absurd h (by simp)⟩
  ·refine ⟨some ⟨g,0,none⟩,cap,rfl,hl,rfl,by unfold maxLen at hm;omega,fun _=>⟨_,rfl,fun j p hp=>?_⟩⟩
   obtain ⟨hlt,rfl⟩:=List.getElem?_eq_some_iff.1 hp
   have hD:=D.rd (hj j hlt (by omega))
   refine ⟨seg D.kd.sz cur j,D.kd.jT hD,hD,fun i u hu=>?_⟩
   have hi:i<D.kd.sz:=by
    have:=(List.getElem?_eq_some_iff.1 hu).1
    rw [D.kd.jT hD] at this;exact this
   have:(⟨g,0,none⟩:Addr).add (j*D.kd.sz+i)=⟨g,j*D.kd.sz+i,none⟩:=add_plain _ _
   rw [this,ag hg]
   unfold seg at hu
   rw [List.getElem?_take,if_pos hi,List.getElem?_drop] at hu
   rw [<-Array.getElem?_toList];exact hu
 lt:=by
  rintro W xs cs bs (⟨_,_,rfl⟩|⟨g,cap,cur,Jq,_,hg,_,_,_,rfl,_,hb,hj⟩) b h
  ·cases h
  ·rcases List.mem_cons.1 h with rfl|h
   ·exact bf hg
   ·obtain ⟨l,hl,hbl⟩:=List.mem_flatten.1 h
    obtain ⟨j,hlt,rfl⟩:=List.getElem_of_mem hl
    exact D.lt (hj j (by omega) hlt) b hbl
 nodup:=by
  rintro W xs cs bs (⟨_,_,rfl⟩|⟨g,cap,cur,Jq,_,_,_,_,_,_,h,_⟩)
  ·exact List.nodup_nil
  ·exact h
 move:=by
  rintro W W' xs cs bs (h|⟨g,cap,cur,Jq,h1,hg,h3,h4,h5,rfl,h7,h8,hj⟩) hm
  ·exact .inl h
  ·refine .inr ⟨g,cap,cur,Jq,h1,(hm g List.mem_cons_self).trans hg,h3,h4,h5,rfl,h7,h8,fun j h h'=>D.move (hj j h h') (fun b hb=>hm b (List.mem_cons_of_mem _ (List.mem_flatten.2 ⟨_,List.getElem_mem h',hb⟩)))⟩
end Ow
abbrev owI:Ow (List Int):=Ow.slice 3 Ow.int
abbrev a2I:Ow (List (List Int)):=Ow.slice 23 owI
end Go.Proofs.Ytkckdphjhlbdcaa.PT
namespace Go.Proofs.Ytkckdphjhlbdcaa.P
open Go.RowKit Go.Proofs.YtkckdphjhlbdcaaW.PrintWords Go.Proofs.YtkckdphjhlbdcaaW.PrintLast Go.Proofs.YtkckdphjhlbdcaaW.PrintMore
attribute [local go_sem] max2_int min2_int max_two min_two max_three min_three max_four min_four
set_option linter.all false
def en.f (l0:List Int) (a1:Int):Option (Int):=if (wrap64 (a1 -(l0.length:Int)))<0 then (some (-1)) else (some (wrap64 (a1 -(l0.length:Int))))
set_option maxHeartbeats 8000000 in
set_option maxRecDepth 100000 in
theorem en.calls (A0:Option Addr) (c0:Nat) (l0:List Int) (a1:Int) (r:Int) (w:World) (fl:Kd.C (Kd.int .i64) w A0 l0.length l0) (hc0:l0.length<=c0) (h:en.f l0 a1=some r):
 Calls Try.prog 21 #[.slice A0 l0.length c0,.int .i64 a1] w fun e w'=>e= .returned (.int .i64 r)/\aW w w':=by
 have eu:=Aside0.mk fl
 have kr:=Aside0.mk hc0
 clear fl hc0
 have H:(if (wrap64 (a1 -(l0.length:Int)))<0 then (some (-1)) else (some (wrap64 (a1 -(l0.length:Int)))))=some r:=h
 clear h
 by_cases c3:(wrap64 (a1 -(l0.length:Int)))<0
 ·rw [if_pos c3] at H
  have iw:decide ((wrap64 (a1 -(l0.length:Int)))<0)=true:=decide_eq_true c3
  clear c3
  obtain rfl:=Option.some.inj H
  go_enter Try.func21,Try.ntmps21
  go_wp2
  go_ret
  exact ⟨by first|rfl|(simp;done)|(simp [*];done),by repeat (first|exact aW.refl _|apply aW.step)⟩
 ·rw [if_neg c3] at H
  have iw:decide ((wrap64 (a1 -(l0.length:Int)))<0)=false:=decide_eq_false c3
  clear c3
  obtain rfl:=Option.some.inj H
  go_enter Try.func21,Try.ntmps21
  go_wp2
  go_ret
  exact ⟨by first|rfl|(simp;done)|(simp [*];done),by repeat (first|exact aW.refl _|apply aW.step)⟩
def cD.l0:Nat->List (List Int)->Int->Int->Option (Int)
 |0,_,_,_=>none
 |k+1,x0,x1,x5=>if x5<(x0.length:Int) then (if 0<=x5 then ((en.f (cZ x0 x5) x1).bind fun t102=>(if t102<0 then (some (-1)) else (cD.l0 k x0 t102 (wrap64 (x5+1))))) else (none)) else (some x1)
def cD.f (k:Nat) (l0:List (List Int)) (a1:Int):Option (Int):=if (wrap64 (a1 -(l0.length:Int)))<0 then (some (-1)) else (cD.l0 k l0 (wrap64 (a1 -(l0.length:Int))) 0)
theorem cD.cC:∀k,(∀y0 y1 y2,aR (cD.l0 k y0 y1 y2) (cD.l0 (k+1) y0 y1 y2))
 |0=>fun _ _ _ r h=>by simp [cD.l0] at h
 |k+1=>by
  have dN:=cD.cC k
  ·intro y0 y1 y2
   unfold cD.l0
   repeat' first
   |(with_reducible exact dN _ _ _)
   |(with_reducible exact aR.refl _)
   |(with_reducible exact aR.none _)
   |(with_reducible refine aR.ite ?_ ?_)
   |(with_reducible refine aR.bind ?_ (fun _=>?_))
theorem cD.mono:∀a0 a1 k,aR (cD.f k a0 a1) (cD.f (k+1) a0 a1):=by
 intro a0 a1 k
 have dN:=cD.cC k
 unfold cD.f
 repeat' first
  |(with_reducible exact dN _ _ _)
  |(with_reducible exact aR.refl _)
  |(with_reducible exact aR.none _)
  |(with_reducible refine aR.ite ?_ ?_)
  |(with_reducible refine aR.bind ?_ (fun _=>?_))
set_option maxHeartbeats 8000000 in
set_option maxRecDepth 100000 in
theorem cD.calls (k:Nat) (A0:Option Addr) (c0:Nat) (l0:List (List Int)) (a1:Int) (r:Int) (w:World) (fl:Kd.C (Kd.slice 3 (Kd.int .i64)) w A0 l0.length l0) (hc0:l0.length<=c0) (h:cD.f k l0 a1=some r):
 Calls Try.prog 5 #[.slice A0 l0.length c0,.int .i64 a1] w fun e w'=>e= .returned (.int .i64 r)/\aW w w':=by
 have eu:=Aside0.mk fl
 have kr:=Aside0.mk hc0
 clear fl hc0
 have H:(if (wrap64 (a1 -(l0.length:Int)))<0 then (some (-1)) else (cD.l0 k l0 (wrap64 (a1 -(l0.length:Int))) 0))=some r:=h
 clear h
 by_cases c3:(wrap64 (a1 -(l0.length:Int)))<0
 ·rw [if_pos c3] at H
  have iw:decide ((wrap64 (a1 -(l0.length:Int)))<0)=true:=decide_eq_true c3
  clear c3
  obtain rfl:=Option.some.inj H
  go_enter Try.func5,Try.ntmps5
  go_wp2
  go_ret
  exact ⟨by first|rfl|(simp;done)|(simp [*];done),by repeat (first|exact aW.refl _|apply aW.step)⟩
 ·rw [if_neg c3] at H
  have iw:decide ((wrap64 (a1 -(l0.length:Int)))<0)=false:=decide_eq_false c3
  clear c3
  have H':=Aside0.mk H
  clear H
  go_enter Try.func5,Try.ntmps5
  go_wp2
  go_loopg [1,5] k (fun kq v1 v5 w'=>∃(kU:Int) (bC:Int),v1= .int .i64 kU/\v5= .int .i64 bC/\Aside0 (cD.l0 kq l0 kU bC=some r)/\Aside0 (kq<=k)/\aW w w')
  case atStart=>exact ⟨(wrap64 (a1 -(l0.length:Int))),(0),(by first|rfl|(simp;done)|(simp [*];done)),(by first|rfl|(simp;done)|(simp [*];done)),H',⟨Nat.le_refl _⟩,by repeat (first|exact aW.refl _|apply aW.step)⟩
  case round=>
   clear H'
   try clear p2
   try clear c3
   try clear iw
   obtain ⟨kU,bC,rfl,rfl,HA,dX,⟨m1,rfl⟩⟩:=hrel
   cases gk with
   |zero=>exact absurd HA.out (by simp [cD.l0])
   |succ k1=>
    have H:=HA.out
    clear HA
    simp only [cD.l0] at H
    by_cases c4:bC<(l0.length:Int)
    ·rw [if_pos c4] at H
     have mj:decide (bC<(l0.length:Int))=true:=decide_eq_true c4
     clear c4
     by_cases c5:0<=bC
     ·rw [if_pos c5] at H
      have wF:decide (0<=bC)=true:=decide_eq_true c5
      clear c5
      replace H:=Option.bind_eq_some_iff.mp H
      obtain ⟨t102,sW,H⟩:=H
      replace H:(if t102<0 then (some (-1)) else (cD.l0 k1 l0 t102 (wrap64 (bC+1))))=some r:=H
      have A6:=Aside0.mk sW
      clear sW
      by_cases c7:t102<0
      ·rw [if_pos c7] at H
       have tH:decide (t102<0)=true:=decide_eq_true c7
       clear c7
       obtain rfl:=Option.some.inj H
       have Gt:0<=(bC:Int):=of_decide_eq_true (by first|(with_reducible assumption)|assumption)
       have Gu:bC<(l0.length:Int):=of_decide_eq_true (by first|(with_reducible assumption)|assumption)
       obtain ⟨b3s,Rt,Ru,a2J,a7h,Aj,Ak⟩:=kX eu.out bC Gt Gu
       cases a2J
       have LU:=Aside0.mk Ak
       have LV:=Aside0.mk Aj
       clear Ak Aj
       replace Gt:=eq_true Gt
       replace Gu:=eq_true Gu
       go_wp2_with (first|((with_reducible refine aV (f:=21) rfl ?_);refine bH (some 23) rfl rfl Try.func21 (by kernel_rfl) rfl #[.slice Rt (cZ l0 bC).length Ru,.int .i64 kU] rfl (by (try simp only [List.map_toArray,List.map_cons,List.map_nil]);first|done|rfl|(simp only [List.length_drop,List.length_take];rfl)) ?_;(with_reducible refine (en.calls _ _ (cZ l0 bC) kU t102 _ ?bO ?bP A6.out).mono ?_);(case bO=>repeat (first|exact LU.out|(with_reducible refine Kd.bV ?_ _)|(with_reducible refine Kd.bW ?_ _)|(with_reducible refine Kd.cy ?_)));(case bP=>exact LV.out);rintro e w' ⟨rfl,⟨nd,rfl⟩⟩;refine ⟨_,rfl,?_⟩))
       go_ret
       exact ⟨by first|rfl|(simp;done)|(simp [*];done),by repeat (first|exact aW.refl _|apply aW.step)⟩
      ·rw [if_neg c7] at H
       have tH:decide (t102<0)=false:=decide_eq_false c7
       clear c7
       have H':=Aside0.mk H
       clear H
       have Gt:0<=(bC:Int):=of_decide_eq_true (by first|(with_reducible assumption)|assumption)
       have Gu:bC<(l0.length:Int):=of_decide_eq_true (by first|(with_reducible assumption)|assumption)
       obtain ⟨b3s,Rt,Ru,a2J,a7h,Aj,Ak⟩:=kX eu.out bC Gt Gu
       cases a2J
       have LU:=Aside0.mk Ak
       have LV:=Aside0.mk Aj
       clear Ak Aj
       replace Gt:=eq_true Gt
       replace Gu:=eq_true Gu
       go_wp2_with (first|((with_reducible refine aV (f:=21) rfl ?_);refine bH (some 23) rfl rfl Try.func21 (by kernel_rfl) rfl #[.slice Rt (cZ l0 bC).length Ru,.int .i64 kU] rfl (by (try simp only [List.map_toArray,List.map_cons,List.map_nil]);first|done|rfl|(simp only [List.length_drop,List.length_take];rfl)) ?_;(with_reducible refine (en.calls _ _ (cZ l0 bC) kU t102 _ ?bO ?bP A6.out).mono ?_);(case bO=>repeat (first|exact LU.out|(with_reducible refine Kd.bV ?_ _)|(with_reducible refine Kd.bW ?_ _)|(with_reducible refine Kd.cy ?_)));(case bP=>exact LV.out);rintro e w' ⟨rfl,⟨nd,rfl⟩⟩;refine ⟨_,rfl,?_⟩))
       go_roundg k1
       case measure=>have:=dX.out;omega
       case rel=>exact ⟨(t102),(wrap64 (bC+1)),(by first|rfl|(simp;done)|(simp [*];done)),(by first|rfl|(simp;done)|(simp [*];done)),H',⟨by have:=dX.out;omega⟩,by repeat (first|exact aW.refl _|apply aW.step)⟩
     ·rw [if_neg c5] at H
      exact absurd H (by simp)
    ·rw [if_neg c4] at H
     have mj:decide (bC<(l0.length:Int))=false:=decide_eq_false c4
     clear c4
     obtain rfl:=Option.some.inj H
     go_wp2
     go_ret
     exact ⟨by first|rfl|(simp;done)|(simp [*];done),by repeat (first|exact aW.refl _|apply aW.step)⟩
def ct.l0:Nat->List Int->List Int->Int->Option (List Int)
 |0,_,_,_=>none
 |k+1,x0,x3,x4=>if x4<(x0.length:Int) then (if 0<=x4 then (if x4<(x3.length:Int) then (ct.l0 k x0 (x3.set (x4:Int).toNat (rd x0 x4)) (wrap64 (x4+1))) else (none)) else (none)) else (some x3)
def ct.f (k:Nat) (l0:List Int):Option (List Int):=if 0<=(l0.length:Int) then (if ((l0.length:Int):Int).toNat<=35184372088832 then (ct.l0 k l0 (List.replicate ((l0.length:Int):Int).toNat 0) 0) else (none)) else (none)
theorem ct.cC:∀k,(∀y0 y1 y2,aR (ct.l0 k y0 y1 y2) (ct.l0 (k+1) y0 y1 y2))
 |0=>fun _ _ _ r h=>by simp [ct.l0] at h
 |k+1=>by
  have dN:=ct.cC k
  ·intro y0 y1 y2
   unfold ct.l0
   repeat' first
   |(with_reducible exact dN _ _ _)
   |(with_reducible exact aR.refl _)
   |(with_reducible exact aR.none _)
   |(with_reducible refine aR.ite ?_ ?_)
   |(with_reducible refine aR.bind ?_ (fun _=>?_))
theorem ct.mono:∀a0 k,aR (ct.f k a0) (ct.f (k+1) a0):=by
 intro a0 k
 have dN:=ct.cC k
 unfold ct.f
 repeat' first
  |(with_reducible exact dN _ _ _)
  |(with_reducible exact aR.refl _)
  |(with_reducible exact aR.none _)
  |(with_reducible refine aR.ite ?_ ?_)
  |(with_reducible refine aR.bind ?_ (fun _=>?_))
set_option maxHeartbeats 8000000 in
set_option maxRecDepth 100000 in
theorem ct.calls (k:Nat) (A0:Option Addr) (c0:Nat) (l0:List Int) (r:List Int) (w:World) (fl:Kd.C (Kd.int .i64) w A0 l0.length l0) (hc0:l0.length<=c0) (h:ct.f k l0=some r):
 Calls Try.prog 14 #[.slice A0 l0.length c0] w fun e w'=>∃lH:Value,e= .returned (lH)/\Kd.R (Kd.int .i64) 3 w' w.heap.size (fun _=>True) lH r/\Below w.heap.size w w':=by
 have eu:=Aside0.mk fl
 have kr:=Aside0.mk hc0
 clear fl hc0
 have HB:=Aside0.mk (Below.refl w.heap.size w)
 have H:(if 0<=(l0.length:Int) then (if ((l0.length:Int):Int).toNat<=35184372088832 then (ct.l0 k l0 (List.replicate ((l0.length:Int):Int).toNat 0) 0) else (none)) else (none))=some r:=h
 clear h
 by_cases c2:0<=(l0.length:Int)
 ·rw [if_pos c2] at H
  have Bf:=eq_true c2
  have Rv:decide (0<=(l0.length:Int))=true:=decide_eq_true c2
  clear c2
  by_cases c3:((l0.length:Int):Int).toNat<=35184372088832
  ·rw [if_pos c3] at H
   have iw:=eq_true c3
   have oz:decide (((l0.length:Int):Int).toNat<=35184372088832)=true:=decide_eq_true c3
   clear c3
   obtain ⟨b0w,Jr⟩:∃y_:List Int,y_=(List.replicate ((l0.length:Int):Int).toNat 0):=⟨_,rfl⟩
   replace H:(ct.l0 k l0 b0w 0)=some r:=by first|(rw [Jr];with_reducible exact H)|(have eF:=(Option.bind_some _ _).symm.trans H;rw [Jr];with_reducible exact eF)|(have eF:=(Option.bind_some _ _).symm.trans H;with_reducible exact eF)|with_reducible exact H|(rw [Jr];exact H)|exact H
   have a5h:=Aside0.mk Jr
   clear Jr
   have H':=Aside0.mk H
   clear H
   go_enter Try.func14,Try.ntmps14
   go_wp2_with (first|((with_reducible refine bn (N:=7) rfl ?_);refine Kd.Py (Kd.int .i64) _ 3 rfl (N:=7) rfl 23 _ _ rfl (l0.length:Int) rfl rfl Try.underlying23 (.int .i64 0) 8 info3 rfl (by decide) (by omega) 0 (ok:=fun _=>True) (gK:=fun _=>True) rfl (fun _ hk=>hk) trivial (of_decide_eq_true (by first|(with_reducible assumption)|assumption)) (Nat.le_trans (Nat.mul_le_mul_right _ (of_decide_eq_true (by first|(with_reducible assumption)|assumption):(l0.length:Int).toNat<=35184372088832)) (by omega)) (Below.refl _ _) (Nat.le_refl _) ?_;intro v311 w4 lJ hb vR nQ;clear vR nQ;(first|rw [<-a5h.out] at lJ|(simp only [Int.reduceToNat] at lJ;rw [<-a5h.out] at lJ));have aA:=Aside0.mk (Kd.ie lJ (ax ay));have aC:=Aside0.mk (ah ay hb);clear HB;have b3t:=aA;have HB:=aC;clear aA aC;clear hb lJ))
   go_loopg [4] k (fun kq v4 w'=>∃(fu:List Int) (cL:Int),v4= .int .i64 cL/\Aside0 (ct.l0 kq l0 fu cL=some r)/\Aside0 (kq<=k)/\Aside0 (Kd.R (Kd.int .i64) 3 w' w.heap.size (fun _=>True) v311 fu)/\Aside0 (Below w.heap.size w w'))
   case atStart=>exact ⟨(b0w),(0),(by first|rfl|(simp;done)|(simp [*];done)),H',⟨Nat.le_refl _⟩,⟨by (with_reducible repeat (first|apply Kd.ck|apply Kd.cn|apply Kd.cK));exact b3t.out⟩,⟨ay⟩⟩
   case round=>
    clear H'
    try clear c1
    try clear c2
    try clear Bf
    try clear Rv
    try clear p2
    try clear c3
    try clear iw
    try clear oz
    obtain ⟨fu,cL,rfl,HA,dX,fy,HB⟩:=hrel
    cases gk with
    |zero=>exact absurd HA.out (by simp [ct.l0])
    |succ k1=>
     have H:=HA.out
     clear HA
     simp only [ct.l0] at H
     by_cases c6:cL<(l0.length:Int)
     ·rw [if_pos c6] at H
      have oc:decide (cL<(l0.length:Int))=true:=decide_eq_true c6
      clear c6
      by_cases c7:0<=cL
      ·rw [if_pos c7] at H
       have tH:decide (0<=cL)=true:=decide_eq_true c7
       clear c7
       by_cases c8:cL<(fu.length:Int)
       ·rw [if_pos c8] at H
        have qL:decide (cL<(fu.length:Int))=true:=decide_eq_true c8
        clear c8
        obtain ⟨a2K,Js⟩:∃y_:List Int,y_=(fu.set (cL:Int).toNat (rd l0 cL)):=⟨_,rfl⟩
        replace H:(ct.l0 k1 l0 a2K (wrap64 (cL+1)))=some r:=by first|(rw [Js];with_reducible exact H)|(have eF:=(Option.bind_some _ _).symm.trans H;rw [Js];with_reducible exact eF)|(have eF:=(Option.bind_some _ _).symm.trans H;with_reducible exact eF)|with_reducible exact H|(rw [Js];exact H)|exact H
        have b3u:=Aside0.mk Js
        clear Js
        have H':=Aside0.mk H
        clear H
        have a2L:0<=(cL:Int):=of_decide_eq_true (by first|(with_reducible assumption)|assumption)
        have a2M:cL<(l0.length:Int):=of_decide_eq_true (by first|(with_reducible assumption)|assumption)
        obtain ⟨ad313,b7J,LW⟩:=Kd.gL eu.out cL a2L a2M
        cases b7J
        replace LW:=(HB.out.cell (World.block_lt_of_cell? w _ LW)).trans LW
        replace a2L:=eq_true a2L
        replace a2M:=eq_true a2M
        have p9:0<=(cL:Int):=of_decide_eq_true (by first|(with_reducible assumption)|assumption)
        have q9:(cL:Int)<((fu.length:Int):Int):=of_decide_eq_true (by first|(with_reducible assumption)|assumption)
        obtain ⟨go9,co9,eo9,gb9,gl9,cl9,BQ⟩:=Kd.Hx fy.out (by omega)
        (first|cases eo9|(injection eo9 with tP Rw Rx;(first|subst tP|(injection tP with tP;subst tP));subst Rx;clear Rw))
        have GB9:=Aside0.mk gb9
        have GG9:=Aside0.mk BQ
        clear gb9 gl9 BQ
        obtain ⟨hx9_0,hf9_0⟩:=Kd.Tt 0 fy.out (cL:Int) p9 q9
        replace p9:=eq_true p9
        replace q9:=eq_true q9
        have a2N:=Kd.XI fy.out (cL:Int) (rd l0 cL)
        go_wp2_with (first|((with_reducible refine kg (t:=3) (p:=20) rfl ?_);refine uO (t:=3) (p:=20) (v:=?vo_w11) (w1:=(wr.setCell ⟨go9,(cL:Int).toNat,none⟩ (.int .i64 (rd l0 cL)))) ?hg ?ho ?hn ?hr ?_;(case ho=>rfl);(case hg=>rfl);(case hn=>rfl);(case hr=>first|(go_simp;done)|(go_simp;rfl)|((try (obtain ⟨_,_,e_⟩:=Kd.gJ fy.out;rw [e_]));(try (obtain ⟨_,_,e_⟩:=Kd.ri fy.out;rw [e_]));(try (obtain ⟨_,_,e_⟩:=Kd.zy fy.out;rw [e_]));(try (obtain ⟨_,_,e_⟩:=Kd.zz fy.out;rw [e_]));go_simp;first|done|rfl));intro kV hw;have hg:wr.grownBy kV (some go9):=(by rw [hw];exact a2N.2);have Di:Kd.R (Kd.int .i64) 3 kV w.heap.size (fun _=>True) (.slice (some ⟨go9,0,none⟩) fu.length co9) a2K:=(by rw [hw,b3u.out];exact a2N.1);clear a2N;have aA:=Aside0.mk (Di);have aC:=Aside0.mk ((by rw [hw];exact bR (HB.out) GB9.out:Below w.heap.size w kV));clear fy;clear HB;have fy:=aA;have HB:=aC;clear aA aC;clear hg hw Di))
        go_roundg k1
        case measure=>have:=dX.out;omega
        case rel=>exact ⟨(a2K),(wrap64 (cL+1)),(by first|rfl|(simp;done)|(simp [*];done)),H',⟨by have:=dX.out;omega⟩,⟨by (with_reducible repeat (first|apply Kd.ck|apply Kd.cn|apply Kd.cK));exact fy.out⟩,⟨ay⟩⟩
       ·rw [if_neg c8] at H
        exact absurd H (by simp)
      ·rw [if_neg c7] at H
       exact absurd H (by simp)
     ·rw [if_neg c6] at H
      have oc:decide (cL<(l0.length:Int))=false:=decide_eq_false c6
      clear c6
      obtain rfl:=Option.some.inj H
      go_wp2
      go_ret
      exact ⟨_,by first|rfl|(simp [aX,aY]<;>rfl)|(simp [*,aX,aY]<;>rfl),by (with_reducible repeat (first|apply Kd.ck|apply Kd.cn|apply Kd.cK));exact fy.out,ay⟩
  ·rw [if_neg c3] at H
   exact absurd H (by simp)
 ·rw [if_neg c2] at H
  exact absurd H (by simp)
def cM.l0:Nat->List (List Int)->List (List Int)->Int->Option ((List (List Int)))
 |0,_,_,_=>none
 |k+1,x0,x3,x4=>if x4<(x0.length:Int) then (if 0<=x4 then ((ct.f k (cZ x0 x4)).bind fun LX=>(if x4<(x3.length:Int) then (cM.l0 k x0 (x3.set (x4:Int).toNat LX) (wrap64 (x4+1))) else (none))) else (none)) else (some x3)
def cM.f (k:Nat) (l0:List (List Int)):Option ((List (List Int))):=if 0<=(l0.length:Int) then (if ((l0.length:Int):Int).toNat<=11728124029610 then (cM.l0 k l0 (List.replicate ((l0.length:Int):Int).toNat []) 0) else (none)) else (none)
theorem cM.cC:∀k,(∀y0 y1 y2,aR (cM.l0 k y0 y1 y2) (cM.l0 (k+1) y0 y1 y2))
 |0=>fun _ _ _ r h=>by simp [cM.l0] at h
 |k+1=>by
  have dN:=cM.cC k
  ·intro y0 y1 y2
   unfold cM.l0
   repeat' first
   |(with_reducible exact dN _ _ _)
   |(with_reducible exact ct.mono _ _)
   |(with_reducible exact aR.refl _)
   |(with_reducible exact aR.none _)
   |(with_reducible refine aR.ite ?_ ?_)
   |(with_reducible refine aR.bind ?_ (fun _=>?_))
theorem cM.mono:∀a0 k,aR (cM.f k a0) (cM.f (k+1) a0):=by
 intro a0 k
 have dN:=cM.cC k
 unfold cM.f
 repeat' first
  |(with_reducible exact dN _ _ _)
  |(with_reducible exact ct.mono _ _)
  |(with_reducible exact aR.refl _)
  |(with_reducible exact aR.none _)
  |(with_reducible refine aR.ite ?_ ?_)
  |(with_reducible refine aR.bind ?_ (fun _=>?_))
set_option maxHeartbeats 8000000 in
set_option maxRecDepth 100000 in
theorem cM.calls (k:Nat) (A0:Option Addr) (c0:Nat) (l0:List (List Int)) (r:List (List Int)) (w:World) (fl:Kd.C (Kd.slice 3 (Kd.int .i64)) w A0 l0.length l0) (hc0:l0.length<=c0) (h:cM.f k l0=some r):
 Calls Try.prog 8 #[.slice A0 l0.length c0] w fun e w'=>∃lH:Value,e= .returned (lH)/\Kd.S (Kd.slice 3 (Kd.int .i64)) 23 w' w.heap.size (fun _=>True) lH r/\Below w.heap.size w w':=by
 have eu:=Aside0.mk fl
 have kr:=Aside0.mk hc0
 clear fl hc0
 have HB:=Aside0.mk (Below.refl w.heap.size w)
 have H:(if 0<=(l0.length:Int) then (if ((l0.length:Int):Int).toNat<=11728124029610 then (cM.l0 k l0 (List.replicate ((l0.length:Int):Int).toNat []) 0) else (none)) else (none))=some r:=h
 clear h
 by_cases c2:0<=(l0.length:Int)
 ·rw [if_pos c2] at H
  have Bf:=eq_true c2
  have Rv:decide (0<=(l0.length:Int))=true:=decide_eq_true c2
  clear c2
  by_cases c3:((l0.length:Int):Int).toNat<=11728124029610
  ·rw [if_pos c3] at H
   have iw:=eq_true c3
   have oz:decide (((l0.length:Int):Int).toNat<=11728124029610)=true:=decide_eq_true c3
   clear c3
   obtain ⟨b0y,Jt⟩:∃y_:List (List Int),y_=(List.replicate ((l0.length:Int):Int).toNat []):=⟨_,rfl⟩
   replace H:(cM.l0 k l0 b0y 0)=some r:=by first|(rw [Jt];with_reducible exact H)|(have eF:=(Option.bind_some _ _).symm.trans H;rw [Jt];with_reducible exact eF)|(have eF:=(Option.bind_some _ _).symm.trans H;with_reducible exact eF)|with_reducible exact H|(rw [Jt];exact H)|exact H
   have a5j:=Aside0.mk Jt
   clear Jt
   have H':=Aside0.mk H
   clear H
   go_enter Try.func8,Try.ntmps8
   go_wp2_with (first|((with_reducible refine bn (N:=7) rfl ?_);refine Kd.a8s (Kd.slice 3 (Kd.int .i64)) _ 23 rfl (N:=7) rfl 22 _ _ rfl (l0.length:Int) rfl rfl Try.underlying22 (.slice none 0 0) 24 Ya rfl (by decide) (by omega) [] (ok:=fun _=>True) (gK:=fun _=>True) ⟨_,rfl,Kd.DL _ _ _ _ _⟩ (fun _ hk=>hk) trivial (of_decide_eq_true (by first|(with_reducible assumption)|assumption)) (Nat.le_trans (Nat.mul_le_mul_right _ (of_decide_eq_true (by first|(with_reducible assumption)|assumption):(l0.length:Int).toNat<=11728124029610)) (by omega)) (Below.refl _ _) (Nat.le_refl _) ?_;intro v316 w4 lJ hb vR nQ;clear vR nQ;(first|rw [<-a5j.out] at lJ|(simp only [Int.reduceToNat] at lJ;rw [<-a5j.out] at lJ));have aA:=Aside0.mk (Kd.DO lJ (ax ay));have aC:=Aside0.mk (ah ay hb);clear HB;have b3v:=aA;have HB:=aC;clear aA aC;clear hb lJ))
   go_loopg [4] k (fun kq v4 w'=>∃(fu:List (List Int)) (cL:Int),v4= .int .i64 cL/\Aside0 (cM.l0 kq l0 fu cL=some r)/\Aside0 (kq<=k)/\Aside0 (Kd.S (Kd.slice 3 (Kd.int .i64)) 23 w' w.heap.size (fun _=>True) v316 fu)/\Aside0 (Below w.heap.size w w'))
   case atStart=>exact ⟨(b0y),(0),(by first|rfl|(simp;done)|(simp [*];done)),H',⟨Nat.le_refl _⟩,⟨by (with_reducible repeat (first|apply Kd.bK|apply Kd.bL|apply Kd.bX));exact b3v.out⟩,⟨ay⟩⟩
   case round=>
    clear H'
    try clear c2
    try clear Bf
    try clear Rv
    try clear p2
    try clear c3
    try clear iw
    try clear oz
    obtain ⟨fu,cL,rfl,HA,dX,fy,HB⟩:=hrel
    cases gk with
    |zero=>exact absurd HA.out (by simp [cM.l0])
    |succ k1=>
     have H:=HA.out
     clear HA
     simp only [cM.l0] at H
     by_cases c6:cL<(l0.length:Int)
     ·rw [if_pos c6] at H
      have oc:decide (cL<(l0.length:Int))=true:=decide_eq_true c6
      clear c6
      by_cases c7:0<=cL
      ·rw [if_pos c7] at H
       have tH:decide (0<=cL)=true:=decide_eq_true c7
       clear c7
       replace H:=Option.bind_eq_some_iff.mp H
       obtain ⟨LX,NQ,H⟩:=H
       replace H:(if cL<(fu.length:Int) then (cM.l0 k1 l0 (fu.set (cL:Int).toNat LX) (wrap64 (cL+1))) else (none))=some r:=H
       have A8:=Aside0.mk NQ
       clear NQ
       by_cases c9:cL<(fu.length:Int)
       ·rw [if_pos c9] at H
        have wI:decide (cL<(fu.length:Int))=true:=decide_eq_true c9
        clear c9
        obtain ⟨a2O,Ju⟩:∃y_:List (List Int),y_=(fu.set (cL:Int).toNat LX):=⟨_,rfl⟩
        replace H:(cM.l0 k1 l0 a2O (wrap64 (cL+1)))=some r:=by first|(rw [Ju];with_reducible exact H)|(have eF:=(Option.bind_some _ _).symm.trans H;rw [Ju];with_reducible exact eF)|(have eF:=(Option.bind_some _ _).symm.trans H;with_reducible exact eF)|with_reducible exact H|(rw [Ju];exact H)|exact H
        have b3w:=Aside0.mk Ju
        clear Ju
        have H':=Aside0.mk H
        clear H
        have a2P:0<=(cL:Int):=of_decide_eq_true (by first|(with_reducible assumption)|assumption)
        have a2Q:cL<(l0.length:Int):=of_decide_eq_true (by first|(with_reducible assumption)|assumption)
        obtain ⟨ad318,b0z,b0A,b7K,LY,UK,UL⟩:=kX eu.out cL a2P a2Q
        cases b7K
        replace LY:=(HB.out.cell (World.block_lt_of_cell? w _ LY)).trans LY
        have a7i:=Aside0.mk UL
        have a7j:=Aside0.mk UK
        clear UL UK
        replace a2P:=eq_true a2P
        replace a2Q:=eq_true a2Q
        go_wp2_with (first|((with_reducible refine aV (f:=14) rfl ?_);refine bH (some 20) rfl rfl Try.func14 (by kernel_rfl) rfl #[.slice b0z (cZ l0 cL).length b0A] rfl (by (try simp only [List.map_toArray,List.map_cons,List.map_nil]);first|done|rfl|(simp only [List.length_drop,List.length_take];rfl)) ?_;(with_reducible refine (ct.calls k1 _ _ (cZ l0 cL) LX _ ?bO ?bP A8.out).mono ?_);(case bO=>repeat (first|exact (Kd.bp a7i.out HB.out)|(with_reducible refine Kd.bV ?_ _)|(with_reducible refine Kd.bW ?_ _)|(with_reducible refine Kd.cy ?_)));(case bP=>exact a7j.out);rintro e kV ⟨v320,rfl,gG,hb⟩;refine ⟨_,rfl,?_⟩;have aA:=Aside0.mk (Kd.jd (by (with_reducible repeat (first|apply Kd.bK|apply Kd.bL|apply Kd.bX));exact fy.out) (Kd.jc gG) hb);have aC:=Aside0.mk (Kd.ie gG (ax ay));have aD:=Aside0.mk (ah ay hb);clear fy;clear HB;have fy:=aA;have Bk:=aC;have HB:=aD;clear aA aC aD;(try clear hb);(try clear hb2);(try clear hk);(try clear hi);(try clear gG);have Ry:0<=(cL:Int):=of_decide_eq_true (by first|(with_reducible assumption)|assumption);have Rz:(cL:Int)<((fu.length:Int):Int):=of_decide_eq_true (by first|(with_reducible assumption)|assumption);obtain ⟨rO,RA,RB,RD,a2R,b7L,RF⟩:=Kd.a8r fy.out (by omega);(first|cases RB|(injection RB with tP Rw Rx;(first|subst tP|(injection tP with tP;subst tP));subst Rx;clear Rw));have WT:=Aside0.mk RD;have b7M:=Aside0.mk RF;clear RD a2R RF;obtain ⟨_,b7N,WU,RG,Es,Et,_,_⟩:=Kd.XM fy.out [] (cL:Int) Ry Rz;obtain ⟨ve10_0,rfl,ge10_0⟩:=RG;have a0f:=Es 0 _ rfl;have a0g:=Et 0;(try simp only [show ((Kd.slice 3 (Kd.int .i64))).sz=1 from rfl,Nat.mul_one,Nat.add_zero] at a0f);(try simp only [show ((Kd.slice 3 (Kd.int .i64))).sz=1 from rfl,Nat.mul_one,Nat.add_zero] at a0g);clear WU Es Et;(try clear RG);replace Ry:=eq_true Ry;replace Rz:=eq_true Rz;have n_:=Aside0.mk (Kd.ey (ok':=(fun k_=>some k_≠(v320:Value).ownBlock)) fy.out (fun k_ hk=>hk.2));clear fy;have fy:=n_;clear n_;have WV:=Aside0.mk (show Kd.S (Kd.slice 3 (Kd.int .i64)) 23 kV w.heap.size (fun k_=>((fun _=>True)) k_/\¬((fun k_=>some k_=(v320:Value).ownBlock)) k_) (.slice (some ⟨rO,0,none⟩) fu.length RA) fu from (by (with_reducible repeat (first|apply Kd.bK|apply Kd.bL|apply Kd.bX));exact Kd.ey fy.out (fun k_ hk=>⟨trivial,fun e_=>hk e_⟩)));obtain ⟨oki12,b7O,OL,RH,Bl,Eu,b0B,b0C⟩:=Kd.XM WV.out [] (cL:Int) (of_decide_eq_true (by first|(with_reducible assumption)|assumption)) (by have h_:(cL:Int)<((fu.length:Int):Int):=of_decide_eq_true (by first|(with_reducible assumption)|assumption);first|exact h_|(have e_:=(Kd.qD fy.out).1;omega)|simpa using h_);obtain ⟨ve12_0,rfl,ge12_0⟩:=RH;have Dj:=Kd.b2t b0C (of_decide_eq_true (by first|(with_reducible assumption)|assumption)) (by have h_:(cL:Int)<((fu.length:Int):Int):=of_decide_eq_true (by first|(with_reducible assumption)|assumption);first|exact h_|(have e_:=(Kd.qD fy.out).1;omega)|simpa using h_) (seg:=[v320]) (j:=0) (show 1<=1 from by decide) (x':=LX) (Kd.a3S (Kd.dh (Kd.DN rfl (Kd.dh (ok':=fun k_=>((fun _=>True)) k_/\k_≠rO) (Kd.qC (Bk.out) (Kd.nA fy.out) (by decide)) (fun k_ hk=>⟨trivial,fun e_=>(hk.2) (by rw [e_];rfl)⟩))) (fun _ h_=>Or.inr (h_)))) (fun _ hk=>hk) (fun k_ RI=>((Kd.dh (ok':=fun k_=>((fun _=>True)) k_/\k_≠rO) (Kd.qC (Bk.out) (Kd.nA fy.out) (by decide)) (fun k_ hk=>⟨trivial,fun e_=>(hk.2) (by rw [e_];rfl)⟩))).1 k_ RI.symm);have RJ:=Bl 0 _ rfl;(try simp only [show ((Kd.slice 3 (Kd.int .i64))).sz=1 from rfl,Nat.mul_one,Nat.add_zero] at RJ);have RL:=Eu 0;(try simp only [show ((Kd.slice 3 (Kd.int .i64))).sz=1 from rfl,Nat.mul_one,Nat.add_zero] at RL);clear OL Bl Eu;(try clear RH);clear b0B b0C;(try simp only [show ((Kd.slice 3 (Kd.int .i64))).sz=1 from rfl,Nat.mul_one,Nat.add_zero] at Dj))|((with_reducible refine kg (t:=23) (p:=21) rfl ?_);refine uO (t:=23) (p:=21) (v:=?b0D) (w1:=(kV.setCell ⟨rO,(cL:Int).toNat,none⟩ (v320))) ?hg ?ho ?hn ?hr ?_;(case ho=>rfl);(case hg=>rfl);(case hn=>rfl);(case hr=>first|(go_simp;done)|(go_simp;rfl)|((try (obtain ⟨_,_,e_⟩:=Kd.gJ fy.out;rw [e_]));(try (obtain ⟨_,_,e_⟩:=Kd.ri fy.out;rw [e_]));(try (obtain ⟨_,_,e_⟩:=Kd.zy fy.out;rw [e_]));(try (obtain ⟨_,_,e_⟩:=Kd.zz fy.out;rw [e_]));(try (obtain ⟨_,_,e_⟩:=Kd.gJ Bk.out;rw [e_]));(try (obtain ⟨_,_,e_⟩:=Kd.ri Bk.out;rw [e_]));(try (obtain ⟨_,_,e_⟩:=Kd.zy Bk.out;rw [e_]));(try (obtain ⟨_,_,e_⟩:=Kd.zz Bk.out;rw [e_]));go_simp;first|done|rfl));intro iZ hw;have hg:kV.grownBy iZ (some rO):=(by rw [hw];exact Dj.2);have Di:Kd.S (Kd.slice 3 (Kd.int .i64)) 23 iZ w.heap.size (fun _=>True) (.slice (some ⟨rO,0,none⟩) fu.length RA) a2O:=(by rw [hw,b3w.out];exact Dj.1);clear Dj;have aA:=Aside0.mk (Di);have aC:=Aside0.mk ((by rw [hw];exact bR (HB.out) WT.out:Below w.heap.size w iZ));clear fy;clear HB;clear Bk;have fy:=aA;have HB:=aC;clear aA aC;clear hg hw Di))
        go_roundg k1
        case measure=>have:=dX.out;omega
        case rel=>exact ⟨(a2O),(wrap64 (cL+1)),(by first|rfl|(simp;done)|(simp [*];done)),H',⟨by have:=dX.out;omega⟩,⟨by (with_reducible repeat (first|apply Kd.bK|apply Kd.bL|apply Kd.bX));exact fy.out⟩,⟨ay⟩⟩
       ·rw [if_neg c9] at H
        exact absurd H (by simp)
      ·rw [if_neg c7] at H
       exact absurd H (by simp)
     ·rw [if_neg c6] at H
      have oc:decide (cL<(l0.length:Int))=false:=decide_eq_false c6
      clear c6
      obtain rfl:=Option.some.inj H
      go_wp2
      go_ret
      exact ⟨_,by first|rfl|(simp [aX,aY]<;>rfl)|(simp [*,aX,aY]<;>rfl),by (with_reducible repeat (first|apply Kd.bK|apply Kd.bL|apply Kd.bX));exact fy.out,ay⟩
  ·rw [if_neg c3] at H
   exact absurd H (by simp)
 ·rw [if_neg c2] at H
  exact absurd H (by simp)
def cN.l0:Nat->List Int->List Int->Int->Option (Bool)
 |0,_,_,_=>none
 |k+1,x0,x1,x5=>if x5<(x0.length:Int) then (if 0<=x5 then (if x5<(x1.length:Int) then (if (rd x0 x5)=(rd x1 x5) then (cN.l0 k x0 x1 (wrap64 (x5+1))) else (some false)) else (none)) else (none)) else (some true)
def cN.f (k:Nat) (l0:List Int) (l1:List Int):Option (Bool):=if (l0.length:Int)=(l1.length:Int) then (cN.l0 k l0 l1 0) else (some false)
theorem cN.cC:∀k,(∀y0 y1 y2,aR (cN.l0 k y0 y1 y2) (cN.l0 (k+1) y0 y1 y2))
 |0=>fun _ _ _ r h=>by simp [cN.l0] at h
 |k+1=>by
  have dN:=cN.cC k
  ·intro y0 y1 y2
   unfold cN.l0
   repeat' first
   |(with_reducible exact dN _ _ _)
   |(with_reducible exact aR.refl _)
   |(with_reducible exact aR.none _)
   |(with_reducible refine aR.ite ?_ ?_)
   |(with_reducible refine aR.bind ?_ (fun _=>?_))
theorem cN.mono:∀a0 a1 k,aR (cN.f k a0 a1) (cN.f (k+1) a0 a1):=by
 intro a0 a1 k
 have dN:=cN.cC k
 unfold cN.f
 repeat' first
  |(with_reducible exact dN _ _ _)
  |(with_reducible exact aR.refl _)
  |(with_reducible exact aR.none _)
  |(with_reducible refine aR.ite ?_ ?_)
  |(with_reducible refine aR.bind ?_ (fun _=>?_))
set_option maxHeartbeats 8000000 in
set_option maxRecDepth 100000 in
theorem cN.calls (k:Nat) (A0:Option Addr) (c0:Nat) (l0:List Int) (A1:Option Addr) (c1:Nat) (l1:List Int) (r:Bool) (w:World) (fl:Kd.C (Kd.int .i64) w A0 l0.length l0) (hc0:l0.length<=c0) (hr1:Kd.C (Kd.int .i64) w A1 l1.length l1) (hc1:l1.length<=c1) (h:cN.f k l0 l1=some r):
 Calls Try.prog 16 #[.slice A0 l0.length c0,.slice A1 l1.length c1] w fun e w'=>e= .returned (.bool r)/\aW w w':=by
 have eu:=Aside0.mk fl
 have kr:=Aside0.mk hc0
 clear fl hc0
 have gA:=Aside0.mk hr1
 have gb:=Aside0.mk hc1
 clear hr1 hc1
 have H:(if (l0.length:Int)=(l1.length:Int) then (cN.l0 k l0 l1 0) else (some false))=some r:=h
 clear h
 by_cases c3:(l0.length:Int)=(l1.length:Int)
 ·rw [if_pos c3] at H
  have iw:((l0.length:Int)==(l1.length:Int))=true:=beq_iff_eq.mpr c3
  have oz:((l0.length:Int) !=(l1.length:Int))=false:=bne_eq_false_iff_eq.mpr c3
  have Dk:(l0.length==l1.length)=true:=by first|simpa using c3|(simp at c3⊢;omega)
  clear c3
  have H':=Aside0.mk H
  clear H
  go_enter Try.func16,Try.ntmps16
  go_wp2
  repeat (go_quiet (fail);try go_wp2)
  go_loopg [5] k (fun kq v5 w'=>∃(bC:Int),v5= .int .i64 bC/\Aside0 (cN.l0 kq l0 l1 bC=some r)/\Aside0 (kq<=k)/\aW w w')
  case atStart=>exact ⟨(0),(by first|rfl|(simp;done)|(simp [*];done)),H',⟨Nat.le_refl _⟩,by repeat (first|exact aW.refl _|apply aW.step)⟩
  case round=>
   clear H'
   try clear c1
   try clear p2
   try clear c3
   try clear iw
   try clear oz
   try clear Dk
   obtain ⟨bC,rfl,HA,dX,⟨m1,rfl⟩⟩:=hrel
   cases gk with
   |zero=>exact absurd HA.out (by simp [cN.l0])
   |succ k1=>
    have H:=HA.out
    clear HA
    simp only [cN.l0] at H
    by_cases c4:bC<(l0.length:Int)
    ·rw [if_pos c4] at H
     have mj:decide (bC<(l0.length:Int))=true:=decide_eq_true c4
     clear c4
     by_cases c5:0<=bC
     ·rw [if_pos c5] at H
      have wF:decide (0<=bC)=true:=decide_eq_true c5
      clear c5
      by_cases c6:bC<(l1.length:Int)
      ·rw [if_pos c6] at H
       have oc:decide (bC<(l1.length:Int))=true:=decide_eq_true c6
       clear c6
       by_cases c7:(rd l0 bC)=(rd l1 bC)
       ·rw [if_pos c7] at H
        have tH:((rd l0 bC)==(rd l1 bC))=true:=beq_iff_eq.mpr c7
        have a8J:((rd l0 bC) !=(rd l1 bC))=false:=bne_eq_false_iff_eq.mpr c7
        clear c7
        have H':=Aside0.mk H
        clear H
        have Gv:0<=(bC:Int):=of_decide_eq_true (by first|(with_reducible assumption)|assumption)
        have Gw:bC<(l0.length:Int):=of_decide_eq_true (by first|(with_reducible assumption)|assumption)
        obtain ⟨b3x,a2S,a7k⟩:=Kd.gL eu.out bC Gv Gw
        cases a2S
        replace Gv:=eq_true Gv
        replace Gw:=eq_true Gw
        have Gx:0<=(bC:Int):=of_decide_eq_true (by first|(with_reducible assumption)|assumption)
        have Gy:bC<(l1.length:Int):=of_decide_eq_true (by first|(with_reducible assumption)|assumption)
        obtain ⟨b3y,a2T,a7l⟩:=Kd.gL gA.out bC Gx Gy
        cases a2T
        replace Gx:=eq_true Gx
        replace Gy:=eq_true Gy
        go_wp2
        repeat (go_quiet (fail);try go_wp2)
        go_roundg k1
        case measure=>have:=dX.out;omega
        case rel=>exact ⟨(wrap64 (bC+1)),(by first|rfl|(simp;done)|(simp [*];done)),H',⟨by have:=dX.out;omega⟩,by repeat (first|exact aW.refl _|apply aW.step)⟩
       ·rw [if_neg c7] at H
        have tH:((rd l0 bC)==(rd l1 bC))=false:=beq_eq_false_iff_ne.mpr c7
        have a8J:((rd l0 bC) !=(rd l1 bC))=true:=bne_iff_ne.mpr c7
        obtain rfl:=Option.some.inj H
        have Gv:0<=(bC:Int):=of_decide_eq_true (by first|(with_reducible assumption)|assumption)
        have Gw:bC<(l0.length:Int):=of_decide_eq_true (by first|(with_reducible assumption)|assumption)
        obtain ⟨b3x,a2S,a7k⟩:=Kd.gL eu.out bC Gv Gw
        cases a2S
        replace Gv:=eq_true Gv
        replace Gw:=eq_true Gw
        have Gx:0<=(bC:Int):=of_decide_eq_true (by first|(with_reducible assumption)|assumption)
        have Gy:bC<(l1.length:Int):=of_decide_eq_true (by first|(with_reducible assumption)|assumption)
        obtain ⟨b3y,a2T,a7l⟩:=Kd.gL gA.out bC Gx Gy
        cases a2T
        replace Gx:=eq_true Gx
        replace Gy:=eq_true Gy
        go_wp2
        repeat (go_quiet (fail);try go_wp2)
        go_ret
        exact ⟨by first|rfl|(simp;done)|(simp [*];done),by repeat (first|exact aW.refl _|apply aW.step)⟩
      ·rw [if_neg c6] at H
       exact absurd H (by simp)
     ·rw [if_neg c5] at H
      exact absurd H (by simp)
    ·rw [if_neg c4] at H
     have mj:decide (bC<(l0.length:Int))=false:=decide_eq_false c4
     clear c4
     obtain rfl:=Option.some.inj H
     go_wp2
     repeat (go_quiet (fail);try go_wp2)
     go_ret
     exact ⟨by first|rfl|(simp;done)|(simp [*];done),by repeat (first|exact aW.refl _|apply aW.step)⟩
 ·rw [if_neg c3] at H
  have iw:((l0.length:Int)==(l1.length:Int))=false:=beq_eq_false_iff_ne.mpr c3
  have oz:((l0.length:Int) !=(l1.length:Int))=true:=bne_iff_ne.mpr c3
  have Dk:(l0.length==l1.length)=false:=by first|simpa using c3|(simp at c3⊢;omega)
  obtain rfl:=Option.some.inj H
  go_enter Try.func16,Try.ntmps16
  go_wp2
  repeat (go_quiet (fail);try go_wp2)
  go_ret
  exact ⟨by first|rfl|(simp;done)|(simp [*];done),by repeat (first|exact aW.refl _|apply aW.step)⟩
end Go.Proofs.Ytkckdphjhlbdcaa.P
