/-
  The law FnExactCoverOf answers true at every argument.
-/
import Derived.Test.YtnhknojfpjheoaaRows
import Derived.Test.YtnhknojfpjheoaaKCoverOf2
import Derived.Test.YtnhknojfpjheoaaKCoverOf4
import Derived.Test.YtnhknojfpjheoaaKCoverOf7
import Derived.Test.YtnhknojfpjheoaaKCoverOf8
import Derived.Test.YtnhknojfpjheoaaKCoverOf12
import Derived.WalkKit
import Derived.ProofKit
import Derived.OpenShut
import Derived.ShutString
import Derived.ChangeOld
import Derived.Below
import Derived.SizedLaws
import Derived.Lib.SmallJoins
namespace Go.Proofs.Ytnhknojfpjheoaa.PT
open Go.RowKit Go.Proofs.Ytnhknojfpjheoaa.P Go.Proofs.YtnhknojfpjheoaaW.PrintWords Go.Proofs.YtnhknojfpjheoaaW.PrintLast Go.Proofs.Ytnhknojfpjheoaa.EvKit Go.Proofs.Ytnhknojfpjheoaa.Num Go.Proofs.Ytnhknojfpjheoaa.Lp
set_option linter.all false
theorem XR {w:World} {B m N K:Nat} {T:bq} {cs:Array Value} (h:w.heap[B]? =some (.cells cs 62 (0,0))) (hR:gf cs m N K T):tv w B m N K T:=⟨cs,h,hR⟩
set_option maxHeartbeats 2000000 in
set_option maxRecDepth 100000 in
theorem Lg (D C L m N K:Nat) (T0:bq) (Inv:bq->Prop) (cs:Array Value) (w:World) (hR:gf cs m N K T0) (hcd:C*D+C*D<=1000000) (GH:Road D C L m N K (fun T T'=>Nonempty (DStep m N K T T')) Inv T0) (a3j:∀T,Inv T->∀r,r<m->T.cell r N<0->∃c,c<N/\T.cell r c<0):
 Calls Try.prog 34 #[.agg cs] w fun e w'=>∃cs' T,e= .returned (.agg cs')/\gf cs' m N K T/\Inv T/\(∀r,r<m->¬T.cell r N<0)/\Below w.heap.size w w':=by
 have hu:=Try.underlying62
 have HR:=Aside0.mk hR
 have rX:=Aside0.mk GH
 have HFe:=Aside0.mk a3j
 have HCD:=Aside0.mk hcd
 clear hR GH a3j hcd
 go_enter Try.func34,Try.ntmps34
 go_wp2
 have lG:Aside0 (((w.alloc (.cells cs 62)).alloc (.cells Try.zeroCells62 62)).heap[w.heap.size]? =some (.cells cs 62 (0,0))):=⟨ak (di w _) _⟩
 have OL:Aside0 (((w.alloc (.cells cs 62)).alloc (.cells Try.zeroCells62 62)).heap[w.heap.size+1]? =some (.cells Try.zeroCells62 62 (0,0))):=⟨by have:=di (w.alloc (.cells cs 62)) (.cells Try.zeroCells62 62);rw [oQ] at this;exact this⟩
 have kO:Aside0 (Below w.heap.size w ((w.alloc (.cells cs 62)).alloc (.cells Try.zeroCells62 62))):=⟨bA (bA (Below.refl _ _) _) _⟩
 go_loopg [3] L (fun G s3 wr=>∃(n:Nat) (T:bq) (cs1:Array Value),L - n<=G/\Aside0 (Reach (fun T T'=>Nonempty (DStep m N K T T')) T0 n T)/\Aside0 (Inv T)/\Aside0 (gf cs1 m N K T)/\Aside0 (wr.heap[w.heap.size]? =some (.cells cs1 62 (0,0)))/\Aside0 (wr.heap[w.heap.size+1]? =some (.cells Try.zeroCells62 62 (0,0)))/\Aside0 (Below w.heap.size w wr))
 case atStart=>exact ⟨0,T0,cs,by omega,⟨Reach.zero _ _⟩,⟨rX.out.start⟩,HR,lG,OL,kO⟩
 case round=>
  clear lG OL kO HR
  obtain ⟨n,T,cs1,hG,XQ,xG,HR,HA,dO,cr⟩:=hrel
  have HnL:=Aside0.mk (rX.out.few XQ.out)
  have HF:=Aside0.mk (rX.out.fine T xG.out)
  have h0r:=br HA.out HR.out.rows
  go_wp2
  clear h0r
  go_loopw [3,9] (fun bv iv wr=>∃(x:Int) (i:Nat),bv= .int .i64 x/\iv= .int .i64 (i:Int)/\i<=m/\Aside0 (Td T N i x)/\Aside0 (wr.heap[w.heap.size]? =some (.cells cs1 62 (0,0)))/\Aside0 (wr.heap[w.heap.size+1]? =some (.cells Try.zeroCells62 62 (0,0)))/\Aside0 (Below w.heap.size w wr)) (fun _ iv _=>m -(intOf iv).toNat)
  case atStart=>exact ⟨-1,0,rfl,rfl,Nat.zero_le _,⟨.inl ⟨rfl,fun j hj=>by omega⟩⟩,HA,dO,cr⟩
  case round=>
   clear HA dO cr
   obtain ⟨x,i,rfl,rfl,vO,OM,HA,dO,cr⟩:=hrel
   by_cases hi:i<m
   ·have Dg:=Aside0.mk hi
    have Ro:i<m+K:=by omega
    have b0:(0:Int)<=(i:Int):=by omega
    have b1:(i:Int)<16:=by have:=HR.out.hm;omega
    have b2:(0:Int)<=(N:Int):=by omega
    have b3:(N:Int)<16:=by have:=HR.out.hN;omega
    have mS:Aside0 (wrap64 ((i:Int)+1)=((i+1:Nat):Int)):=⟨eR (by have:=HR.out.hm;omega)⟩
    have hm:=yw
    have js:=Aside0.mk (fun W=>vL (T.cell i N) W)
    have g4:decide ((i:Int)<(m:Int))=true:=decide_eq_true (by omega)
    have De:decide (i<m)=true:=decide_eq_true hi
    by_cases hp:T.cell i N<0
    ·have hz:jr (T.cell i N)<0:=of_decide_eq_true (by rw [yx];exact decide_eq_true hp)
     have HP:=Aside0.mk hp
     obtain ⟨z,hz'⟩:∃z,z=jr (T.cell i N):=⟨_,rfl⟩
     rw [<-hz'] at hz js
     have g5:decide (z<0)=true:=decide_eq_true hz
     have wR:Aside0 (Td T N (i+1) (i:Int)):=⟨.inr ⟨i,rfl,by omega,hp⟩⟩
     clear hz hz' hp hi
     by_cases hx:x= -1
     ·subst hx
      have g6:decide ((-1:Int)<0)=true:=rfl
      have HS:Aside0 (∀w':World,w'.heap[w.heap.size]? =some (.cells cs1 62 (0,0))->w'.cell? ⟨w.heap.size,529,none⟩=some (.int .i64 (N:Int))/\w'.cell? ⟨w.heap.size,i*32+N*2,none⟩=some (.int .i64 (T.cell i N).num)/\w'.cell? ⟨w.heap.size,i*32+N*2+1,none⟩=some (.int .i64 ((T.cell i N).den:Int))):=⟨fun w' h=>⟨br h HR.out.mO,br h (HR.out.num i N Ro (Nat.le_refl _)),br h (HR.out.den i N Ro (Nat.le_refl _))⟩⟩
      skip
      go_wp2
      refine eX (n:=25) (S:=fun w'=>w'.cell? ⟨w.heap.size,529,none⟩=some (.int .i64 (N:Int))/\w'.cell? ⟨w.heap.size,i*32+N*2,none⟩=some (.int .i64 (T.cell i N).num)/\w'.cell? ⟨w.heap.size,i*32+N*2+1,none⟩=some (.int .i64 ((T.cell i N).den:Int))) (ds:=[]) #[false,false,false,false,false,false,false,false,false,false,false,false,false,false,false,false,false,false,false,false,false,false,false,false,false] (by kernel_rfl) rfl rfl (HS.out _ (aj HA.out)) (fun hHeld=>?_)
      refine aX (i:=0) (N:=some 12) ?_
      refine aX (i:=1) (N:=some 13) ?_
      refine dy (i:=2) (N:=some 14) (v:=?_) (a':=?_) #[true,true,true,false,false,false,false,false,false,false,false,false,false,false,false,false,false,false,false,false,false,false,false,false,false] rfl rfl (by kernel_rfl) (fun _ _ _ h=>h) (Or.inl ⟨by rfl,?_⟩) hHeld ?_ ?_
      rotate_left
      ·rintro w' ⟨s0,s1,s2⟩
       go_simp
       with_reducible rfl
      rotate_left
      ·exact eG
      refine aX (i:=3) (N:=some 15) ?_
      refine aX (i:=4) (N:=some 16) ?_
      refine aX (i:=5) (N:=some 17) ?_
      refine dy (i:=6) (N:=some 18) (v:=?_) (a':=?_) #[true,true,true,true,true,true,true,false,false,false,false,false,false,false,false,false,false,false,false,false,false,false,false,false,false] rfl rfl (by kernel_rfl) (fun _ _ _ h=>h) (Or.inl ⟨by rfl,?_⟩) hHeld ?_ ?_
      rotate_left
      ·rintro w' ⟨s0,s1,s2⟩
       go_simp
       with_reducible rfl
      rotate_left
      ·exact eG
      refine aX (i:=7) (N:=some 19) ?_
      refine fA (i:=8) (N:=some 20) #[true,true,true,true,true,true,true,true,true,false,false,false,false,false,false,false,false,false,false,false,false,false,false,false,false] rfl rfl (by kernel_rfl) (by decide) (fun K hK=>?_)
      refine rD 87 #[V (T.cell i N)] (by rfl) rfl ?_ ?_
      ·go_simp
      refine (js.out _).mono ?_
      rintro e w1 ⟨rfl,hb1⟩
      have lI:=ah (bB (Below.refl wr.heap.size wr)) hb1
      have fG:=Aside0.mk (ai HA.out lI)
      have fN:=Aside0.mk (ai dO.out lI)
      have fe:=Aside0.mk (ah cr.out lI)
      clear hb1 lI
      refine ⟨_,rfl,?_⟩
      refine hK.out _ _ (HS.out _ fG.out) (fun hHeld=>?_)
      clear hK K
      refine eF (a':=?_) ?_ ?_
      rotate_left
      ·show Act.put _ (some 20) _=_
       simp only [Act.put,List.setIfInBounds_toArray,List.set_cons_zero,List.set_cons_succ,cZ,dX]
       rfl
      refine aX (i:=9) (N:=some 21) ?_
      refine aX (i:=10) (N:=some 22) ?_
      refine aX (i:=11) (N:=some 23) ?_
      refine aX (i:=12) (N:=some 24) ?_
      refine aX (i:=13) (N:=some 25) ?_
      refine jV (i:=14) (N:=some 26) ?_
      refine jV (i:=15) (N:=some 27) ?_
      refine jV (i:=16) (N:=some 28) ?_
      refine jV (i:=17) (N:=some 29) ?_
      refine jV (i:=18) (N:=some 30) ?_
      refine jV (i:=19) (N:=some 31) ?_
      refine jV (i:=20) (N:=some 32) ?_
      refine jV (i:=21) (N:=some 33) ?_
      refine jV (i:=22) (N:=some 34) ?_
      refine aX (i:=23) (N:=some 35) ?_
      refine aX (i:=24) (N:=some 36) ?_
      refine fV (by kernel_rfl) ?_
      clear hHeld
      go_wp2
      go_roundw
      case rel=>exact ⟨(i:Int),i+1,rfl,by first|(rw [mS.out];done)|rfl|(simp;done),Dg.out,wR,fG,fN,fe⟩
      case measure=>(try rw [mS.out]);have:=Dg.out;simp [intOf];omega
     ·obtain ⟨b,rfl,hbr,sj⟩:∃b:Nat,x=b/\b<i/\T.cell b N<0:=by
       rcases OM.out with ⟨e,_⟩|h
       ·exact absurd e hx
       ·exact h
      have g6:decide ((b:Int)<0)=false:=decide_eq_false (by omega)
      have b4:(0:Int)<=(b:Int):=by omega
      have b5:(b:Int)<16:=by have:=HR.out.hm;omega
      obtain ⟨xi,GJ⟩:∃xi,xi=(T.basis i:Int):=⟨_,rfl⟩
      obtain ⟨xb,hxb⟩:∃xb,xb=(T.basis b:Int):=⟨_,rfl⟩
      have WR:Aside0 (Td T N (i+1) (b:Int)):=⟨.inr ⟨b,rfl,by omega,sj⟩⟩
      have HS:Aside0 (∀w':World,w'.heap[w.heap.size]? =some (.cells cs1 62 (0,0))->w'.cell? ⟨w.heap.size,529,none⟩=some (.int .i64 (N:Int))/\w'.cell? ⟨w.heap.size,i*32+N*2,none⟩=some (.int .i64 (T.cell i N).num)/\w'.cell? ⟨w.heap.size,i*32+N*2+1,none⟩=some (.int .i64 ((T.cell i N).den:Int))/\w'.cell? ⟨w.heap.size,512+i,none⟩=some (.int .i64 xi)/\w'.cell? ⟨w.heap.size,512+b,none⟩=some (.int .i64 xb)):=⟨fun w' h=>⟨br h HR.out.mO,br h (HR.out.num i N Ro (Nat.le_refl _)),br h (HR.out.den i N Ro (Nat.le_refl _)),by rw [GJ];exact br h (HR.out.eO i Dg.out),by rw [hxb];exact br h (HR.out.eO b (by have:=Dg.out;omega))⟩⟩
      by_cases vk:xi<xb
      ·have g7:decide (xi<xb)=true:=decide_eq_true vk
       clear hx GJ hxb vk sj
       go_wp2
       refine eX (n:=25) (S:=fun w'=>w'.cell? ⟨w.heap.size,529,none⟩=some (.int .i64 (N:Int))/\w'.cell? ⟨w.heap.size,i*32+N*2,none⟩=some (.int .i64 (T.cell i N).num)/\w'.cell? ⟨w.heap.size,i*32+N*2+1,none⟩=some (.int .i64 ((T.cell i N).den:Int))/\w'.cell? ⟨w.heap.size,512+i,none⟩=some (.int .i64 xi)/\w'.cell? ⟨w.heap.size,512+b,none⟩=some (.int .i64 xb)) (ds:=[]) #[false,false,false,false,false,false,false,false,false,false,false,false,false,false,false,false,false,false,false,false,false,false,false,false,false] (by kernel_rfl) rfl rfl (HS.out _ (aj HA.out)) (fun hHeld=>?_)
       refine aX (i:=0) (N:=some 12) ?_
       refine aX (i:=1) (N:=some 13) ?_
       refine dy (i:=2) (N:=some 14) (v:=?_) (a':=?_) #[true,true,true,false,false,false,false,false,false,false,false,false,false,false,false,false,false,false,false,false,false,false,false,false,false] rfl rfl (by kernel_rfl) (fun _ _ _ h=>h) (Or.inl ⟨by rfl,?_⟩) hHeld ?_ ?_
       rotate_left
       ·rintro w' ⟨s0,s1,s2,s3,s4⟩
        go_simp
        with_reducible rfl
       rotate_left
       ·exact eG
       refine aX (i:=3) (N:=some 15) ?_
       refine aX (i:=4) (N:=some 16) ?_
       refine aX (i:=5) (N:=some 17) ?_
       refine dy (i:=6) (N:=some 18) (v:=?_) (a':=?_) #[true,true,true,true,true,true,true,false,false,false,false,false,false,false,false,false,false,false,false,false,false,false,false,false,false] rfl rfl (by kernel_rfl) (fun _ _ _ h=>h) (Or.inl ⟨by rfl,?_⟩) hHeld ?_ ?_
       rotate_left
       ·rintro w' ⟨s0,s1,s2,s3,s4⟩
        go_simp
        with_reducible rfl
       rotate_left
       ·exact eG
       refine aX (i:=7) (N:=some 19) ?_
       refine fA (i:=8) (N:=some 20) #[true,true,true,true,true,true,true,true,true,false,false,false,false,false,false,false,false,false,false,false,false,false,false,false,false] rfl rfl (by kernel_rfl) (by decide) (fun K hK=>?_)
       refine rD 87 #[V (T.cell i N)] (by rfl) rfl ?_ ?_
       ·go_simp
       refine (js.out _).mono ?_
       rintro e w1 ⟨rfl,hb1⟩
       have lI:=ah (bB (Below.refl wr.heap.size wr)) hb1
       have fG:=Aside0.mk (ai HA.out lI)
       have fN:=Aside0.mk (ai dO.out lI)
       have fe:=Aside0.mk (ah cr.out lI)
       clear hb1 lI
       refine ⟨_,rfl,?_⟩
       refine hK.out _ _ (HS.out _ fG.out) (fun hHeld=>?_)
       clear hK K
       refine eF (a':=?_) ?_ ?_
       rotate_left
       ·show Act.put _ (some 20) _=_
        simp only [Act.put,List.setIfInBounds_toArray,List.set_cons_zero,List.set_cons_succ,cZ,dX]
        rfl
       refine aX (i:=9) (N:=some 21) ?_
       refine aX (i:=10) (N:=some 22) ?_
       refine aX (i:=11) (N:=some 23) ?_
       refine aX (i:=12) (N:=some 24) ?_
       refine aX (i:=13) (N:=some 25) ?_
       refine aX (i:=14) (N:=some 26) ?_
       refine aX (i:=15) (N:=some 27) ?_
       refine aX (i:=16) (N:=some 28) ?_
       refine dy (i:=17) (N:=some 29) (v:=?_) (a':=?_) #[true,true,true,true,true,true,true,true,true,true,true,true,true,true,true,true,true,true,false,false,false,false,false,false,false] rfl rfl (by kernel_rfl) (fun _ _ _ h=>h) (Or.inl ⟨by rfl,?_⟩) hHeld ?_ ?_
       rotate_left
       ·rintro w' ⟨s0,s1,s2,s3,s4⟩
        go_simp
        with_reducible rfl
       rotate_left
       ·exact eG
       refine aX (i:=18) (N:=some 30) ?_
       refine aX (i:=19) (N:=some 31) ?_
       refine aX (i:=20) (N:=some 32) ?_
       refine dy (i:=21) (N:=some 33) (v:=?_) (a':=?_) #[true,true,true,true,true,true,true,true,true,true,true,true,true,true,true,true,true,true,true,true,true,true,false,false,false] rfl rfl (by kernel_rfl) (fun _ _ _ h=>h) (Or.inl ⟨by rfl,?_⟩) hHeld ?_ ?_
       rotate_left
       ·rintro w' ⟨s0,s1,s2,s3,s4⟩
        go_simp
        with_reducible rfl
       rotate_left
       ·exact eG
       refine aX (i:=22) (N:=some 34) ?_
       refine aX (i:=23) (N:=some 35) ?_
       refine aX (i:=24) (N:=some 36) ?_
       refine fV (by kernel_rfl) ?_
       clear hHeld
       go_wp2
       go_roundw
       case rel=>exact ⟨(i:Int),i+1,rfl,by first|(rw [mS.out];done)|rfl|(simp;done),Dg.out,wR,fG,fN,fe⟩
       case measure=>(try rw [mS.out]);have:=Dg.out;simp [intOf];omega
      ·have g7:decide (xi<xb)=false:=decide_eq_false vk
       clear hx GJ hxb vk sj
       go_wp2
       refine eX (n:=25) (S:=fun w'=>w'.cell? ⟨w.heap.size,529,none⟩=some (.int .i64 (N:Int))/\w'.cell? ⟨w.heap.size,i*32+N*2,none⟩=some (.int .i64 (T.cell i N).num)/\w'.cell? ⟨w.heap.size,i*32+N*2+1,none⟩=some (.int .i64 ((T.cell i N).den:Int))/\w'.cell? ⟨w.heap.size,512+i,none⟩=some (.int .i64 xi)/\w'.cell? ⟨w.heap.size,512+b,none⟩=some (.int .i64 xb)) (ds:=[]) #[false,false,false,false,false,false,false,false,false,false,false,false,false,false,false,false,false,false,false,false,false,false,false,false,false] (by kernel_rfl) rfl rfl (HS.out _ (aj HA.out)) (fun hHeld=>?_)
       refine aX (i:=0) (N:=some 12) ?_
       refine aX (i:=1) (N:=some 13) ?_
       refine dy (i:=2) (N:=some 14) (v:=?_) (a':=?_) #[true,true,true,false,false,false,false,false,false,false,false,false,false,false,false,false,false,false,false,false,false,false,false,false,false] rfl rfl (by kernel_rfl) (fun _ _ _ h=>h) (Or.inl ⟨by rfl,?_⟩) hHeld ?_ ?_
       rotate_left
       ·rintro w' ⟨s0,s1,s2,s3,s4⟩
        go_simp
        with_reducible rfl
       rotate_left
       ·exact eG
       refine aX (i:=3) (N:=some 15) ?_
       refine aX (i:=4) (N:=some 16) ?_
       refine aX (i:=5) (N:=some 17) ?_
       refine dy (i:=6) (N:=some 18) (v:=?_) (a':=?_) #[true,true,true,true,true,true,true,false,false,false,false,false,false,false,false,false,false,false,false,false,false,false,false,false,false] rfl rfl (by kernel_rfl) (fun _ _ _ h=>h) (Or.inl ⟨by rfl,?_⟩) hHeld ?_ ?_
       rotate_left
       ·rintro w' ⟨s0,s1,s2,s3,s4⟩
        go_simp
        with_reducible rfl
       rotate_left
       ·exact eG
       refine aX (i:=7) (N:=some 19) ?_
       refine fA (i:=8) (N:=some 20) #[true,true,true,true,true,true,true,true,true,false,false,false,false,false,false,false,false,false,false,false,false,false,false,false,false] rfl rfl (by kernel_rfl) (by decide) (fun K hK=>?_)
       refine rD 87 #[V (T.cell i N)] (by rfl) rfl ?_ ?_
       ·go_simp
       refine (js.out _).mono ?_
       rintro e w1 ⟨rfl,hb1⟩
       have lI:=ah (bB (Below.refl wr.heap.size wr)) hb1
       have fG:=Aside0.mk (ai HA.out lI)
       have fN:=Aside0.mk (ai dO.out lI)
       have fe:=Aside0.mk (ah cr.out lI)
       clear hb1 lI
       refine ⟨_,rfl,?_⟩
       refine hK.out _ _ (HS.out _ fG.out) (fun hHeld=>?_)
       clear hK K
       refine eF (a':=?_) ?_ ?_
       rotate_left
       ·show Act.put _ (some 20) _=_
        simp only [Act.put,List.setIfInBounds_toArray,List.set_cons_zero,List.set_cons_succ,cZ,dX]
        rfl
       refine aX (i:=9) (N:=some 21) ?_
       refine aX (i:=10) (N:=some 22) ?_
       refine aX (i:=11) (N:=some 23) ?_
       refine aX (i:=12) (N:=some 24) ?_
       refine aX (i:=13) (N:=some 25) ?_
       refine aX (i:=14) (N:=some 26) ?_
       refine aX (i:=15) (N:=some 27) ?_
       refine aX (i:=16) (N:=some 28) ?_
       refine dy (i:=17) (N:=some 29) (v:=?_) (a':=?_) #[true,true,true,true,true,true,true,true,true,true,true,true,true,true,true,true,true,true,false,false,false,false,false,false,false] rfl rfl (by kernel_rfl) (fun _ _ _ h=>h) (Or.inl ⟨by rfl,?_⟩) hHeld ?_ ?_
       rotate_left
       ·rintro w' ⟨s0,s1,s2,s3,s4⟩
        go_simp
        with_reducible rfl
       rotate_left
       ·exact eG
       refine aX (i:=18) (N:=some 30) ?_
       refine aX (i:=19) (N:=some 31) ?_
       refine aX (i:=20) (N:=some 32) ?_
       refine dy (i:=21) (N:=some 33) (v:=?_) (a':=?_) #[true,true,true,true,true,true,true,true,true,true,true,true,true,true,true,true,true,true,true,true,true,true,false,false,false] rfl rfl (by kernel_rfl) (fun _ _ _ h=>h) (Or.inl ⟨by rfl,?_⟩) hHeld ?_ ?_
       rotate_left
       ·rintro w' ⟨s0,s1,s2,s3,s4⟩
        go_simp
        with_reducible rfl
       rotate_left
       ·exact eG
       refine aX (i:=22) (N:=some 34) ?_
       refine aX (i:=23) (N:=some 35) ?_
       refine aX (i:=24) (N:=some 36) ?_
       refine fV (by kernel_rfl) ?_
       clear hHeld
       go_wp2
       go_roundw
       case rel=>exact ⟨(b:Int),i+1,rfl,by first|(rw [mS.out];done)|rfl|(simp;done),Dg.out,WR,fG,fN,fe⟩
       case measure=>(try rw [mS.out]);have:=Dg.out;simp [intOf];omega
    ·have hz:¬jr (T.cell i N)<0:=fun h=>hp (of_decide_eq_true (by rw [<-yx];exact decide_eq_true h))
     obtain ⟨z,hz'⟩:∃z,z=jr (T.cell i N):=⟨_,rfl⟩
     rw [<-hz'] at hz js
     have g5:decide (z<0)=false:=decide_eq_false hz
     have wR:Aside0 (Td T N (i+1) x):=⟨by
      rcases OM.out with ⟨e,h⟩|⟨b,e,h1,h2⟩
      ·refine .inl ⟨e,fun j hj=>?_⟩
       by_cases e2:j=i
       ·rw [e2];exact hp
       ·exact h j (by omega)
      ·exact .inr ⟨b,e,by omega,h2⟩⟩
     have HS:Aside0 (∀w':World,w'.heap[w.heap.size]? =some (.cells cs1 62 (0,0))->w'.cell? ⟨w.heap.size,529,none⟩=some (.int .i64 (N:Int))/\w'.cell? ⟨w.heap.size,i*32+N*2,none⟩=some (.int .i64 (T.cell i N).num)/\w'.cell? ⟨w.heap.size,i*32+N*2+1,none⟩=some (.int .i64 ((T.cell i N).den:Int))):=⟨fun w' h=>⟨br h HR.out.mO,br h (HR.out.num i N Ro (Nat.le_refl _)),br h (HR.out.den i N Ro (Nat.le_refl _))⟩⟩
     skip
     clear hz hz' hp hi
     go_wp2
     refine eX (n:=25) (S:=fun w'=>w'.cell? ⟨w.heap.size,529,none⟩=some (.int .i64 (N:Int))/\w'.cell? ⟨w.heap.size,i*32+N*2,none⟩=some (.int .i64 (T.cell i N).num)/\w'.cell? ⟨w.heap.size,i*32+N*2+1,none⟩=some (.int .i64 ((T.cell i N).den:Int))) (ds:=[]) #[false,false,false,false,false,false,false,false,false,false,false,false,false,false,false,false,false,false,false,false,false,false,false,false,false] (by kernel_rfl) rfl rfl (HS.out _ (aj HA.out)) (fun hHeld=>?_)
     refine aX (i:=0) (N:=some 12) ?_
     refine aX (i:=1) (N:=some 13) ?_
     refine dy (i:=2) (N:=some 14) (v:=?_) (a':=?_) #[true,true,true,false,false,false,false,false,false,false,false,false,false,false,false,false,false,false,false,false,false,false,false,false,false] rfl rfl (by kernel_rfl) (fun _ _ _ h=>h) (Or.inl ⟨by rfl,?_⟩) hHeld ?_ ?_
     rotate_left
     ·rintro w' ⟨s0,s1,s2⟩
      go_simp
      with_reducible rfl
     rotate_left
     ·exact eG
     refine aX (i:=3) (N:=some 15) ?_
     refine aX (i:=4) (N:=some 16) ?_
     refine aX (i:=5) (N:=some 17) ?_
     refine dy (i:=6) (N:=some 18) (v:=?_) (a':=?_) #[true,true,true,true,true,true,true,false,false,false,false,false,false,false,false,false,false,false,false,false,false,false,false,false,false] rfl rfl (by kernel_rfl) (fun _ _ _ h=>h) (Or.inl ⟨by rfl,?_⟩) hHeld ?_ ?_
     rotate_left
     ·rintro w' ⟨s0,s1,s2⟩
      go_simp
      with_reducible rfl
     rotate_left
     ·exact eG
     refine aX (i:=7) (N:=some 19) ?_
     refine fA (i:=8) (N:=some 20) #[true,true,true,true,true,true,true,true,true,false,false,false,false,false,false,false,false,false,false,false,false,false,false,false,false] rfl rfl (by kernel_rfl) (by decide) (fun K hK=>?_)
     refine rD 87 #[V (T.cell i N)] (by rfl) rfl ?_ ?_
     ·go_simp
     refine (js.out _).mono ?_
     rintro e w1 ⟨rfl,hb1⟩
     have lI:=ah (bB (Below.refl wr.heap.size wr)) hb1
     have fG:=Aside0.mk (ai HA.out lI)
     have fN:=Aside0.mk (ai dO.out lI)
     have fe:=Aside0.mk (ah cr.out lI)
     clear hb1 lI
     refine ⟨_,rfl,?_⟩
     refine hK.out _ _ (HS.out _ fG.out) (fun hHeld=>?_)
     clear hK K
     refine eF (a':=?_) ?_ ?_
     rotate_left
     ·show Act.put _ (some 20) _=_
      simp only [Act.put,List.setIfInBounds_toArray,List.set_cons_zero,List.set_cons_succ,cZ,dX]
      rfl
     refine aX (i:=9) (N:=some 21) ?_
     refine aX (i:=10) (N:=some 22) ?_
     refine jV (i:=11) (N:=some 23) ?_
     refine jV (i:=12) (N:=some 24) ?_
     refine jV (i:=13) (N:=some 25) ?_
     refine jV (i:=14) (N:=some 26) ?_
     refine jV (i:=15) (N:=some 27) ?_
     refine jV (i:=16) (N:=some 28) ?_
     refine jV (i:=17) (N:=some 29) ?_
     refine jV (i:=18) (N:=some 30) ?_
     refine jV (i:=19) (N:=some 31) ?_
     refine jV (i:=20) (N:=some 32) ?_
     refine jV (i:=21) (N:=some 33) ?_
     refine jV (i:=22) (N:=some 34) ?_
     refine jV (i:=23) (N:=some 35) ?_
     refine aX (i:=24) (N:=some 36) ?_
     refine fV (by kernel_rfl) ?_
     clear hHeld
     go_wp2
     go_roundw
     case rel=>exact ⟨x,i+1,rfl,by first|(rw [mS.out];done)|rfl|(simp;done),Dg.out,wR,fG,fN,fe⟩
     case measure=>(try rw [mS.out]);have:=Dg.out;simp [intOf];omega
   ·have g4:decide ((i:Int)<(m:Int))=false:=decide_eq_false (by omega)
    have De:decide (i<m)=false:=decide_eq_false hi
    have JD:i=m:=by omega
    by_cases hx:x= -1
    ·have HQ:Aside0 (∀r,r<m->¬T.cell r N<0):=⟨by
      rcases OM.out with ⟨_,h⟩|⟨b,e,_⟩
      ·rw [<-JD];exact h
      ·omega⟩
     have g6:decide (x<0)=true:=decide_eq_true (by omega)
     have HI:Aside0 ((Try.prog.info? 62).map (·.size)=some cs1.size):=⟨by rw [HR.out.size];kernel_rfl⟩
     have HZ:Aside0 ((Try.zeroCells62).size=cs1.size):=⟨by rw [HR.out.size];kernel_rfl⟩
     clear hx JD hi vO
     go_wp2_with (first|((with_reducible refine bp (N:=41) rfl ?_);refine wpList_load_row rfl 62 (.tmp 1) rfl w.heap.size rfl 62 cs1 (0,0) _ HA.out hu (by rfl) HI.out ?_)|((with_reducible refine iR (t:=62) (p:=2) rfl ?_);refine wpList_store_row rfl 62 (.tmp 2) (.tmp 41) rfl (w.heap.size+1) cs1 rfl rfl 62 Try.zeroCells62 dO.out HI.out HZ.out HR.out.one ?_))
     refine bodyPost_ret (results_cell_row rfl _ _ (w.heap.size+1) 62 cs1 (0,0) _ rfl (qV dO.out) hu (by rfl) HI.out) rfl ?_
     exact ⟨cs1,T,rfl,HR.out,xG.out,HQ.out,pH cr.out (by omega)⟩
    ·obtain ⟨r,rfl,hri,CQ⟩:∃b:Nat,x=b/\b<i/\T.cell b N<0:=by
      rcases OM.out with ⟨e,_⟩|h
      ·exact absurd e hx
      ·exact h
     have Kr:r<m:=by omega
     have g6:decide ((r:Int)<0)=false:=decide_eq_false (by omega)
     have h0c:=br HA.out HR.out.mO
     have HrN:=Aside0.mk CQ
     clear hx JD hi vO hri CQ
     go_wp2
     clear h0c g4 De OM
     go_loopw [5,44] (fun bv cv wr=>∃(x:Int) (c:Nat),bv= .int .i64 x/\cv= .int .i64 (c:Int)/\c<=N/\Aside0 (gV T m K r c x)/\Aside0 (wr.heap[w.heap.size]? =some (.cells cs1 62 (0,0)))/\Aside0 (wr.heap[w.heap.size+1]? =some (.cells Try.zeroCells62 62 (0,0)))/\Aside0 (Below w.heap.size w wr)) (fun _ cv _=>N -(intOf cv).toNat)
     case atStart=>exact ⟨-1,0,rfl,rfl,Nat.zero_le _,⟨gV.zero _ _ _ _⟩,HA,dO,cr⟩
     case round=>
      clear HA dO cr
      obtain ⟨x,c,rfl,rfl,hcN,KT,HA,dO,cr⟩:=hrel
      by_cases hc:c<N
      ·have uz:=Aside0.mk hc
       have AV:r<m+K:=by omega
       have h1:=br HA.out (HR.out.num r c AV (Nat.le_of_lt hc))
       have h2:=br HA.out (HR.out.den r c AV (Nat.le_of_lt hc))
       have b0:(0:Int)<=(r:Int):=by omega
       have b1:(r:Int)<16:=by have:=HR.out.hm;omega
       have b2:(0:Int)<=(c:Int):=by omega
       have b3:(c:Int)<16:=by have:=HR.out.hN;omega
       have wU:Aside0 (wrap64 ((c:Int)+1)=((c+1:Nat):Int)):=⟨eR (by have:=HR.out.hN;omega)⟩
       have hm:=yw
       have js:=Aside0.mk (fun W=>vL (T.cell r c) W)
       have g4:decide ((c:Int)<(N:Int))=true:=decide_eq_true (by omega)
       have De:decide (c<N)=true:=decide_eq_true hc
       by_cases hp:T.cell r c<0
       ·have hz:jr (T.cell r c)<0:=of_decide_eq_true (by rw [yx];exact decide_eq_true hp)
        obtain ⟨z,hz'⟩:∃z,z=jr (T.cell r c):=⟨_,rfl⟩
        rw [<-hz'] at hz js
        have g5:decide (z<0)=true:=decide_eq_true hz
        by_cases hx:x= -1
        ·have g7:decide (x<0)=true:=decide_eq_true (by omega)
         have Ez:Aside0 (gV T m K r (c+1) (c:Int)):=⟨gV.first (hx ▸ KT.out) hp⟩
         clear hz hz' hp hc hx
         go_wp2_with (first|(go_at_call 87;(with_reducible refine (js.out _).mono ?_);rintro e w1 ⟨rfl,hb1⟩;have fG:=Aside0.mk (ai HA.out hb1);have fN:=Aside0.mk (ai dO.out hb1);have fe:=Aside0.mk (ah cr.out hb1);clear hb1))
         go_roundw
         case rel=>exact ⟨c,c+1,rfl,by first|(rw [wU.out];done)|rfl|(simp;done),uz.out,Ez,fG,fN,fe⟩
         case measure=>(try rw [wU.out]);have:=uz.out;simp [intOf];omega
        ·obtain ⟨b,rfl,hbc,sj⟩:=KT.out.index hx
         have g7:decide ((b:Int)<0)=false:=decide_eq_false (by omega)
         have Bw:T.cell r c≠0:=fun h0=>by rw [h0] at hp;grind
         have Bx:T.cell r b≠0:=fun h0=>by rw [h0] at sj;grind
         have HCc:=Aside0.mk (fun W (h:tv W w.heap.size m N K T)=>Nv D C w.heap.size m N K r c b T W h HF.out HCD.out Kr hc (by omega) Bw Bx)
         generalize hy:kI T m r c b 0 K=y at HCc
         cases y with
         |true=>
          have Ez:Aside0 (gV T m K r (c+1) (c:Int)):=⟨gV.take KT.out hp hy⟩
          clear hz hz' hp hc hx Bw Bx sj hy
          go_wp2_with (first|(go_at_call 87;(with_reducible refine (js.out _).mono ?_);rintro e w1 ⟨rfl,hb1⟩;have fG:=Aside0.mk (ai HA.out hb1);have fN:=Aside0.mk (ai dO.out hb1);have fe:=Aside0.mk (ah cr.out hb1);clear hb1)|(go_at_call 56;(with_reducible refine (HCc.out _ (XR fG.out HR.out)).mono ?_);rintro e w2 ⟨rfl,hb2⟩;have iq:=Aside0.mk (ai fG.out hb2);have qj:=Aside0.mk (ai fN.out hb2);have Bz:=Aside0.mk (ah fe.out hb2);clear hb2))
          go_roundw
          case rel=>exact ⟨c,c+1,rfl,by first|(rw [wU.out];done)|rfl|(simp;done),uz.out,Ez,iq,qj,Bz⟩
          case measure=>(try rw [wU.out]);have:=uz.out;simp [intOf];omega
         |false=>
          have Ez:Aside0 (gV T m K r (c+1) (b:Int)):=⟨gV.keep KT.out hy⟩
          clear hz hz' hp hc hx Bw Bx sj hy
          go_wp2_with (first|(go_at_call 87;(with_reducible refine (js.out _).mono ?_);rintro e w1 ⟨rfl,hb1⟩;have fG:=Aside0.mk (ai HA.out hb1);have fN:=Aside0.mk (ai dO.out hb1);have fe:=Aside0.mk (ah cr.out hb1);clear hb1)|(go_at_call 56;(with_reducible refine (HCc.out _ (XR fG.out HR.out)).mono ?_);rintro e w2 ⟨rfl,hb2⟩;have iq:=Aside0.mk (ai fG.out hb2);have qj:=Aside0.mk (ai fN.out hb2);have Bz:=Aside0.mk (ah fe.out hb2);clear hb2))
          go_roundw
          case rel=>exact ⟨b,c+1,rfl,by first|(rw [wU.out];done)|rfl|(simp;done),uz.out,Ez,iq,qj,Bz⟩
          case measure=>(try rw [wU.out]);have:=uz.out;simp [intOf];omega
       ·have hz:¬jr (T.cell r c)<0:=fun h=>hp (of_decide_eq_true (by rw [<-yx];exact decide_eq_true h))
        obtain ⟨z,hz'⟩:∃z,z=jr (T.cell r c):=⟨_,rfl⟩
        rw [<-hz'] at hz js
        have g5:decide (z<0)=false:=decide_eq_false hz
        have Ez:=Aside0.mk (KT.out.skip hp)
        clear hz hz' hp hc
        go_wp2_with (first|(go_at_call 87;(with_reducible refine (js.out _).mono ?_);rintro e w1 ⟨rfl,hb1⟩;have fG:=Aside0.mk (ai HA.out hb1);have fN:=Aside0.mk (ai dO.out hb1);have fe:=Aside0.mk (ah cr.out hb1);clear hb1))
        go_roundw
        case rel=>exact ⟨x,c+1,rfl,by first|(rw [wU.out];done)|rfl|(simp;done),uz.out,Ez,fG,fN,fe⟩
        case measure=>(try rw [wU.out]);have:=uz.out;simp [intOf];omega
      ·have g4:decide ((c:Int)<(N:Int))=false:=decide_eq_false (by omega)
       have De:decide (c<N)=false:=decide_eq_false hc
       have uk:c=N:=by omega
       obtain ⟨j,hj,hjp⟩:=HFe.out T xG.out r Kr HrN.out
       have hx:x≠ -1:=by
        intro hx
        rcases KT.out with ⟨_,h⟩|⟨b,e,_⟩
        ·exact h j (by omega) hjp
        ·omega
       obtain ⟨b,rfl,hbc,sj⟩:=KT.out.index hx
       have g7:decide ((b:Int)<0)=false:=decide_eq_false (by omega)
       have hbN:b<N:=by omega
       have hne:T.cell r b≠0:=fun h0=>by rw [h0] at sj;grind
       have hst:Nonempty (DStep m N K T (T.pivot r b)):=⟨⟨r,b,Kr,hbN,HrN.out,sj,fun i hi pI=>by
        rcases KT.out with ⟨e,_⟩|⟨b',e,_,_,h⟩
        ·omega
        ·have e2:b'=b:=by omega
         subst e2
         exact h i (by omega) pI,rfl⟩⟩
       have KP:=Aside0.mk (rX.out.step T _ xG.out hst)
       have a0W:=Aside0.mk (XQ.out.next hst)
       have HP:=Aside0.mk (fun W=>FP D C m N K r b T cs1 W HR.out Kr hbN hne HF.out (rX.out.fine _ KP.out))
       have HI:Aside0 ((Try.prog.info? 62).map (·.size)=some cs1.size):=⟨by rw [HR.out.size];kernel_rfl⟩
       clear hx sj hst hne hjp hj uk hbc
       go_wp2_with (first|((with_reducible refine bp (N:=71) rfl ?_);refine wpList_load_row rfl 62 (.tmp 1) rfl w.heap.size rfl 62 cs1 (0,0) _ HA.out hu (by rfl) HI.out ?_)|(go_at_call 57;(with_reducible refine (HP.out _).mono ?_);rintro e w1 ⟨ir,rfl,Oa,hb1⟩;have GI:=Aside0.mk Oa;have fG:=Aside0.mk (ai HA.out hb1);have fN:=Aside0.mk (ai dO.out hb1);have fe:=Aside0.mk (ah cr.out hb1);have a0X:Aside0 ((Try.prog.info? 62).map (·.size)=some ir.size):=⟨by rw [GI.out.size];kernel_rfl⟩;have HZs:Aside0 (cs1.size=ir.size):=⟨by rw [HR.out.size,GI.out.size]⟩;clear hb1 Oa)|((with_reducible refine iR (t:=62) (p:=1) rfl ?_);refine wpList_store_row rfl 62 (.tmp 1) (.tmp 74) rfl w.heap.size ir rfl rfl 62 cs1 fG.out a0X.out HZs.out GI.out.one ?_))
       go_roundg (L -(n+1))
       case measure=>have:=HnL.out;omega
       case rel=>exact ⟨n+1,T.pivot r b,ir,Nat.le_refl _,a0W,KP,GI,⟨qV fG.out⟩,⟨sM fN.out (by omega)⟩,⟨pH fe.out (Nat.le_refl _)⟩⟩
def ind (e:List Int) (v:Int):Int:=if v∈e then 1 else 0
abbrev ki:Array Value:= #[.bool false,.int .i64 0,.int .i64 0,.slice none 0 0,.slice none 0 0]
structure Rows (au:List Int) (ag:List (List Int)) (i j:Nat) (rows:Nat->List Int):Prop where
 XS:∀k,k<au.length->rows k=if k<i then ag.map (fun e=> - ind e (au.getD k 0)) else if k=i then (ag.take j).map (fun e=> - ind e (au.getD k 0)) else []
 pack:∀k,k<ag.length->rows (au.length+k)=(au.take (if k<j then i+1 else i)).map (fun v=>ind (ag.getD k []) v)
theorem Rows.start (au:List Int) (ag:List (List Int)):Rows au ag 0 0 (fun _=>[]):=
 ⟨fun k _=>by
  rw [if_neg (by omega)]
  split<;>simp,fun k _=>by rw [if_neg (by omega)];simp⟩
theorem Rows.next {au:List Int} {ag:List (List Int)} {i:Nat} {rows:Nat->List Int} (h:Rows au ag i ag.length rows):Rows au ag (i+1) 0 rows:=by
 refine ⟨fun k hk=>?_,fun k hk=>?_⟩
 ·rw [h.XS k hk]
  by_cases e:k<i
  ·rw [if_pos e,if_pos (by omega)]
  ·rw [if_neg e]
   by_cases e2:k=i
   ·rw [if_pos e2,if_pos (by omega),List.take_length]
   ·rw [if_neg e2,if_neg (by omega)]
    split<;>simp
 ·rw [h.pack k hk,if_pos hk,if_neg (by omega)]
theorem Rows.step {au:List Int} {ag:List (List Int)} {i j:Nat} {rows:Nat->List Int} (h:Rows au ag i j rows) (hi:i<au.length) (hj:j<ag.length):
 Rows au ag i (j+1) (fun k=>if k=au.length+j then rows (au.length+j)++[ind (ag.getD j []) (au.getD i 0)] else if k=i then rows i++[- ind (ag.getD j []) (au.getD i 0)] else rows k):=by
 have hej:ag.getD j []=ag[j]:=by simp [List.getD_eq_getElem?_getD,hj]
 have hbi:au.getD i 0=au[i]:=by simp [List.getD_eq_getElem?_getD,hi]
 refine ⟨fun k hk=>?_,fun k hk=>?_⟩
 ·show (if k=au.length+j then _ else if k=i then _ else rows k)=_
  rw [if_neg (by omega)]
  by_cases e:k=i
  ·subst e
   rw [if_pos rfl,h.XS k hk,if_neg (by omega),if_pos rfl,if_neg (by omega),if_pos rfl,List.take_succ_eq_append_getElem hj,List.map_append,hej];rfl
  ·rw [if_neg e,h.XS k hk]
   by_cases e2:k<i
   ·rw [if_pos e2,if_pos e2]
   ·rw [if_neg e2,if_neg e2,if_neg e,if_neg e]
 ·show (if au.length+k=au.length+j then _ else if au.length+k=i then _ else rows (au.length+k))=_
  by_cases e:k=j
  ·subst e
   rw [if_pos rfl,h.pack k hk,if_neg (by omega),if_pos (by omega),List.take_succ_eq_append_getElem hi,List.map_append,hbi];rfl
  ·rw [if_neg (by omega),if_neg (by omega),h.pack k hk]
   by_cases e2:k<j
   ·rw [if_pos e2,if_pos (by omega)]
   ·rw [if_neg e2,if_neg (by omega)]
theorem Rows.len {au:List Int} {ag:List (List Int)} {i j:Nat} {rows:Nat->List Int} (h:Rows au ag i j rows) (hb:au.length<=6) (he:ag.length<=7):∀k,k<au.length+ag.length->(rows k).length<=7:=by
 intro k hk
 by_cases e:k<au.length
 ·rw [h.XS k e]
  split
  ·simpa using he
  ·split
   ·simp;omega
   ·simp
 ·have e2:k=au.length+(k - au.length):=by omega
  rw [e2,h.pack _ (by omega)]
  simp;omega
theorem TQ {W W1:World} {k:Nat} {cs:Array Value} {t:TypeId} {v:Value} {base:Nat} {xs:List Int} (h:W.heap[k]? =some (.cells cs t (0,0))) (ht:t≠3) (hR:Kd.R (Kd.int .i64) 3 W base (fun _=>True) v xs) (hg:W.grownBy W1 v.ownBlock):W1.heap[k]? =some (.cells cs t (0,0)):=
 (hg.block k (aZ h) (fun e=>by
   obtain ⟨_,_,cells,hk⟩:=yT hR e.symm
   rw [h] at hk;simp only [Option.some.injEq,Obj.cells.injEq] at hk
   exact absurd hk.2.1 ht)).trans h
theorem Pn {W W1:World} {k:Nat} {o:Obj} {v:Value} (h:W.heap[k]? =some o) (hne:v.ownBlock≠some k) (hg:W.grownBy W1 v.ownBlock):W1.heap[k]? =some o:=
 (hg.block k (aZ h) (fun e=>hne e.symm)).trans h
theorem a0Y {W:World} {base:Nat} {v:Value} {xs:List Int} (h:Kd.R (Kd.int .i64) 3 W base (fun _=>True) v xs):∃B n d,v= .slice B n d:=by
 obtain ⟨B,d,e⟩:=Kd.eJ h
 exact ⟨B,_,d,e⟩
theorem OO (W:World) (p:Addr) (v:Value):(W.setCell p v).heap.size=W.heap.size:=Array.size_modify
def Rp (N g:Nat) (vs:Nat->Value):Prop:=∀k,k<N->(vs k).ownBlock≠some g
theorem Rp.put {N g i:Nat} {vs:Nat->Value} {v1:Value} {W:World} (h:Rp N g vs) (hi:i<N) (hg:g<W.heap.size) (hat:v1.ownBlock=(vs i).ownBlock∨∃b,v1.ownBlock=some b/\W.heap.size<=b):Rp N g (fun k=>if k=i then v1 else vs k):=by
 intro k hk
 show (if k=i then v1 else vs k).ownBlock≠some g
 by_cases e:k=i
 ·rw [if_pos e]
  rcases hat with hat|⟨b,hb,hs⟩
  ·rw [hat];exact h i hi
  ·rw [hb];intro e2;have:=Option.some.inj e2;omega
 ·rw [if_neg e];exact h k hk
theorem rA.off {W:World} {base N:Nat} {vs:Nat->Value} {rows:Nat->List Int} (h:rA W base N vs rows) {g:Nat} (hg:W.heap.size<=g):Rp N g vs:=by
 intro k hk e
 have:=(yT (h.own k hk) e).2.1
 omega
def xH (au:List Int) (ag:List (List Int)):List (List Int):=au.map (fun v=>ag.map (fun e=> - ind e v))
def tB (au:List Int) (ag:List (List Int)):List (List Int):=ag.map (fun e=>au.map (fun v=>ind e v))
def a0Z (au:List Int) (ag:List (List Int)):bq:=init ag.length au.length (fun i j=>((((xH au ag).getD i []).getD j 0:Int):Rat)) (fun _=>((-1:Int):Rat)) ((1:Int):Rat)
def TR (au:List Int) (ag:List (List Int)):bq:=init au.length ag.length (fun i j=>((((tB au ag).getD i []).getD j 0:Int):Rat)) (fun _=>((1:Int):Rat)) ((-1:Int):Rat)
def nx (au:List Int) (ag:List (List Int)):Bool:=au.all (fun v=>ag.any (fun e=>decide (v∈e)))
theorem yU {W:World} {g g':Nat} {cs cs':Array Value} {t t':TypeId} (h:W.heap[g]? =some (.cells cs t (0,0))) (h':W.heap[g']? =some (.cells cs' t' (0,0))) (ht:t≠t'):g≠g':=by
 intro e;rw [e,h'] at h;simp only [Option.some.injEq,Obj.cells.injEq] at h;exact ht h.2.1.symm
def a5v (w:World) (au:List Int) (ag:List (List Int)) (QC QP:bq->Prop) (e:Ending) (w':World):Prop:=
 ∃g1 cs1 g2 ir T1 T2,e= .returned (.agg #[.bool true,.int .i64 (sm T1 (ag.length+au.length) ag.length au.length).num,.int .i64 ((sm T1 (ag.length+au.length) ag.length au.length).den:Int),.slice (some ⟨g1,0,none⟩) ag.length ag.length,.slice (some ⟨g2,0,none⟩) au.length au.length])/\QC T1/\QP T2/\
  w'.heap[g1]? =some (.cells cs1 26 (0,0))/\tU cs1 ag.length (fun j=>((xq T1 (ag.length+au.length) au.length j).num,((xq T1 (ag.length+au.length) au.length j).den:Int)))/\
  w'.heap[g2]? =some (.cells ir 26 (0,0))/\tU ir au.length (fun j=>((xq T2 (au.length+ag.length) ag.length j).num,((xq T2 (au.length+ag.length) ag.length j).den:Int)))/\
  g1≠g2/\w.heap.size<=g1/\w.heap.size<=g2/\Below w.heap.size w w'
def a5w (w:World) (au:List Int) (ag:List (List Int)) (QC QP:bq->Prop) (e:Ending) (w':World):Prop:=
 (nx au ag=true/\a5v w au ag QC QP e w')∨(nx au ag=false/\e= .returned (.agg ki)/\Below w.heap.size w w')
theorem a1a {au:List Int} {ag:List (List Int)} {rows:Nat->List Int} (h:Rows au ag au.length 0 rows):(List.range au.length).map (fun i=>rows (0+i))=xH au ag:=by
 unfold xH
 apply List.ext_getElem
 ·simp
 ·intro i h1 h2
  have hi:i<au.length:=by simpa using h1
  simp only [List.getElem_map,List.getElem_range,Nat.zero_add]
  rw [h.XS i hi,if_pos hi]
  have:au.getD i 0=au[i]:=by simp [List.getD_eq_getElem?_getD,hi]
  rw [this]
theorem XT {au:List Int} {ag:List (List Int)} {rows:Nat->List Int} (h:Rows au ag au.length 0 rows):(List.range ag.length).map (fun i=>rows (au.length+i))=tB au ag:=by
 unfold tB
 apply List.ext_getElem
 ·simp
 ·intro i h1 h2
  have hi:i<ag.length:=by simpa using h1
  simp only [List.getElem_map,List.getElem_range]
  rw [h.pack i hi,if_neg (by omega),List.take_length]
  have:ag.getD i []=ag[i]:=by simp [List.getD_eq_getElem?_getD,hi]
  rw [this]
structure St (w:World) (au:List Int) (ag:List (List Int)) (gC gP g8:Nat) (v:Int) (W:World) (vs vc:Nat->Value) (rows:Nat->List Int):Prop where
 Dh:rA W w.heap.size (au.length+ag.length) vs rows
 cc:kW W gC au.length 0 vc
 cp:kW W gP ag.length au.length vc
 az:W.heap[w.heap.size]? =some (.cells ki 29 (0,0))
 bx:W.heap[g8]? =some (.cells #[.int .i64 v] 3 (0,0))
 off:Rp (au.length+ag.length) g8 vs
 kE:Below w.heap.size w W
 ne:gP≠gC/\w.heap.size≠gC/\w.heap.size≠gP/\g8≠gC/\g8≠gP/\w.heap.size<=gC/\w.heap.size<=gP
section
variable {w W w1:World} {au:List Int} {ag:List (List Int)} {gC gP g8:Nat} {v:Int} {vs vc:Nat->Value} {rows:Nat->List Int}
theorem St.below (h:St w au ag gC gP g8 v W vs vc rows) (hb:Below W.heap.size W w1):St w au ag gC gP g8 v w1 vs vc rows:=
 ⟨h.Dh.below hb,h.cc.below hb,h.cp.below hb,ai h.az hb,ai h.bx hb,h.off,ah h.kE hb,h.ne⟩
theorem St.app (h:St w au ag gC gP g8 v W vs vc rows) {i:Nat} (hi:i<au.length+ag.length) {v1:Value} {xs:List Int} (ho:Kd.R (Kd.int .i64) 3 w1 w.heap.size (fun _=>True) v1 xs) (hb:Below w.heap.size w w1) (hg:W.grownBy w1 (vs i).ownBlock) (hat:v1.ownBlock=(vs i).ownBlock∨∃b,v1.ownBlock=some b/\W.heap.size<=b):
 ∃B n d,v1= .slice B n d/\St w au ag gC gP g8 v w1 (fun k=>if k=i then v1 else vs k) vc (fun k=>if k=i then xs else rows k):=by
 obtain ⟨B,n,d,e⟩:=a0Y ho
 have hR:=h.Dh.own i hi
 exact ⟨B,n,d,e,h.Dh.app hi ho hg hat,h.cc.grown hR hg,h.cp.grown hR hg,TQ h.az (by decide) hR hg,Pn h.bx (h.off i hi) hg,h.off.put hi (aZ h.bx) hat,hb,h.ne⟩
theorem St.a9G (h:St w au ag gC gP g8 v W vs vc rows) {i:Nat} (hi:i<au.length) (x:Value):St w au ag gC gP g8 v (W.setCell ⟨gC,i,none⟩ x) vs (fun k=>if k=i then x else vc k) rows:=by
 obtain ⟨n1,n2,n3,n4,n5,n6,n7⟩:=h.ne
 refine ⟨?_,?_,(h.cp.other n1).congr (fun k _=>if_neg (by omega)),bn h.az n2,bn h.bx n4,h.off,bC h.kE n6,h.ne⟩
 ·obtain ⟨cs,hc,_⟩:=h.cc;exact h.Dh.put hc (by decide) i x
 ·have:=h.cc.put hi x;rwa [Nat.zero_add] at this
theorem St.a9H (h:St w au ag gC gP g8 v W vs vc rows) {j:Nat} (hj:j<ag.length) (x:Value):St w au ag gC gP g8 v (W.setCell ⟨gP,j,none⟩ x) vs (fun k=>if k=au.length+j then x else vc k) rows:=by
 obtain ⟨n1,n2,n3,n4,n5,n6,n7⟩:=h.ne
 refine ⟨?_,(h.cc.other (fun e=>n1 e.symm)).congr (fun k hk=>if_neg (by omega)),h.cp.put hj x,bn h.az n3,bn h.bx n5,h.off,bC h.kE n7,h.ne⟩
 obtain ⟨cs,hc,_⟩:=h.cp;exact h.Dh.put hc (by decide) j x
theorem St.Rq (h:St w au ag gC gP g8 v W vs vc rows) {i:Nat} (hi:i<au.length):W.cell? ⟨gC,i,none⟩=some (vc i)/\W.frozen? ⟨gC,i,none⟩=false:=by
 have:=h.cc.at hi
 rw [Nat.zero_add] at this
 exact ⟨this,h.cc.frozen i⟩
theorem St.Rs (h:St w au ag gC gP g8 v W vs vc rows) {j:Nat} (hj:j<ag.length):W.cell? ⟨gP,j,none⟩=some (vc (au.length+j))/\W.frozen? ⟨gP,j,none⟩=false:=⟨h.cp.at hj,h.cp.frozen j⟩
theorem St.at8 (h:St w au ag gC gP g8 v W vs vc rows):W.cell? ⟨g8,0,none⟩=some (.int .i64 v):=(af h.bx 0).trans rfl
end
set_option maxHeartbeats 2000000 in
set_option maxRecDepth 100000 in
theorem BA (A0:Option Addr) (c0:Nat) (au:List Int) (A1:Option Addr) (c1:Nat) (ag:List (List Int)) (w:World) (h0:Kd.C (Kd.int .i64) w A0 au.length au) (l0:au.length<=c0) (h1:Kd.C Aa w A1 ag.length ag) (l1:ag.length<=c1)
 (hnb:au.length<=6) (hne:ag.length<=7) (hr:∀x,x∈ag->x.length<=1048576) (hok:kg (-1) au=true) (OP:ag.all (kg (-1))=true) (QC QP:bq->Prop)
 (hFe:nx au ag=true->∀cs W,gf cs au.length (ag.length+au.length) (ag.length+1) (a0Z au ag)->Calls Try.prog 34 #[.agg cs] W fun e w'=>∃cs' T,e= .returned (.agg cs')/\gf cs' au.length (ag.length+au.length) (ag.length+1) T/\QC T/\Below W.heap.size W w')
 (hLe:nx au ag=true->∀cs W,gf cs ag.length (au.length+ag.length) (au.length+1) (TR au ag)->Calls Try.prog 35 #[.agg cs] W fun e w'=>∃cs' T,e= .returned (.agg cs')/\gf cs' ag.length (au.length+ag.length) (au.length+1) T/\QP T/\Below W.heap.size W w')
 (hQC:∀T,QC T->(∀r,r<au.length->T.basis r<16)/\(∀r,r<au.length->Ok (T.cell r (ag.length+au.length)))/\∀r,r<=au.length->Ok (sm T (ag.length+au.length) ag.length r))
 (hQP:∀T,QP T->(∀r,r<ag.length->T.basis r<16)/\(∀r,r<ag.length->Ok (T.cell r (au.length+ag.length)))/\∀r,r<=ag.length->Ok (sm T (au.length+ag.length) au.length r)):
 Calls Try.prog 9 #[.slice A0 au.length c0,.slice A1 ag.length c1] w (a5w w au ag QC QP):=by
 obtain ⟨k1,vE⟩:=Ev.rounds (zl au (by omega))
 rw [hok] at vE
 have wT:=Aside0.mk (fun W (hb:Below w.heap.size w W)=>cS.calls k1 A0 c0 au _ W (Kd.bX h0 hb) l0 vE)
 have zY:=Aside0.mk (fun W (hb:Below w.heap.size w W)=>Df A1 c1 ag W (Kd.bX h1 hb) l1 hr)
 rw [OP,decide_eq_true hne] at zY
 have b6b:=XP au.length (by omega)
 have b6c:=XP ag.length (by omega)
 have eE:=Aside0.mk h0
 have iJ:=Aside0.mk h1
 have HB:=Aside0.mk (Below.refl w.heap.size w)
 have HFe:=Aside0.mk hFe
 have HLe:=Aside0.mk hLe
 have HQC:=Aside0.mk hQC
 have HQP:=Aside0.mk hQP
 clear h0 h1 vE hok OP hFe hLe hQC hQP
 go_enter Try.func9,Try.ntmps9
 go_wp2_with (first|(go_at_call 27;(with_reducible refine (wT.out _ (bA HB.out _)).mono ?_);rintro e w1 ⟨rfl,hb1⟩;have eL:=Aside0.mk (ah (bA HB.out (.cells ki 29)) (ju hb1));have dO:Aside0 (w1.heap[w.heap.size]? =some (.cells ki 29 (0,0))):=⟨ai (di w _) (ju hb1)⟩;clear hb1)|(go_at_call 28;(with_reducible refine (zY.out _ eL.out).mono ?_);rintro e w2 ⟨rfl,hb2⟩;have lT:=Aside0.mk (ah eL.out hb2);have iq:=Aside0.mk (ai dO.out hb2);clear hb2))
 have a1b:Aside0 (kW ((w2.alloc (.cells (lq au.length) 22)).alloc (.cells (lq ag.length) 22)) w2.heap.size au.length 0 (fun _=> .slice none 0 0)):=⟨OJ (ak (di w2 _) _)⟩
 have a1c:Aside0 (kW ((w2.alloc (.cells (lq au.length) 22)).alloc (.cells (lq ag.length) 22)) (w2.heap.size+1) ag.length au.length (fun _=> .slice none 0 0)):=⟨OJ (by have:=di (w2.alloc (.cells (lq au.length) 22)) (.cells (lq ag.length) 22);rw [oQ] at this;exact this)⟩
 have a9K:Aside0 (((w2.alloc (.cells (lq au.length) 22)).alloc (.cells (lq ag.length) 22)).heap[w.heap.size]? =some (.cells ki 29 (0,0))):=⟨ak (ak iq.out _) _⟩
 have kO:Aside0 (Below w.heap.size w ((w2.alloc (.cells (lq au.length) 22)).alloc (.cells (lq ag.length) 22))):=⟨bA (bA lT.out _) _⟩
 have Rt:Aside0 (w.heap.size<w2.heap.size):=⟨aZ iq.out⟩
 obtain ⟨gC,hgC⟩:∃gC,gC=w2.heap.size:=⟨_,rfl⟩
 obtain ⟨gP,hgP⟩:∃gP,gP=w2.heap.size+1:=⟨_,rfl⟩
 have HgP:Aside0 (gP≠gC):=⟨by omega⟩
 have HgA:Aside0 (w.heap.size≠gC):=⟨by have:=Rt.out;omega⟩
 have b6d:Aside0 (w.heap.size≠gP):=⟨by have:=Rt.out;omega⟩
 replace Rt:Aside0 (w.heap.size<=gC):=⟨by have:=Rt.out;omega⟩
 have b6e:Aside0 (w.heap.size<=gP):=⟨by have:=Rt.out;omega⟩
 rw [<-hgC] at a1b
 rw [<-hgP] at a1c
 rw [<-hgP,<-hgC]
 clear dO eL iq lT wT zY HB hgC hgP b6b b6c
 generalize ((w2.alloc (.cells (lq au.length) 22)).alloc (.cells (lq ag.length) 22))=w4 at*
 go_loopw [30] (fun iv wr=>∃(i:Nat) (vs:Nat->Value) (rows:Nat->List Int),iv= .int .i64 (i:Int)/\i<=au.length/\Aside0 (∀k,k<i->ag.any (fun e=>decide (au.getD k 0∈e))=true)/\Aside0 (Rows au ag i 0 rows)/\Aside0 (rA wr w.heap.size (au.length+ag.length) vs rows)/\Aside0 (kW wr gC au.length 0 vs)/\Aside0 (kW wr gP ag.length au.length vs)/\Aside0 (wr.heap[w.heap.size]? =some (.cells ki 29 (0,0)))/\Aside0 (Below w.heap.size w wr)) (fun iv _=>au.length -(intOf iv).toNat)
 case atStart=>exact ⟨0,_,_,rfl,by omega,⟨fun k hk=>by omega⟩,⟨Rows.start _ _⟩,⟨a0V _ _ _⟩,a1b,a1c,a9K,kO⟩
 case round=>
  clear a1b a1c a9K kO
  obtain ⟨i,vs,rows,rfl,hi,OQ,Ac,HF,XU,Ru,Rv,cr⟩:=hrel
  by_cases hib:i<au.length
  ·have vX:=Aside0.mk hib
   obtain ⟨ad,e,hx⟩:=Kd.gq eE.out (i:Int) (by omega) (by omega)
   cases e
   have hrd:rd au (i:Int)=au.getD i 0:=rfl
   rw [hrd,Int.toNat_natCast] at hx
   obtain ⟨v,hv⟩:∃v,v=au.getD i 0:=⟨_,rfl⟩
   rw [<-hv] at hx
   have HVi:Aside0 (au.getD i 0=v):=⟨hv.symm⟩
   have hx2:wr.cell? (ad.add i)=some (.int .i64 v):=(cr.out.cell (World.block_lt_of_cell? w _ hx)).trans hx
   have g0:(0:Int)<=(i:Int):=by omega
   have g1:(i:Int)<(au.length:Int):=by omega
   have Ge:decide ((i:Int)<(au.length:Int))=true:=decide_eq_true g1
   have yy:decide (i<au.length)=true:=decide_eq_true hib
   have ru:Aside0 (wrap64 ((i:Int)+1)=((i+1:Nat):Int)):=⟨eR (by omega)⟩
   have NF:Aside0 ((wr.alloc (.cells #[.int .i64 v] 3)).heap[wr.heap.size]? =some (.cells #[.int .i64 v] 3 (0,0))):=⟨di wr _⟩
   have TS:Aside0 (∀W,Below w.heap.size w W->W.heap[wr.heap.size]? =some (.cells #[.int .i64 v] 3 (0,0))->Calls Try.prog 29 #[.slice A1 ag.length c1,.func (.func 30) #[] #[.pointer (some ⟨wr.heap.size,0,none⟩)]] W fun e w'=>e= .returned (.bool (ag.any (fun e=>decide (v∈e))))/\Below W.heap.size W w'):=⟨fun W hb hg=>JH (fun e=>decide (v∈e)) A1 c1 ag wr.heap.size W (Kd.bX iJ.out hb) l1 (fun row hrow A2 c2 W2 hb2 hC hc=>XO A2 c2 row wr.heap.size v W2 hC hc (hr row hrow) ((af (ai hg hb2) 0).trans rfl))⟩
   have HGs:Aside0 (w.heap.size<=wr.heap.size):=⟨cr.out.size⟩
   have HgG:Aside0 (wr.heap.size≠gC):=⟨Nat.ne_of_gt XU.out.lt⟩
   have b6f:Aside0 (wr.heap.size≠gP):=⟨Nat.ne_of_gt Ru.out.lt⟩
   have a9O:Aside0 (Rp (au.length+ag.length) wr.heap.size vs):=⟨HF.out.off (Nat.le_refl _)⟩
   generalize TT:ag.any (fun e=>decide (v∈e))=y at TS
   clear hib hi hrd hx
   cases y with
   |false=>
    have b2g:=Aside0.mk TT
    clear hv TT
    go_wp2_with (first|(go_at_call 29;(with_reducible refine (TS.out _ (bA cr.out _) NF.out).mono ?_);rintro e w1 ⟨rfl,hb1⟩;have gB:=Aside0.mk (ai (ak Rv.out _) hb1);have eL:=Aside0.mk (ah (bA cr.out _) hb1);have hz0:=(af gB.out 0).trans rfl;have hz1:=(af gB.out 1).trans rfl;have hz2:=(af gB.out 2).trans rfl;have hz3:=(af gB.out 3).trans rfl;have hz4:=(af gB.out 4).trans rfl;have hy0:=aa gB.out 0;have hy1:=aa gB.out 1;have Qs:=aa gB.out 2;have hy3:=aa gB.out 3;have hy4:=aa gB.out 4;clear hb1))
    have XV:Aside0 ((((((w1.setCell ⟨w.heap.size,0,none⟩ (.bool false)).setCell ⟨w.heap.size,1,none⟩ (.int .i64 0)).setCell ⟨w.heap.size,2,none⟩ (.int .i64 0)).setCell ⟨w.heap.size,3,none⟩ (.slice none 0 0)).setCell ⟨w.heap.size,4,none⟩ (.slice none 0 0)).heap[w.heap.size]? =some (.cells ki 29 (0,0))):=⟨aK (aK (aK (aK (aK gB.out 0 _ (cs':=ki) rfl) 1 _ (cs':=ki) rfl) 2 _ (cs':=ki) rfl) 3 _ (cs':=ki) rfl) 4 _ (cs':=ki) rfl⟩
    refine bodyPost_ret (results_cell_row rfl _ _ w.heap.size 29 ki (0,0) _ rfl XV.out Try.underlying29 (by rfl) (by kernel_rfl)) rfl ?_
    refine .inr ⟨?_,rfl,bC (bC (bC (bC (bC eL.out (Nat.le_refl _)) (Nat.le_refl _)) (Nat.le_refl _)) (Nat.le_refl _)) (Nat.le_refl _)⟩
    unfold nx
    rw [List.all_eq_false]
    have hib:=vX.out
    have hbv:au.getD i 0=au[i]:=by simp [List.getD_eq_getElem?_getD,hib]
    refine ⟨v,?_,by rw [b2g.out];decide⟩
    rw [<-HVi.out,hbv];exact List.getElem_mem hib
   |true=>
    have b2h:Aside0 (∀k,k<i+1->ag.any (fun e=>decide (au.getD k 0∈e))=true):=⟨fun k hk=>by
     by_cases e:k=i
     ·rw [e,<-hv];exact TT
     ·exact OQ.out k (by omega)⟩
    clear hv TT OQ
    go_wp2_with (first|(go_at_call 29;(with_reducible refine (TS.out _ (bA cr.out _) NF.out).mono ?_);rintro e w1 ⟨rfl,hb1⟩;have hba:Below wr.heap.size wr w1:=ah (bA (Below.refl _ _) _) hb1;have gB:=Aside0.mk (ai Rv.out hba);have NJ:=Aside0.mk (ai NF.out hb1);have zV:=Aside0.mk (HF.out.below hba);have a9R:=Aside0.mk (XU.out.below hba);have a9S:=Aside0.mk (Ru.out.below hba);have eL:=Aside0.mk (ah cr.out hba);clear hb1 hba))
    clear Rv NF HF XU Ru cr TS hx2
    generalize wr.heap.size=g8 at*
    go_loopw [42] (fun jv wr=>∃(j:Nat) (vs:Nat->Value) (rows:Nat->List Int),jv= .int .i64 (j:Int)/\j<=ag.length/\Aside0 (Rows au ag i j rows)/\Aside0 (St w au ag gC gP g8 v wr vs vs rows)) (fun jv _=>ag.length -(intOf jv).toNat)
    case atStart=>exact ⟨0,vs,rows,rfl,by omega,Ac,⟨zV.out,a9R.out,a9S.out,gB.out,NJ.out,a9O.out,eL.out,HgP.out,HgA.out,b6d.out,HgG.out,b6f.out,Rt.out,b6e.out⟩⟩
    case round=>
     clear Ac zV a9R a9S gB NJ a9O eL
     obtain ⟨j,vs,rows,rfl,hj,Ac,HS⟩:=hrel
     by_cases KU:j<ag.length
     ·have xe:=Aside0.mk KU
      obtain ⟨WX,A2,c2,e,hy,hly,hCy⟩:=GF iJ.out j KU
      cases e
      have HEj:Aside0 (ag.getD j []=ag[j]):=⟨by simp [List.getD_eq_getElem?_getD,KU]⟩
      have hle:=hr _ (List.getElem_mem KU)
      obtain ⟨kh,hkh⟩:=Ev.rounds (yS ag[j] v hle)
      have TU:Aside0 (∀W,Below w.heap.size w W->Calls Try.prog 31 #[.slice A2 (ag[j]).length c2,.int .i64 v] W fun e w'=>e= .returned (.bool (decide (v∈ag[j])))/\bg W w'):=⟨fun W hb=>dM.calls kh A2 c2 ag[j] v _ W (Kd.bX hCy hb) hly hkh⟩
      have Qs:wr.cell? (WX.add j)=some (.slice A2 (ag[j]).length c2):=(HS.out.kE.cell (World.block_lt_of_cell? w _ hy)).trans hy
      clear hy hly hCy hle hkh
      generalize ag[j]=e at*
      have hbx0:=HS.out.at8
      have g2:(0:Int)<=(j:Int):=by omega
      have g3:(j:Int)<(ag.length:Int):=by omega
      have g3d:decide ((j:Int)<(ag.length:Int))=true:=decide_eq_true g3
      have Kq:decide (j<ag.length)=true:=decide_eq_true KU
      have rR:Aside0 (wrap64 ((j:Int)+1)=((j+1:Nat):Int)):=⟨eR (by omega)⟩
      have AU:Aside0 (i<au.length+ag.length):=⟨by have:=vX.out;omega⟩
      have Rw:Aside0 (au.length+j<au.length+ag.length):=⟨by omega⟩
      have CW:Aside0 (¬au.length+j=i):=⟨by have:=vX.out;omega⟩
      have Rn:Aside0 (∀k,k<au.length+ag.length->(rows k).length<=7):=⟨Ac.out.len hnb hne⟩
      clear KU hj
      by_cases hmem:decide (v∈e)=true
      ·have GJ:ind e v=1:=by unfold ind;rw [if_pos (of_decide_eq_true hmem)]
       have OS:Aside0 (Rows au ag i (j+1) (fun k=>if k=au.length+j then rows (au.length+j)++[1] else if k=i then rows i++[-1] else rows k)):=⟨by
        have:=Ac.out.step vX.out xe.out
        rw [HEj.out,HVi.out,GJ] at this
        exact this⟩
       rw [hmem] at TU
       clear GJ hmem
       go_wp2_with (first|(go_at_call 31;(with_reducible refine (TU.out _ (by first|exact HS.out.kE|exact bB HS.out.kE)).mono ?_);rintro e w1 ⟨rfl,hb1⟩;have js:=Aside0.mk (HS.out.below (ju hb1));have hp0:=(js.out.Rq vX.out).1;clear hb1)|((with_reducible refine gu (b:= .append) (xs:= #[.tmp 55,.tmp 58]) rfl ?_);at_builtin;refine Kd.nE (Kd.int .i64) (w0:=w) w.heap.size rfl _ _ 22 3 (.int .i64 0) 8 rfl Try.underlying22 info3 rfl (by decide) (by omega) (vs i) (rows i) (-1) [.int .i64 (-1)] (fun _=>True) (fun _=>False) rfl (by first|rfl|(go_simp;done)|(go_simp;rfl)) rfl (fun _ hk=>hk.elim) (fun _ _=>trivial) (js.out.Dh.own i AU.out) js.out.kE js.out.kE.size (by have:=Rn.out i AU.out;omega) ?_;intro v1 w3 vR hb3 hg3 zA;obtain ⟨B1,n1,d1,rfl,hs3⟩:=js.out.app AU.out vR hb3 hg3 zA;have OT:=Aside0.mk hs3;have WW:=(OT.out.Rq vX.out).1;have hq1:=(OT.out.Rq vX.out).2;have wC:=Aside0.mk (OT.out.a9G vX.out (Value.slice B1 n1 d1));have hq2:=(wC.out.Rs xe.out).1;simp only [if_neg CW.out] at hq2;have ND:=Aside0.mk (wC.out.Dh.own _ Rw.out);simp only [if_neg CW.out] at ND;clear hs3 vR hb3 hg3 zA)|((with_reducible refine gu (b:= .append) (xs:= #[.tmp 66,.tmp 68]) rfl ?_);at_builtin;refine Kd.nE (Kd.int .i64) (w0:=w) w.heap.size rfl _ _ 22 3 (.int .i64 0) 8 rfl Try.underlying22 info3 rfl (by decide) (by omega) (vs (au.length+j)) (rows (au.length+j)) (1) [.int .i64 (1)] (fun _=>True) (fun _=>False) rfl (by first|rfl|exact congrArg (fun n=>Value.slice (some ⟨n,0,none⟩) 1 1) (OO _ _ _).symm|(go_simp;done)|(go_simp;rfl)) rfl (fun _ hk=>hk.elim) (fun _ _=>trivial) ND.out wC.out.kE wC.out.kE.size (by have:=Rn.out (au.length+j) Rw.out;omega) ?_;intro v2 w5 tG jg XW OU;obtain ⟨B2,n2,d2,rfl,hs5⟩:=wC.out.app Rw.out tG jg (by simp only [if_neg CW.out];exact XW) (by simp only [if_neg CW.out];exact OU);have CJ:=Aside0.mk hs5;have hq3:=(CJ.out.Rs xe.out).1;have hq4:=(CJ.out.Rs xe.out).2;clear hs5 tG jg XW OU))
       have Kf:=Aside0.mk (CJ.out.a9H xe.out (Value.slice B2 n2 d2))
       go_roundw
       case rel=>exact ⟨j+1,_,_,by first|(rw [rR.out];done)|rfl|(simp;done),xe.out,OS,Kf⟩
       case measure=>(try rw [rR.out]);have:=xe.out;simp [intOf];omega
      ·replace hmem:decide (v∈e)=false:=Bool.eq_false_iff.mpr hmem
       have GJ:ind e v=0:=by unfold ind;rw [if_neg (of_decide_eq_false hmem)]
       have OS:Aside0 (Rows au ag i (j+1) (fun k=>if k=au.length+j then rows (au.length+j)++[0] else if k=i then rows i++[0] else rows k)):=⟨by
        have:=Ac.out.step vX.out xe.out
        rw [HEj.out,HVi.out,GJ] at this
        exact this⟩
       rw [hmem] at TU
       clear GJ hmem
       go_wp2_with (first|(go_at_call 31;(with_reducible refine (TU.out _ (by first|exact HS.out.kE|exact bB HS.out.kE)).mono ?_);rintro e w1 ⟨rfl,hb1⟩;have js:=Aside0.mk (HS.out.below (ju hb1));have hp0:=(js.out.Rq vX.out).1;clear hb1)|((with_reducible refine gu (b:= .append) (xs:= #[.tmp 55,.tmp 58]) rfl ?_);at_builtin;refine Kd.nE (Kd.int .i64) (w0:=w) w.heap.size rfl _ _ 22 3 (.int .i64 0) 8 rfl Try.underlying22 info3 rfl (by decide) (by omega) (vs i) (rows i) (0) [.int .i64 (0)] (fun _=>True) (fun _=>False) rfl (by first|rfl|(go_simp;done)|(go_simp;rfl)) rfl (fun _ hk=>hk.elim) (fun _ _=>trivial) (js.out.Dh.own i AU.out) js.out.kE js.out.kE.size (by have:=Rn.out i AU.out;omega) ?_;intro v1 w3 vR hb3 hg3 zA;obtain ⟨B1,n1,d1,rfl,hs3⟩:=js.out.app AU.out vR hb3 hg3 zA;have OT:=Aside0.mk hs3;have WW:=(OT.out.Rq vX.out).1;have hq1:=(OT.out.Rq vX.out).2;have wC:=Aside0.mk (OT.out.a9G vX.out (Value.slice B1 n1 d1));have hq2:=(wC.out.Rs xe.out).1;simp only [if_neg CW.out] at hq2;have ND:=Aside0.mk (wC.out.Dh.own _ Rw.out);simp only [if_neg CW.out] at ND;clear hs3 vR hb3 hg3 zA)|((with_reducible refine gu (b:= .append) (xs:= #[.tmp 66,.tmp 68]) rfl ?_);at_builtin;refine Kd.nE (Kd.int .i64) (w0:=w) w.heap.size rfl _ _ 22 3 (.int .i64 0) 8 rfl Try.underlying22 info3 rfl (by decide) (by omega) (vs (au.length+j)) (rows (au.length+j)) (0) [.int .i64 (0)] (fun _=>True) (fun _=>False) rfl (by first|rfl|exact congrArg (fun n=>Value.slice (some ⟨n,0,none⟩) 1 1) (OO _ _ _).symm|(go_simp;done)|(go_simp;rfl)) rfl (fun _ hk=>hk.elim) (fun _ _=>trivial) ND.out wC.out.kE wC.out.kE.size (by have:=Rn.out (au.length+j) Rw.out;omega) ?_;intro v2 w5 tG jg XW OU;obtain ⟨B2,n2,d2,rfl,hs5⟩:=wC.out.app Rw.out tG jg (by simp only [if_neg CW.out];exact XW) (by simp only [if_neg CW.out];exact OU);have CJ:=Aside0.mk hs5;have hq3:=(CJ.out.Rs xe.out).1;have hq4:=(CJ.out.Rs xe.out).2;clear hs5 tG jg XW OU))
       have Kf:=Aside0.mk (CJ.out.a9H xe.out (Value.slice B2 n2 d2))
       go_roundw
       case rel=>exact ⟨j+1,_,_,by first|(rw [rR.out];done)|rfl|(simp;done),xe.out,OS,Kf⟩
       case measure=>(try rw [rR.out]);have:=xe.out;simp [intOf];omega
     ·have g3d:decide ((j:Int)<(ag.length:Int))=false:=decide_eq_false (by omega)
      have Kq:decide (j<ag.length)=false:=decide_eq_false KU
      have hj':j=ag.length:=by omega
      rw [hj'] at Ac
      have OS:=Aside0.mk Ac.out.next
      clear hj' KU hj Ac
      go_wp2
      go_roundw
      case rel=>exact ⟨i+1,vs,rows,by first|(rw [ru.out];done)|rfl|(simp;done),vX.out,b2h,OS,⟨HS.out.Dh⟩,⟨HS.out.cc⟩,⟨HS.out.cp⟩,⟨HS.out.az⟩,⟨HS.out.kE⟩⟩
      case measure=>(try rw [ru.out]);have:=vX.out;simp [intOf];omega
  ·have hi':i=au.length:=by omega
   have Ge:decide ((i:Int)<(au.length:Int))=false:=decide_eq_false (by omega)
   have yy:decide (i<au.length)=false:=decide_eq_false hib
   rw [hi'] at Ac OQ
   clear hi' hib hi
   have HCB:Aside0 (nx au ag=true):=⟨by
    unfold nx
    rw [List.all_eq_true]
    intro x hx
    obtain ⟨k,hk,rfl⟩:=List.getElem_of_mem hx
    have:=OQ.out k hk
    rwa [show au.getD k 0=au[k] by simp [List.getD_eq_getElem?_getD,hk]] at this⟩
   have Rx:Below wr.heap.size wr (wr.alloc (.cells #[.bool true,.int .i64 0,.int .i64 0,.slice none 0 0,.slice none 0 0] 29)):=bA (Below.refl _ _) _
   have HF6:=Aside0.mk (HF.out.below Rx)
   have b6g:=Aside0.mk (XU.out.below Rx)
   have b6h:=Aside0.mk (Ru.out.below Rx)
   have b6i:=Aside0.mk (ai Rv.out Rx)
   have a9U:=Aside0.mk (ah cr.out Rx)
   have HX6:=Aside0.mk (di wr (.cells #[.bool true,.int .i64 0,.int .i64 0,.slice none 0 0,.slice none 0 0] 29))
   have BB:Aside0 (w.heap.size<=wr.heap.size/\w.heap.size≠wr.heap.size):=⟨⟨cr.out.size,Nat.ne_of_lt (aZ Rv.out)⟩⟩
   have b6j:Aside0 (∀W,Below (wr.alloc (.cells #[.bool true,.int .i64 0,.int .i64 0,.slice none 0 0,.slice none 0 0] 29)).heap.size (wr.alloc (.cells #[.bool true,.int .i64 0,.int .i64 0,.slice none 0 0,.slice none 0 0] 29)) W->Calls Try.prog 33 #[.slice (some ⟨gC,0,none⟩) au.length au.length,.int .i64 (ag.length:Int),.int .i64 1,.int .i64 (-1)] W fun e w'=>∃cs',e= .returned (.agg cs')/\gf cs' au.length (ag.length+au.length) (ag.length+1) (a0Z au ag)/\Below W.heap.size W w'):=⟨fun W hb=>by
    have hlen:(xH au ag).length=au.length:=by unfold xH;rw [List.length_map]
    have hC:=KS (HF6.out.below hb) (b6g.out.below hb) (show 0+au.length<=_ by omega) (by omega)
    rw [a1a Ac.out] at hC
    have:=Dd ag.length au.length (xH au ag) (some ⟨gC,0,none⟩) au.length 1 (-1) W (by rw [hlen];exact hC) (by omega) hlen (fun x hx=>by
     unfold xH at hx
     obtain ⟨v,_,rfl⟩:=List.mem_map.1 hx
     rw [List.length_map]) (by omega) (by omega)
    rw [hlen] at this
    exact this⟩
   have b6k:Aside0 (∀W,rA W w.heap.size (au.length+ag.length) vs rows->kW W gP ag.length au.length vs->Calls Try.prog 33 #[.slice (some ⟨gP,0,none⟩) ag.length ag.length,.int .i64 (au.length:Int),.int .i64 (-1),.int .i64 1] W fun e w'=>∃cs',e= .returned (.agg cs')/\gf cs' ag.length (au.length+ag.length) (au.length+1) (TR au ag)/\Below W.heap.size W w'):=⟨fun W hF hP=>by
    have hlen:(tB au ag).length=ag.length:=by unfold tB;rw [List.length_map]
    have hC:=KS hF hP (Nat.le_refl _) (by omega)
    rw [XT Ac.out] at hC
    have:=Dd au.length ag.length (tB au ag) (some ⟨gP,0,none⟩) ag.length (-1) 1 W (by rw [hlen];exact hC) (by omega) hlen (fun x hx=>by
     unfold tB at hx
     obtain ⟨v,_,rfl⟩:=List.mem_map.1 hx
     rw [List.length_map]) (by omega) (by omega)
    rw [hlen] at this
    exact this⟩
   have HgX:Aside0 (gP≠wr.heap.size):=⟨Nat.ne_of_lt Ru.out.lt⟩
   have Ob:(1:Nat)<2:=by decide
   have a9W:(1:Nat)<3:=by decide
   clear HF XU Ru Rv cr Rx OQ
   go_wp2_with (first
    |(go_at_call 33;(with_reducible refine (b6j.out _ (Below.refl _ _)).mono ?_);rintro e w6 ⟨AR,rfl,XX,XY⟩;have HR6:=Aside0.mk XX;have b6l:=Aside0.mk XY;clear XX XY)
    |(go_at_call 34;(with_reducible refine (HFe.out HCB.out _ _ HR6.out).mono ?_);rintro e w7 ⟨cs7,T1,rfl,Gk,XZ,vN⟩;have HR7:=Aside0.mk Gk;have HQ7:=Aside0.mk XZ;have a9X:=Aside0.mk (ah b6l.out vN);clear Gk XZ vN)
    |(go_at_call 32;have tk:=Ob;(with_reducible refine (CT _ _ _ _ T1 _ _ HR7.out (by omega) (HQC.out _ HQ7.out).1 (HQC.out _ HQ7.out).2.1 (HQC.out _ HQ7.out).2.2).mono ?_);clear tk Ob;rintro e w8 ⟨g1,cs8,rfl,FW,Ya,Yb,lU⟩;have OV:=Aside0.mk (ah a9X.out lU);have UL:=Aside0.mk Ya;have Kv:=Aside0.mk FW;have HS8:=Aside0.mk Yb;have pn:=Aside0.mk (ai HX6.out OV.out);have hx1:=(af pn.out 1).trans rfl;have hx2:=(af pn.out 2).trans rfl;have hx3:=(af pn.out 3).trans rfl;have hy1:=aa pn.out 1;have Qs:=aa pn.out 2;have hy3:=aa pn.out 3;have Qn:Aside0 (rA (((w8.setCell ⟨wr.heap.size,3,none⟩ (.slice (some ⟨g1,0,none⟩) ag.length ag.length)).setCell ⟨wr.heap.size,1,none⟩ (.int .i64 (sm T1 (ag.length+au.length) ag.length au.length).num)).setCell ⟨wr.heap.size,2,none⟩ (.int .i64 ((sm T1 (ag.length+au.length) ag.length au.length).den:Int))) w.heap.size (au.length+ag.length) vs rows):=⟨((HF6.out.below OV.out).put pn.out (by decide) 3 _).put (heap_set pn.out) (by decide) 1 _|>.put (heap_set (heap_set pn.out)) (by decide) 2 _⟩;have b6m:Aside0 (kW (((w8.setCell ⟨wr.heap.size,3,none⟩ (.slice (some ⟨g1,0,none⟩) ag.length ag.length)).setCell ⟨wr.heap.size,1,none⟩ (.int .i64 (sm T1 (ag.length+au.length) ag.length au.length).num)).setCell ⟨wr.heap.size,2,none⟩ (.int .i64 ((sm T1 (ag.length+au.length) ag.length au.length).den:Int))) gP ag.length au.length vs):=⟨(((b6h.out.below OV.out).other HgX.out).other HgX.out).other HgX.out⟩;have Kw:Aside0 ((((w8.setCell ⟨wr.heap.size,3,none⟩ (.slice (some ⟨g1,0,none⟩) ag.length ag.length)).setCell ⟨wr.heap.size,1,none⟩ (.int .i64 (sm T1 (ag.length+au.length) ag.length au.length).num)).setCell ⟨wr.heap.size,2,none⟩ (.int .i64 ((sm T1 (ag.length+au.length) ag.length au.length).den:Int))).heap[wr.heap.size]? =some (.cells #[.bool true,.int .i64 (sm T1 (ag.length+au.length) ag.length au.length).num,.int .i64 ((sm T1 (ag.length+au.length) ag.length au.length).den:Int),.slice (some ⟨g1,0,none⟩) ag.length ag.length,.slice none 0 0] 29 (0,0))):=⟨aK (aK (aK pn.out 3 (.slice (some ⟨g1,0,none⟩) ag.length ag.length) (cs':= #[.bool true,.int .i64 0,.int .i64 0,.slice (some ⟨g1,0,none⟩) ag.length ag.length,.slice none 0 0]) rfl) 1 (.int .i64 (sm T1 (ag.length+au.length) ag.length au.length).num) (cs':= #[.bool true,.int .i64 (sm T1 (ag.length+au.length) ag.length au.length).num,.int .i64 0,.slice (some ⟨g1,0,none⟩) ag.length ag.length,.slice none 0 0]) rfl) 2 (.int .i64 ((sm T1 (ag.length+au.length) ag.length au.length).den:Int)) (cs':= #[.bool true,.int .i64 (sm T1 (ag.length+au.length) ag.length au.length).num,.int .i64 ((sm T1 (ag.length+au.length) ag.length au.length).den:Int),.slice (some ⟨g1,0,none⟩) ag.length ag.length,.slice none 0 0]) rfl⟩;have b6n:Aside0 ((((w8.setCell ⟨wr.heap.size,3,none⟩ (.slice (some ⟨g1,0,none⟩) ag.length ag.length)).setCell ⟨wr.heap.size,1,none⟩ (.int .i64 (sm T1 (ag.length+au.length) ag.length au.length).num)).setCell ⟨wr.heap.size,2,none⟩ (.int .i64 ((sm T1 (ag.length+au.length) ag.length au.length).den:Int))).heap[w.heap.size]? =some (.cells ki 29 (0,0))):=⟨bn (bn (bn (ai b6i.out OV.out) BB.out.2) BB.out.2) BB.out.2⟩;have zN:Aside0 ((((w8.setCell ⟨wr.heap.size,3,none⟩ (.slice (some ⟨g1,0,none⟩) ag.length ag.length)).setCell ⟨wr.heap.size,1,none⟩ (.int .i64 (sm T1 (ag.length+au.length) ag.length au.length).num)).setCell ⟨wr.heap.size,2,none⟩ (.int .i64 ((sm T1 (ag.length+au.length) ag.length au.length).den:Int))).heap[g1]? =some (.cells cs8 26 (0,0))):=⟨bn (bn (bn Kv.out (yU Kv.out pn.out (by decide))) (yU Kv.out pn.out (by decide))) (yU Kv.out pn.out (by decide))⟩;have a9Y:Aside0 (Below w.heap.size w (((w8.setCell ⟨wr.heap.size,3,none⟩ (.slice (some ⟨g1,0,none⟩) ag.length ag.length)).setCell ⟨wr.heap.size,1,none⟩ (.int .i64 (sm T1 (ag.length+au.length) ag.length au.length).num)).setCell ⟨wr.heap.size,2,none⟩ (.int .i64 ((sm T1 (ag.length+au.length) ag.length au.length).den:Int)))):=⟨bC (bC (bC (ah a9U.out OV.out) BB.out.1) BB.out.1) BB.out.1⟩;clear FW Ya Yb lU)
    |(go_at_call 33;have tk:=a9W;(with_reducible refine (b6k.out _ Qn.out b6m.out).mono ?_);clear tk a9W;rintro e jb ⟨cs16,rfl,XX,XY⟩;have b6o:=Aside0.mk XX;have b2j:=Aside0.mk XY;clear XX XY)
    |(go_at_call 35;(with_reducible refine (HLe.out HCB.out _ _ b6o.out).mono ?_);rintro e uq ⟨cs17,T2,rfl,Gk,XZ,vN⟩;have b6p:=Aside0.mk Gk;have TV:=Aside0.mk XZ;have TW:=Aside0.mk (ah b2j.out vN);clear Gk XZ vN)
    |(go_at_call 32;(with_reducible refine (CT _ _ _ _ T2 _ _ b6p.out (by omega) (HQP.out _ TV.out).1 (HQP.out _ TV.out).2.1 (HQP.out _ TV.out).2.2).mono ?_);rintro e qf ⟨g2,b6q,rfl,FW,Ya,Yb,lU⟩;have LS:=Aside0.mk (ah TW.out lU);have b6r:=Aside0.mk Ya;have b6s:=Aside0.mk FW;have MU:=Aside0.mk Yb;have TX:=Aside0.mk (ai Kw.out LS.out);have a3l:=Aside0.mk (ai b6n.out LS.out);have b6t:=Aside0.mk (ai zN.out LS.out);have HGd:Aside0 (g1≠g2):=⟨by have h1:=aZ zN.out;have h2:=TW.out.size;have h3:=MU.out;omega⟩;have b2k:=Aside0.mk (ah a9Y.out LS.out);have FR:=(af TX.out 4).trans rfl;have hy4:=aa TX.out 4;have OW:Aside0 ((qf.setCell ⟨wr.heap.size,4,none⟩ (.slice (some ⟨g2,0,none⟩) au.length au.length)).heap[wr.heap.size]? =some (.cells #[.bool true,.int .i64 (sm T1 (ag.length+au.length) ag.length au.length).num,.int .i64 ((sm T1 (ag.length+au.length) ag.length au.length).den:Int),.slice (some ⟨g1,0,none⟩) ag.length ag.length,.slice (some ⟨g2,0,none⟩) au.length au.length] 29 (0,0))):=⟨aK TX.out 4 (.slice (some ⟨g2,0,none⟩) au.length au.length) (cs':= #[.bool true,.int .i64 (sm T1 (ag.length+au.length) ag.length au.length).num,.int .i64 ((sm T1 (ag.length+au.length) ag.length au.length).den:Int),.slice (some ⟨g1,0,none⟩) ag.length ag.length,.slice (some ⟨g2,0,none⟩) au.length au.length]) rfl⟩;have rY:Aside0 ((qf.setCell ⟨wr.heap.size,4,none⟩ (.slice (some ⟨g2,0,none⟩) au.length au.length)).heap[w.heap.size]? =some (.cells ki 29 (0,0))):=⟨bn a3l.out BB.out.2⟩;have hxx0:=(af OW.out 0).trans rfl;have hzz0:=(af rY.out 0).trans rfl;have hyy0:=aa rY.out 0;have hxx1:=(af OW.out 1).trans rfl;have hzz1:=(af rY.out 1).trans rfl;have hyy1:=aa rY.out 1;have hxx2:=(af OW.out 2).trans rfl;have hzz2:=(af rY.out 2).trans rfl;have hyy2:=aa rY.out 2;have hxx3:=(af OW.out 3).trans rfl;have hzz3:=(af rY.out 3).trans rfl;have hyy3:=aa rY.out 3;have hxx4:=(af OW.out 4).trans rfl;have hzz4:=(af rY.out 4).trans rfl;have hyy4:=aa rY.out 4;clear FW Ya Yb lU))
   have b6u:Aside0 (((((((qf.setCell ⟨wr.heap.size,4,none⟩ (.slice (some ⟨g2,0,none⟩) au.length au.length)).setCell ⟨w.heap.size,0,none⟩ (.bool true)).setCell ⟨w.heap.size,1,none⟩ (.int .i64 (sm T1 (ag.length+au.length) ag.length au.length).num)).setCell ⟨w.heap.size,2,none⟩ (.int .i64 ((sm T1 (ag.length+au.length) ag.length au.length).den:Int))).setCell ⟨w.heap.size,3,none⟩ (.slice (some ⟨g1,0,none⟩) ag.length ag.length)).setCell ⟨w.heap.size,4,none⟩ (.slice (some ⟨g2,0,none⟩) au.length au.length)).heap[w.heap.size]? =some (.cells #[.bool true,.int .i64 (sm T1 (ag.length+au.length) ag.length au.length).num,.int .i64 ((sm T1 (ag.length+au.length) ag.length au.length).den:Int),.slice (some ⟨g1,0,none⟩) ag.length ag.length,.slice (some ⟨g2,0,none⟩) au.length au.length] 29 (0,0))):=⟨aK (aK (aK (aK (aK rY.out 0 (.bool true) (cs':= #[.bool true,.int .i64 0,.int .i64 0,.slice none 0 0,.slice none 0 0]) rfl) 1 (.int .i64 (sm T1 (ag.length+au.length) ag.length au.length).num) (cs':= #[.bool true,.int .i64 (sm T1 (ag.length+au.length) ag.length au.length).num,.int .i64 0,.slice none 0 0,.slice none 0 0]) rfl) 2 (.int .i64 ((sm T1 (ag.length+au.length) ag.length au.length).den:Int)) (cs':= #[.bool true,.int .i64 (sm T1 (ag.length+au.length) ag.length au.length).num,.int .i64 ((sm T1 (ag.length+au.length) ag.length au.length).den:Int),.slice none 0 0,.slice none 0 0]) rfl) 3 (.slice (some ⟨g1,0,none⟩) ag.length ag.length) (cs':= #[.bool true,.int .i64 (sm T1 (ag.length+au.length) ag.length au.length).num,.int .i64 ((sm T1 (ag.length+au.length) ag.length au.length).den:Int),.slice (some ⟨g1,0,none⟩) ag.length ag.length,.slice none 0 0]) rfl) 4 (.slice (some ⟨g2,0,none⟩) au.length au.length) (cs':= #[.bool true,.int .i64 (sm T1 (ag.length+au.length) ag.length au.length).num,.int .i64 ((sm T1 (ag.length+au.length) ag.length au.length).den:Int),.slice (some ⟨g1,0,none⟩) ag.length ag.length,.slice (some ⟨g2,0,none⟩) au.length au.length]) rfl⟩
   have hk:∀(g:Nat) (cs:Array Value),qf.heap[g]? =some (.cells cs 26 (0,0))->((((((qf.setCell ⟨wr.heap.size,4,none⟩ (.slice (some ⟨g2,0,none⟩) au.length au.length)).setCell ⟨w.heap.size,0,none⟩ (.bool true)).setCell ⟨w.heap.size,1,none⟩ (.int .i64 (sm T1 (ag.length+au.length) ag.length au.length).num)).setCell ⟨w.heap.size,2,none⟩ (.int .i64 ((sm T1 (ag.length+au.length) ag.length au.length).den:Int))).setCell ⟨w.heap.size,3,none⟩ (.slice (some ⟨g1,0,none⟩) ag.length ag.length)).setCell ⟨w.heap.size,4,none⟩ (.slice (some ⟨g2,0,none⟩) au.length au.length)).heap[g]? =some (.cells cs 26 (0,0)):=fun g cs h=>by
    have h1:=yU h TX.out (by decide)
    have h2:=yU h a3l.out (by decide)
    exact bn (bn (bn (bn (bn (bn h h1) h2) h2) h2) h2) h2
   have hbel:Below w.heap.size w ((((((qf.setCell ⟨wr.heap.size,4,none⟩ (.slice (some ⟨g2,0,none⟩) au.length au.length)).setCell ⟨w.heap.size,0,none⟩ (.bool true)).setCell ⟨w.heap.size,1,none⟩ (.int .i64 (sm T1 (ag.length+au.length) ag.length au.length).num)).setCell ⟨w.heap.size,2,none⟩ (.int .i64 ((sm T1 (ag.length+au.length) ag.length au.length).den:Int))).setCell ⟨w.heap.size,3,none⟩ (.slice (some ⟨g1,0,none⟩) ag.length ag.length)).setCell ⟨w.heap.size,4,none⟩ (.slice (some ⟨g2,0,none⟩) au.length au.length)):=bC (bC (bC (bC (bC (bC b2k.out BB.out.1) (Nat.le_refl _)) (Nat.le_refl _)) (Nat.le_refl _)) (Nat.le_refl _)) (Nat.le_refl _)
   refine bodyPost_ret (results_cell_row rfl _ _ w.heap.size 29 (#[.bool true,.int .i64 (sm T1 (ag.length+au.length) ag.length au.length).num,.int .i64 ((sm T1 (ag.length+au.length) ag.length au.length).den:Int),.slice (some ⟨g1,0,none⟩) ag.length ag.length,.slice (some ⟨g2,0,none⟩) au.length au.length]) (0,0) _ rfl b6u.out Try.underlying29 (by rfl) (by kernel_rfl)) rfl ?_
   refine .inl ⟨HCB.out,g1,cs8,g2,b6q,T1,T2,rfl,HQ7.out,TV.out,hk _ _ b6t.out,UL.out,hk _ _ b6s.out,b6r.out,HGd.out,?_,?_,hbel⟩
   ·have h1:=HS8.out;have h2:=a9X.out.size;have h3:=a9U.out.size;omega
   ·have h1:=MU.out;have h2:=TW.out.size;have h3:=a9Y.out.size;omega
theorem Yc {n:Nat} {x y:Nat->Rat} (h:LQ n x=LQ n y):∀j,j<n->x j=y j:=fun j hj=>by
 have h1:=Cs x hj
 rw [h,Cs y hj] at h1
 have e1:(y j).num=(x j).num:=congrArg bM.f0 h1
 have e2:((y j).den:Int)=((x j).den:Int):=congrArg bM.f1 h1
 exact Rat.ext e1.symm (by omega)
abbrev BC (au:List Int) (ag:List (List Int)):Nat->Nat->Rat:=fun i j=>((((xH au ag).getD i []).getD j 0:Int):Rat)
abbrev BD (au:List Int) (ag:List (List Int)):Nat->Nat->Rat:=fun i j=>((((tB au ag).getD i []).getD j 0:Int):Rat)
abbrev EA (au:List Int) (ag:List (List Int)) (T:bq):Prop:=zB ag.length au.length (BC au ag) T/\∀r,r<au.length->¬T.cell r (ag.length+au.length)<0
abbrev EB (au:List Int) (ag:List (List Int)) (T:bq):Prop:=xx au.length ag.length (BD au ag) T/\∀c,c<au.length+ag.length->¬eD (au.length+1) (T.cost ag.length c)
def xC (au:List Int) (ag:List (List Int)) (T:bq):Nat->Rat:=T.X au.length (ag.length+au.length)
def xP (au:List Int) (ag:List (List Int)) (T:bq):Nat->Rat:=T.X ag.length (au.length+ag.length)
def ql (au:List Int) (ag:List (List Int)) (T1 T2:bq):xF:=(true,(S ag.length (xC au ag T1)).num,((S ag.length (xC au ag T1)).den:Int),LQ ag.length (xC au ag T1),LQ au.length (xP au ag T2))
section
variable {au:List Int} {ag:List (List Int)}
theorem getD_map' {α:Type} {f:α->Int} {l:List α} {i:Nat} {a:α} (h:i<l.length):(l.map f).getD i 0=f (l.getD i a):=by
 simp [List.getD_eq_getElem?_getD,h]
theorem KV {α:Type} {f:α->List Int} {l:List α} {i:Nat} {a:α} (h:i<l.length):(l.map f).getD i []=f (l.getD i a):=by
 simp [List.getD_eq_getElem?_getD,h]
theorem a5x {i j:Nat} (hi:i<au.length) (hj:j<ag.length):((xH au ag).getD i []).getD j 0= - ind (ag.getD j []) (au.getD i 0):=by
 unfold xH
 rw [KV (a:=(0:Int)) hi,getD_map' (a:=([]:List Int)) hj]
theorem a1d {i j:Nat} (hi:i<ag.length) (hj:j<au.length):((tB au ag).getD i []).getD j 0=ind (ag.getD i []) (au.getD j 0):=by
 unfold tB
 rw [KV (a:=([]:List Int)) hi,getD_map' (a:=(0:Int)) hj]
theorem Ry {i j:Nat}:ind (ag.getD j []) (au.getD i 0)=if gA au ag i j=true then 1 else 0:=by
 unfold ind gA
 by_cases h:au.getD i 0∈ag.getD j []
 ·rw [if_pos h,decide_eq_true h,if_pos rfl]
 ·rw [if_neg h,decide_eq_false h,if_neg (by decide)]
theorem JJ {i j:Nat} (hi:i<au.length) (hj:j<ag.length):BC au ag i j=if gA au ag i j=true then -1 else 0:=by
 unfold BC
 rw [a5x hi hj,Ry]
 by_cases h:gA au ag i j=true
 ·rw [if_pos h,if_pos h];rfl
 ·rw [if_neg h,if_neg h];rfl
theorem JK {i j:Nat} (hi:i<ag.length) (hj:j<au.length):BD au ag i j=if jH au ag i j=true then 1 else 0:=by
 unfold BD
 rw [a1d hi hj,Ry]
 by_cases h:gA au ag j i=true
 ·rw [if_pos h,if_pos (show jH au ag i j=true from h)];rfl
 ·rw [if_neg h,if_neg (show ¬jH au ag i j=true from h)];rfl
theorem JL:∀i j,i<au.length->j<ag.length->BC au ag i j=0∨BC au ag i j= -1:=fun i j hi hj=>by
 rw [JJ hi hj];split
 ·exact .inr rfl
 ·exact .inl rfl
theorem JM:∀i j,i<ag.length->j<au.length->BD au ag i j=0∨BD au ag i j=1:=fun i j hi hj=>by
 rw [JK hi hj];split
 ·exact .inr rfl
 ·exact .inl rfl
theorem b6v:Fits (gA au ag) ag.length au.length false (fun _=>true) (BC au ag) (fun _=>((-1:Int):Rat)):=
 ⟨fun i j hi hj=>by
  rw [JJ hi hj]
  have e:Bl false= -1:=rfl
  rw [e];split<;>grind,fun i hi=>rfl,fun i hi h=>absurd h (by decide)⟩
theorem b6w:Fits (jH au ag) au.length ag.length true (jX au ag) (BD au ag) (fun _=>((1:Int):Rat)):=
 ⟨fun i j hi hj=>by
  rw [JK hi hj]
  have e:Bl true=1:=rfl
  rw [e];split<;>grind,fun i hi=>rfl,fun i hi h=>⟨rfl,fun j hj=>by
   unfold jX at h
   rw [Bool.not_eq_false'] at h
   have h0:=List.isEmpty_iff.1 h
   cases hp:jH au ag i j with
   |false=>rfl
   |true=>
    have:=(wX (p:=jH au ag i) hj).2 hp
    rw [h0] at this
    exact absurd this (by simp)⟩⟩
theorem KW {p:Nat->Bool} {N:Nat}:(!(places p N).isEmpty)=true↔∃j,j<N/\p j=true:=by
 rw [Bool.not_eq_true',<-Bool.not_eq_true,List.isEmpty_iff]
 constructor
 ·intro h
  cases hp:places p N with
  |nil=>exact absurd hp h
  |cons a l=>
   have:a∈places p N:=by rw [hp];exact List.mem_cons_self
   obtain ⟨j,h1,h2,_⟩:=zD.1 this
   exact ⟨j,h1,h2⟩
 ·rintro ⟨j,h1,h2⟩ hn
  have:=(wX h1).2 h2
  rw [hn] at this
  exact absurd this (by simp)
theorem GK (h:nx au ag=true) {i:Nat} (hi:i<au.length):∃j,j<ag.length/\gA au ag i j=true:=by
 unfold nx at h
 have h1:=List.all_eq_true.1 h _ (List.getElem_mem hi)
 obtain ⟨e,he,hm⟩:=List.any_eq_true.1 h1
 obtain ⟨j,hj,rfl⟩:=List.getElem_of_mem he
 refine ⟨j,hj,?_⟩
 unfold gA
 rw [<-zH hi]
 have:ag.getD j []=ag[j]:=by simp [List.getD_eq_getElem?_getD,hj]
 rw [this];exact hm
theorem OX:rf au ag 0 au.length=nx au ag:=by
 rw [Bool.eq_iff_iff]
 constructor
 ·intro h
  unfold rf at h
  unfold nx
  rw [List.all_eq_true] at h⊢
  intro v hv
  obtain ⟨i,hi,rfl⟩:=List.getElem_of_mem hv
  obtain ⟨j,hj,hp⟩:=KW.1 (h i (List.mem_range.2 hi))
  rw [List.any_eq_true]
  have e:ag.getD j []=ag[j]:=by simp [List.getD_eq_getElem?_getD,hj]
  unfold gA at hp
  rw [Nat.zero_add,<-zH hi,e] at hp
  exact ⟨ag[j],List.getElem_mem hj,hp⟩
 ·intro h
  unfold rf
  rw [List.all_eq_true]
  intro i hi
  rw [Nat.zero_add]
  exact KW.2 (GK h (List.mem_range.1 hi))
theorem a5y (h:nx au ag=true):∀i,i<au.length->∃j,j<ag.length/\BC au ag i j= -1:=fun i hi=>by
 obtain ⟨j,hj,hp⟩:=GK h hi
 exact ⟨j,hj,by rw [JJ hi hj,if_pos hp]⟩
theorem JN (h:nx au ag=true):∀j,j<au.length->∃i,i<ag.length/\BD au ag i j=1:=fun j hj=>by
 obtain ⟨i,hi,hp⟩:=GK h hj
 exact ⟨i,hi,by rw [JK hi hj,if_pos (show jH au ag i j=true from hp)]⟩
def oC (au:List Int) (ag:List (List Int)):Option (Nat->Rat):=fu ag.length (lW (gA au ag) ag.length au.length false (fun _=>true)) false (lW (gA au ag) ag.length au.length false (fun _=>true)).length [] none
def oP (au:List Int) (ag:List (List Int)):Option (Nat->Rat):=fu au.length (lW (jH au ag) au.length ag.length true (jX au ag)) true (lW (jH au ag) au.length ag.length true (jX au ag)).length [] none
variable (hnb:au.length<=6) (hne:ag.length<=7)
include hnb hne
theorem TY {T:bq} (h:EA au ag T):qc ag.length (oC au ag)=LQ ag.length (xC au ag T):=
 KM b6v hne h.1.toValid (a0b h.1 h.2)
theorem TZ {T:bq} (h:EB au ag T):qc au.length (oP au ag)=LQ au.length (xP au ag T):=
 KM b6w (by omega) h.1.toValid (a0e h.1 h.2)
theorem Rz {n:Nat} {o:Option (Nat->Rat)} {x:Nat->Rat} (hn:0<n) (h:qc n o=LQ n x):∃y,o=some y/\LQ n y=LQ n x:=by
 cases o with
 |none=>
  have:([]:List bM).length=(LQ n x).length:=congrArg List.length h
  rw [kK] at this
  simp at this;omega
 |some y=>exact ⟨y,rfl,h⟩
theorem Yd {T1 T2 T1' T2':bq} (h1:EA au ag T1) (h2:EB au ag T2) (h1':EA au ag T1') (h2':EB au ag T2'):ql au ag T1 T2=ql au ag T1' T2':=by
 have e1:=(TY hnb hne h1).symm.trans (TY hnb hne h1')
 have e2:=(TZ hnb hne h2).symm.trans (TZ hnb hne h2')
 have e3:S ag.length (xC au ag T1)=S ag.length (xC au ag T1'):=Jn (Yc e1)
 unfold ql
 rw [e1,e2,e3]
omit hnb hne in
theorem KX {n:Nat} {l:List cq} {most:Bool} {x:Nat->Rat} (h0:0<n) (h7:n<=7) (hl:l.length<=100) (hall:l.all (jF (n:Int))=true) (h:fu n l most l.length [] none=some x):Ev (fun k=>dx.f k (n:Int) l 0 [] [] most) (LQ n x):=by
 have e:∀k,dx.f k (n:Int) l 0 [] [] most=some (LQ n x):=fun k=>by
  show Gl (n:Int) l 0 [] [] most=_
  unfold Gl
  have hok:Bn (n:Int) l 0 [] []=true:=by
   unfold Bn
   simp only [Bool.and_eq_true,decide_eq_true_eq,List.isEmpty_iff]
   exact ⟨⟨⟨⟨⟨⟨trivial,trivial⟩,trivial⟩,by omega⟩,by omega⟩,hl⟩,hall⟩
  rw [if_pos hok,Int.toNat_natCast,h];rfl
 have:(fun k=>dx.f k (n:Int) l 0 [] [] most)=(fun _=>some (LQ n x)):=funext e
 rw [this];exact Ev.now _
theorem b0a {T1 T2:bq} (hb:nx au ag=true) (h1:EA au ag T1) (h2:EB au ag T2):
 Ev (fun k=>ay.l5 k au ag (lW (gA au ag) ag.length au.length false (fun _=>true)) (lW (jH au ag) au.length ag.length true (jX au ag)) (au.length:Int) (au.length:Int)) (ql au ag T1 T2):=by
 refine Ev.succ ?_
 simp only [ay.l5]
 refine Ev.neg (by omega) ?_
 by_cases hz:au.length=0
 ·refine Ev.pos (by omega) (Ev.bind (Ny ag.length (by omega)) (Ev.to (Ev.now _) ?_))
  have hX:∀j,xC au ag T1 j=0:=fun j=>by unfold xC bq.X;rw [hz];rfl
  have hS:S ag.length (xC au ag T1)=0:=jL (fun j _=>hX j)
  have hL:LQ ag.length (xC au ag T1)=List.replicate ag.length ⟨0,1⟩:=by
   unfold LQ
   rw [List.eq_replicate_iff]
   refine ⟨by simp,fun b hb=>?_⟩
   obtain ⟨j,_,rfl⟩:=List.mem_map.1 hb
   rw [hX j];rfl
  unfold ql
  rw [hS,hL,hz];rfl
 ·have hb0:0<au.length:=Nat.pos_of_ne_zero hz
  have hn0:0<ag.length:=by obtain ⟨j,hj,_⟩:=GK hb hb0;omega
  obtain ⟨x,ex,lx⟩:=Rz hnb hne hn0 (TY hnb hne h1)
  obtain ⟨y,ey,ly⟩:=Rz hnb hne hb0 (TZ hnb hne h2)
  have okC:=Jp (P:=gA au ag) (m:=au.length) (up:=false) (inc:=fun _=>true) hne
  have okP:=Jp (P:=jH au ag) (m:=ag.length) (up:=true) (inc:=jX au ag) (n:=au.length) (by omega)
  have lC:=NY (P:=gA au ag) (n:=ag.length) (m:=au.length) (up:=false) (inc:=fun _=>true)
  have lP:=NY (P:=jH au ag) (n:=au.length) (m:=ag.length) (up:=true) (inc:=jX au ag)
  have cx:Cm ag.length x:=Ct okC hne _ [] none (Nat.le_refl _) rfl (fun _ h=>by cases h) x ex
  have e3:S ag.length x=S ag.length (xC au ag T1):=Jn (Yc lx)
  refine Ev.neg (by omega) (Ev.bind (KX hn0 hne (by omega) okC ex) (Ev.bind (KX hb0 (by omega) (by omega) okP ey) (Ev.bind (NU hne cx).1 (Ev.to (Ev.now _) ?_))))
  unfold ql
  rw [lx,ly,e3]
end
theorem zK {au:List Int} {ag:List (List Int)} (h:nT au ag=true):au.length<=6/\ag.length<=7/\∀x,x∈ag->x.length<=6:=by
 unfold nT at h
 simp only [Bool.and_eq_true,decide_eq_true_eq] at h
 exact ⟨MP h.1.1,h.1.2,fun x hx=>MP (List.all_eq_true.1 h.2 x hx)⟩
theorem OY {au:List Int} {ag:List (List Int)} (hb0:au.length<=1048576) (Rm:ag.length<=1048576) (hr:∀x,x∈ag->x.length<=1048576) (R:xF)
 (hend:nT au ag=true->nx au ag=true->∃T1 T2,EA au ag T1/\EB au ag T2/\ql au ag T1 T2=R):
 Ev (fun k=>ay.f k au ag) (if (nT au ag&&nx au ag)=true then R else qZ):=by
 have hrd:∀j,(ag.getD j []).length<=1048576:=fun j=>by
  by_cases hj:j<ag.length
  ·have:ag.getD j []=ag[j]:=by simp [List.getD_eq_getElem?_getD,hj]
   rw [this];exact hr _ (List.getElem_mem hj)
  ·have:ag.getD j []=[]:=by simp [List.getD_eq_getElem?_getD,hj]
   rw [this];simp
 refine Ev.to (TJ au ag hb0 Rm hr (if rf au ag 0 au.length=true then R else qZ) (fun hg=>?_)) ?_
 ·obtain ⟨hnb,hne,_⟩:=zK hg
  refine a9p hnb hne hrd R (fun hc=>?_) au.length 0 (by omega) rfl
  obtain ⟨T1,T2,h1,h2,rfl⟩:=hend hg (OX.symm.trans hc)
  have key:=b0a hnb hne (OX.symm.trans hc) h1 h2
  have k3:=a9m hnb hne hrd (ql au ag T1 T2) (by
   have k5:=a9n hnb hne hrd (ql au ag T1 T2) (lW (gA au ag) ag.length au.length false (fun _=>true)) key au.length 0 (by omega)
   simpa using k5) ag.length 0 (by omega)
  simpa using k3
 ·rw [OX]
  cases nT au ag<;>cases nx au ag<;>rfl
set_option maxHeartbeats 1600000 in
set_option maxRecDepth 100000 in
theorem OZ (A0:Option Addr) (c0:Nat) (au:List Int) (A1:Option Addr) (c1:Nat) (ag:List (List Int)) (w:World) (h0:Kd.C (Kd.int .i64) w A0 au.length au) (l0:au.length<=c0)
 (hb:au.length<=1048576) (hok:kg (-1) au=false):
 Calls Try.prog 9 #[.slice A0 au.length c0,.slice A1 ag.length c1] w fun e w'=>e= .returned (.agg ki)/\Below w.heap.size w w':=by
 obtain ⟨k1,vE⟩:=Ev.rounds (zl au (by omega))
 rw [hok] at vE
 have wT:=Aside0.mk (fun W (hb:Below w.heap.size w W)=>cS.calls k1 A0 c0 au _ W (Kd.bX h0 hb) l0 vE)
 have HB:=Aside0.mk (Below.refl w.heap.size w)
 clear h0 vE hok
 go_enter Try.func9,Try.ntmps9
 go_wp2_with (first|(go_at_call 27;(with_reducible refine (wT.out _ (by first|exact bA HB.out _|exact bB (bA HB.out _))).mono ?_);rintro e w1 ⟨rfl,hb1⟩;have eL:=Aside0.mk (ah (bA HB.out (.cells ki 29)) (ju hb1));have gB:Aside0 (w1.heap[w.heap.size]? =some (.cells ki 29 (0,0))):=⟨ai (di w _) (ju hb1)⟩;have hz0:=(af gB.out 0).trans rfl;have hz1:=(af gB.out 1).trans rfl;have hz2:=(af gB.out 2).trans rfl;have hz3:=(af gB.out 3).trans rfl;have hz4:=(af gB.out 4).trans rfl;have hy0:=aa gB.out 0;have hy1:=aa gB.out 1;have Qs:=aa gB.out 2;have hy3:=aa gB.out 3;have hy4:=aa gB.out 4;clear hb1))
 have XV:Aside0 ((((((w1.setCell ⟨w.heap.size,0,none⟩ (.bool false)).setCell ⟨w.heap.size,1,none⟩ (.int .i64 0)).setCell ⟨w.heap.size,2,none⟩ (.int .i64 0)).setCell ⟨w.heap.size,3,none⟩ (.slice none 0 0)).setCell ⟨w.heap.size,4,none⟩ (.slice none 0 0)).heap[w.heap.size]? =some (.cells ki 29 (0,0))):=⟨aK (aK (aK (aK (aK gB.out 0 _ (cs':=ki) rfl) 1 _ (cs':=ki) rfl) 2 _ (cs':=ki) rfl) 3 _ (cs':=ki) rfl) 4 _ (cs':=ki) rfl⟩
 refine bodyPost_ret (results_cell_row rfl _ _ w.heap.size 29 ki (0,0) _ rfl XV.out Try.underlying29 (by rfl) (by kernel_rfl)) rfl ?_
 exact ⟨rfl,bC (bC (bC (bC (bC eL.out (Nat.le_refl _)) (Nat.le_refl _)) (Nat.le_refl _)) (Nat.le_refl _)) (Nat.le_refl _)⟩
set_option maxHeartbeats 1600000 in
set_option maxRecDepth 100000 in
theorem Pa (A0:Option Addr) (c0:Nat) (au:List Int) (A1:Option Addr) (c1:Nat) (ag:List (List Int)) (w:World) (h0:Kd.C (Kd.int .i64) w A0 au.length au) (l0:au.length<=c0) (h1:Kd.C Aa w A1 ag.length ag) (l1:ag.length<=c1)
 (hb:au.length<=1048576) (hr:∀x,x∈ag->x.length<=1048576) (hok:kg (-1) au=true) (OP:(decide (ag.length<=7)&&ag.all (kg (-1)))=false):
 Calls Try.prog 9 #[.slice A0 au.length c0,.slice A1 ag.length c1] w fun e w'=>e= .returned (.agg ki)/\Below w.heap.size w w':=by
 obtain ⟨k1,vE⟩:=Ev.rounds (zl au (by omega))
 rw [hok] at vE
 have wT:=Aside0.mk (fun W (hb:Below w.heap.size w W)=>cS.calls k1 A0 c0 au _ W (Kd.bX h0 hb) l0 vE)
 have zY:=Aside0.mk (fun W (hb:Below w.heap.size w W)=>Df A1 c1 ag W (Kd.bX h1 hb) l1 hr)
 rw [OP] at zY
 have HB:=Aside0.mk (Below.refl w.heap.size w)
 clear h0 h1 vE hok OP
 go_enter Try.func9,Try.ntmps9
 go_wp2_with (first|(go_at_call 27;(with_reducible refine (wT.out _ (bA HB.out _)).mono ?_);rintro e w1 ⟨rfl,hb1⟩;have eL:=Aside0.mk (ah (bA HB.out (.cells ki 29)) (ju hb1));have dO:Aside0 (w1.heap[w.heap.size]? =some (.cells ki 29 (0,0))):=⟨ai (di w _) (ju hb1)⟩;clear hb1)|(go_at_call 28;(with_reducible refine (zY.out _ eL.out).mono ?_);rintro e w2 ⟨rfl,hb2⟩;have lT:=Aside0.mk (ah eL.out hb2);have gB:=Aside0.mk (ai dO.out hb2);have hz0:=(af gB.out 0).trans rfl;have hz1:=(af gB.out 1).trans rfl;have hz2:=(af gB.out 2).trans rfl;have hz3:=(af gB.out 3).trans rfl;have hz4:=(af gB.out 4).trans rfl;have hy0:=aa gB.out 0;have hy1:=aa gB.out 1;have Qs:=aa gB.out 2;have hy3:=aa gB.out 3;have hy4:=aa gB.out 4;clear hb2))
 have XV:Aside0 ((((((w2.setCell ⟨w.heap.size,0,none⟩ (.bool false)).setCell ⟨w.heap.size,1,none⟩ (.int .i64 0)).setCell ⟨w.heap.size,2,none⟩ (.int .i64 0)).setCell ⟨w.heap.size,3,none⟩ (.slice none 0 0)).setCell ⟨w.heap.size,4,none⟩ (.slice none 0 0)).heap[w.heap.size]? =some (.cells ki 29 (0,0))):=⟨aK (aK (aK (aK (aK gB.out 0 _ (cs':=ki) rfl) 1 _ (cs':=ki) rfl) 2 _ (cs':=ki) rfl) 3 _ (cs':=ki) rfl) 4 _ (cs':=ki) rfl⟩
 refine bodyPost_ret (results_cell_row rfl _ _ w.heap.size 29 ki (0,0) _ rfl XV.out Try.underlying29 (by rfl) (by kernel_rfl)) rfl ?_
 exact ⟨rfl,bC (bC (bC (bC (bC lT.out (Nat.le_refl _)) (Nat.le_refl _)) (Nat.le_refl _)) (Nat.le_refl _)) (Nat.le_refl _)⟩
theorem Uz {l:List Value} {k:Nat} {a b:Value} (h1:l[k]? =some a) (h2:l[k+1]? =some b):(l.drop k).take 2=[a,b]:=by
 refine List.ext_getElem? (fun i=>?_)
 rw [List.getElem?_take,List.getElem?_drop]
 rcases i with _|_|i
 ·rw [if_pos (by omega),Nat.add_zero,h1];rfl
 ·rw [if_pos (by omega),Nat.zero_add,h2];rfl
 ·rw [if_neg (by omega)];simp
theorem b0b {n j:Nat} (x:Nat->Rat) (h:j<(LQ n x).length):(LQ n x)[j]=q2 (x j):=by
 have h2:(LQ n x)[j]? =some (q2 (x j)):=by
  have hj:j<n:=by rw [kK] at h;exact h
  unfold LQ
  rw [List.getElem?_map,List.getElem?_range hj];rfl
 rw [List.getElem?_eq_getElem h] at h2
 exact Option.some.inj h2
theorem RA {W:World} {g n:Nat} {cs:Array Value} {x:Nat->Rat} (hn:n<=7) (hg:W.heap[g]? =some (.cells cs 26 (0,0))) (hp:tU cs n (fun j=>((x j).num,((x j).den:Int)))):oR W (LQ n x) (some ⟨g,0,none⟩) n n [g]:=by
 refine .inr ⟨g,n,cs,List.replicate n [],by rw [kK],hg,by rw [kK];exact Nat.le_refl _,by unfold maxLen;omega,hp.size,by simp,by simp,by rw [List.length_replicate,kK],fun j h h'=>?_⟩
 have hj:j<n:=by rw [kK] at h;exact h
 refine ⟨?_,by simp⟩
 rw [b0b]
 have e1:=hp.num j hj
 have e2:=hp.den j hj
 rw [<-Array.getElem?_toList] at e1 e2
 exact Uz e1 e2
section
variable {au:List Int} {ag:List (List Int)}
theorem KY (hg:nT au ag=true) (hc:nx au ag=true) {A0:Option Addr} {c0:Nat} {A1:Option Addr} {c1:Nat} {W:World} (h0:oA W au A0 c0) (h1:kf W ag A1 c1):
 Calls Try.prog 9 #[.slice A0 au.length c0,.slice A1 ag.length c1] W fun e w'=>∃T1 T2,EA au ag T1/\EB au ag T2/\lF W (ql au ag T1 T2) e w':=by
 obtain ⟨hnb,hne,hrl⟩:=zK hg
 have hg2:=hg
 unfold nT at hg2
 simp only [Bool.and_eq_true,decide_eq_true_eq] at hg2
 refine (BA A0 c0 au A1 c1 ag W h0.2 h0.1 h1.2 h1.1 hnb hne (fun x hx=>by have:=hrl x hx;omega) hg2.1.1 hg2.2 (EA au ag) (EB au ag) ?_ ?_ ?_ ?_).mono ?_
 ·intro _ cs W2 hR
  refine (Lg 240 1680 (2^(ag.length+au.length)) au.length (ag.length+au.length) (ag.length+1) (a0Z au ag) (zB ag.length au.length (BC au ag)) cs W2 hR (by decide) (ZZ JL hnb) (fun T h r hr hneg=>a0a JL (a5y hc) h hr hneg)).mono ?_
  rintro e w' ⟨cs',T,rfl,hR',hI,hp,hB⟩
  exact ⟨cs',T,rfl,hR',⟨hI,hp⟩,hB⟩
 ·intro _ cs W2 hR
  refine (TP 720 720 (2^(au.length+ag.length)) ag.length (au.length+ag.length) (au.length+1) (TR au ag) (xx au.length ag.length (BD au ag)) cs W2 hR (a0d JM (JN hc) hnb) (fun T h r hr=>h.DW r hr) (fun T h c hc' hneg=>a4J JM (JN hc) h hc' hneg)).mono ?_
  rintro e w' ⟨cs',T,rfl,hR',hI,hp,hB⟩
  exact ⟨cs',T,rfl,hR',⟨hI,hp⟩,hB⟩
 ·intro T hT
  have hf:=NM JL hnb hT.1
  exact ⟨fun r hr=>by have:=hT.1.lt r hr;omega,Qz hf,a2v hf (by omega)⟩
 ·intro T hT
  have hf:=NP JM (JN hc) hnb hT.1
  exact ⟨fun r hr=>by have:=hT.1.lt r hr;omega,Qz hf,a2v hf hne⟩
 ·rintro e w' (⟨_,hG⟩|⟨hn,_⟩)
  ·obtain ⟨g1,cs1,g2,ir,T1,T2,rfl,Ye,Yf,hg1,Xb,b6x,hp2,b2l,zW,hl2,hB⟩:=hG
   refine ⟨T1,T2,Ye,Yf,some ⟨g1,0,none⟩,ag.length,some ⟨g2,0,none⟩,au.length,[g1]++[g2],?_,?_,?_,Tr.lB hB⟩
   ·unfold ql
    rw [b5m ag.length]
    simp only [kK]
    rfl
   ·have o1:oR w' (LQ ag.length (xC au ag T1)) (some ⟨g1,0,none⟩) ag.length ag.length [g1]:=RA hne hg1 (Xb.congr (fun j _=>by
     unfold xC;rw [a8l Ye.1.toValid j]))
    have o2:oR w' (LQ au.length (xP au ag T2)) (some ⟨g2,0,none⟩) au.length au.length [g2]:=RA (by omega) b6x (hp2.congr (fun j _=>by
     unfold xP;rw [a8l Yf.1.toValid j]))
    have key:=oV.mk (x:=ql au ag T1 T2) o1 o2 (fun b hb hb'=>b2l (by rw [<-List.mem_singleton.1 hb,<-List.mem_singleton.1 hb']))
    have e1:(ql au ag T1 T2).2.2.2.1.length=ag.length:=kK _ _
    have e2:(ql au ag T1 T2).2.2.2.2.length=au.length:=kK _ _
    rw [e1,e2]
    exact key
   ·intro b hb
    rcases List.mem_append.1 hb with hb|hb
    ·rw [List.mem_singleton.1 hb];exact zW
    ·rw [List.mem_singleton.1 hb];exact hl2
  ·rw [hc] at hn;exact absurd hn (by decide)
theorem BF {W w':World} (hB:Below W.heap.size W w'):lF W qZ (.returned (.agg ki)) w':=
 ⟨none,0,none,0,[],rfl,oV.mk (x:=qZ) (b3:=[]) (b4:=[]) (.inl ⟨rfl,rfl,rfl⟩) (.inl ⟨rfl,rfl,rfl⟩) (fun b hb=>by cases hb),fun b hb=>(by cases hb),Tr.lB hB⟩
theorem Yg (hb0:au.length<=1048576) (hr:∀x,x∈ag->x.length<=1048576) (hz:(nT au ag&&nx au ag)=false) {A0:Option Addr} {c0:Nat} {A1:Option Addr} {c1:Nat} {W:World} (h0:oA W au A0 c0) (h1:kf W ag A1 c1):
 Calls Try.prog 9 #[.slice A0 au.length c0,.slice A1 ag.length c1] W (lF W qZ):=by
 by_cases ha:kg (-1) au=true
 ·by_cases hs:(decide (ag.length<=7)&&ag.all (kg (-1)))=true
  ·have hg:nT au ag=true:=by
    unfold nT;rw [ha,Bool.true_and];exact hs
   rw [hg,Bool.true_and] at hz
   obtain ⟨hnb,hne,hrl⟩:=zK hg
   simp only [Bool.and_eq_true,decide_eq_true_eq] at hs
   refine (BA A0 c0 au A1 c1 ag W h0.2 h0.1 h1.2 h1.1 hnb hne (fun x hx=>by have:=hrl x hx;omega) ha hs.2 (fun _=>False) (fun _=>False) (fun h=>absurd h (by rw [hz];decide)) (fun h=>absurd h (by rw [hz];decide)) (fun _ h=>h.elim) (fun _ h=>h.elim)).mono ?_
   rintro e w' (⟨hn,_⟩|⟨_,rfl,hB⟩)
   ·rw [hz] at hn;exact absurd hn (by decide)
   ·exact BF hB
  ·refine (Pa A0 c0 au A1 c1 ag W h0.2 h0.1 h1.2 h1.1 hb0 hr ha (Bool.eq_false_iff.2 hs)).mono ?_
   rintro e w' ⟨rfl,hB⟩
   exact BF hB
 ·refine (OZ A0 c0 au A1 c1 ag W h0.2 h0.1 hb0 (Bool.eq_false_iff.2 ha)).mono ?_
  rintro e w' ⟨rfl,hB⟩
  exact BF hB
theorem Ua (hb0:au.length<=1048576) (Rm:ag.length<=1048576) (hr:∀x,x∈ag->x.length<=1048576) {A0:Option Addr} {c0:Nat} {A1:Option Addr} {c1:Nat} {w:World} (h0:oA w au A0 c0) (h1:kf w ag A1 c1):
 ∃R:V5,R.2.2.2.1.length<=7/\R.2.2.2.2.length<=7/\Ev (fun k=>ay.f k au ag) R/\
  ∀(W:World) (q0:Option Addr) (d0:Nat) (q1:Option Addr) (d1:Nat),oA W au q0 d0->kf W ag q1 d1->Calls Try.prog 9 #[.slice q0 au.length d0,.slice q1 ag.length d1] W (lF W R):=by
 by_cases hz:(nT au ag&&nx au ag)=true
 ·have hz2:=hz
  rw [Bool.and_eq_true] at hz2
  obtain ⟨hg,hc⟩:=hz2
  obtain ⟨hnb,hne,_⟩:=zK hg
  obtain ⟨_,_,_,⟨T1,T2,Ye,Yf,_⟩,_⟩:=KY hg hc h0 h1 []
  have hev:=OY hb0 Rm hr (ql au ag T1 T2) (fun _ _=>⟨T1,T2,Ye,Yf,rfl⟩)
  rw [if_pos hz] at hev
  refine ⟨ql au ag T1 T2,?_,?_,hev,fun W q0 d0 q1 d1 g0 g1=>?_⟩
  ·show (LQ _ _).length<=7;rw [kK];exact hne
  ·show (LQ _ _).length<=7;rw [kK];omega
  ·refine (KY hg hc g0 g1).mono ?_
   rintro e w' ⟨T1',T2',b6y,b6z,hP⟩
   rw [Yd hnb hne Ye Yf b6y b6z]
   exact hP
 ·have hz2:=Bool.eq_false_iff.2 hz
  have hev:=OY hb0 Rm hr qZ (fun a b=>absurd (by rw [a,b];rfl) hz)
  rw [if_neg hz] at hev
  exact ⟨qZ,by show (0:Nat)<=7;omega,by show (0:Nat)<=7;omega,hev,fun W q0 d0 q1 d1 g0 g1=>Yg hb0 hr hz2 g0 g1⟩
end
theorem Yh {A0:Option Addr} {c0:Nat} {l0:List Int} {A1:Option Addr} {c1:Nat} {l1:List (List Int)} {w:World}
 (fy:Kd.C (Kd.int .i64) w A0 l0.length l0) (hc0:l0.length<=c0) (hr1:Kd.C (Kd.slice 3 (Kd.int .i64)) w A1 l1.length l1) (hc1:l1.length<=c1) {G0 G1:Prop} (g0:G0) (g1:G1):
 Calls Try.prog 3 #[.slice A0 l0.length c0,.slice A1 l1.length c1] w fun e w'=>e= .returned (.bool true)/\Below w.heap.size w w':=by
 have ha0:oA w l0 A0 c0:=⟨hc0,fy⟩
 have ha1:kf w l1 A1 c1:=⟨hc1,hr1⟩
 have small:0<=iI l1 1048576->xY l1/\iK l1<=1048576/\0<=iK l1:=fun h=>by
  obtain ⟨h1,h2,h3,_⟩:=Zd h
  exact ⟨⟨by omega,fun y hy=>by have:=h2 y hy;omega⟩,h3,DA _⟩
 have key:∃R:V5,zk R/\(l0.length<=1048576/\0<=iI l1 1048576->pz R<=100/\Ev (fun k=>ay.f k l0 l1) R/\
  ∀(W:World) (q0:Option Addr) (d0:Nat) (q1:Option Addr) (d1:Nat),oA W l0 q0 d0->kf W l1 q1 d1->Calls Try.prog 9 #[.slice q0 l0.length d0,.slice q1 l1.length d1] W (lF W R)):=by
  by_cases hf:l0.length<=1048576/\0<=iI l1 1048576
  ·obtain ⟨hg,_⟩:=small hf.2
   obtain ⟨R,e1,e2,e3,e4⟩:=Ua hf.1 hg.1 hg.2 ha0 ha1
   exact ⟨R,⟨by omega,by omega⟩,fun _=>⟨by unfold pz;omega,e3,e4⟩⟩
  ·exact ⟨qZ,⟨Nat.zero_le _,Nat.zero_le _⟩,fun h=>absurd h hf⟩
 obtain ⟨R,hgV,hR⟩:=key
 refine Fs l0 A0 c0 l1 A1 c1 R _ w ha0 ha1 rfl (fun h=>?_) (fun h=>?_) (fun h=>?_) (fun h=>?_)
 ·exact ⟨h.1,(small h.2).1,hgV,trivial⟩
 ·have h1:=small h.2
  have h2:=(hR h).1
  have h3:=h.1
  have h4:0<=pz R:=by unfold pz;omega
  exact ⟨by omega,by omega,by omega,by omega,by omega⟩
 ·intro W0 W oL oM oN oO t hx hy
  obtain ⟨k,hk⟩:=Ev.rounds (hR h).2.1
  have hxW:=hx.tr t
  have hyW:=hy.tr t
  refine (ay.calls k oL oM l0 oN oO l1 _ _ _ _ _ W hxW.2 hxW.1 hyW.2 hyW.1 hk).mono ?_
  rintro e w' ⟨v3,v4,rfl,h3,h4,hb⟩
  obtain ⟨B3,d3,rfl,m3,n3⟩:=Kd.oa h3
  obtain ⟨B4,d4,rfl,m4,n4⟩:=Kd.oa h4
  exact ⟨B3,d3,B4,d4,rfl,⟨⟨m3,n3⟩,⟨m4,n4⟩⟩,Tr.lB hb⟩
 ·intro W0 W oL oM oN oO t hx hy
  exact (hR h).2.2 W _ _ _ _ (hx.tr t) (hy.tr t)
end Go.Proofs.Ytnhknojfpjheoaa.PT
namespace Go.Proofs.Ytnhknojfpjheoaa.fnExactCoverOf
open Go.ChangeShapes Go.WideShapes Go.ChangeAt Go.RowKit
open Go.ChangeMaps (open_string shut_string)
open Go.Proofs.Ytnhknojfpjheoaa.Opens Go.Proofs.YtnhknojfpjheoaaW.PrintWords
set_option linter.all false
theorem own:ownKnob Try.prog.godebug=none:=by kernel_rfl
theorem laidOut:laidOutB Try.prog=true:=by kernel_rfl
def G3 (v:Int):Prop:=(Lit.int .i64 v).wf=true
theorem b0d:Opens Try.prog (Kd.int .i64) 3 G3:=Opens.int Try.underlying3 (by kernel_rfl)
def G22 (v:(List Int)):Prop:=v.length<=maxLen/\∀x,x∈v->G3 x
theorem RB:Opens Try.prog (Kd.slice 3 (Kd.int .i64)) 22 G22:=Opens.slice Try.underlying22 (by kernel_rfl) b0d
def G23 (v:(List (List Int))):Prop:=v.length<=maxLen/\∀x,x∈v->G22 x
theorem a5z:Opens Try.prog (Kd.slice 22 (Kd.slice 3 (Kd.int .i64))) 23 G23:=Opens.slice Try.underlying23 (by kernel_rfl) RB
set_option maxRecDepth 100000 in
theorem lifted (os:Os) (started:os.Started) (H:Type) (enc:TypeId×Value->H):
 ReturnsInHanded {} Try.checked os 3 .any (Rows.fnExactCoverOfSpec.pre6 enc Try.prog Try.f3 Rows.fnExactCoverOfRow.domain false) (Rows.fnExactCoverOfSpec.post enc Try.prog Try.f3 false true false false):=by
 refine returnsInHanded_of_change_sized (C:=Try.checked) own started (by kernel_rfl) Try.func3
  (ChangeSpec.witness6 (enc:=enc) (C:=Try.checked) false ⟨#[],#[.slice none 0 0,.slice none 0 0],[]⟩ 8 (by kernel_rfl) (by kernel_rfl) (by kernel_rfl) (by kernel_rfl)) ?_
 intro W base args ds gs before a3n hW hcnd hsz0 _
 have hval:∀(j:Nat) t v,Try.f3.params[j]? =some t->args[j]? =some v->Value.okWide Try.prog W .any base t v:=a3n
 have hW':=hW
 obtain ⟨p,q,hA0,hV,rfl,hfz,Qa⟩:=hW
 have hA:DataW.TrodAll enc Try.prog W 0 (fun _=>true) true Try.f3.params.toList args.toList ds p:=hA0
 rw [Try.params3] at hA hval
 obtain ⟨v0,vs0,d0,ds0,p0,q0,hargs,rfl,rfl,h0,r0⟩:=trodAll_cons hA
 obtain ⟨v1,vs1,d1,ds1,p1,q1,rfl,rfl,rfl,h1,r1⟩:=trodAll_cons r0
 obtain ⟨rfl,rfl,rfl⟩:=trodAll_nil r1
 obtain rfl:args= #[v0,v1]:=by cases args;simp_all
 obtain ⟨rfl,rfl⟩:=trodVars_none hV
 have k0:=h0
 have lt0:∀x∈p0,x.block<W.heap.size:=by obtain ⟨m,hm⟩:=k0;exact DataW.trod_lt m _ _ _ hm
 obtain ⟨a0,b6A,b6B,rfl⟩:=okWide_slice Try.underlying22 (hval 0 22 v0 rfl rfl)
 obtain ⟨fu0,hf0⟩:=h0
 obtain ⟨x0,hK0,gg0⟩:=(RB).2 enc W true fu0 _ _ hf0
 obtain ⟨A0,c0,e0,hc0,fy⟩:=hK0
 obtain ⟨rfl,rfl,rfl⟩:a0=A0/\b6A=x0.length/\b6B=c0:=by simpa [Value.cells] using e0
 have k1:=h1
 have lt1:∀x∈p1,x.block<W.heap.size:=by obtain ⟨m,hm⟩:=k1;exact DataW.trod_lt m _ _ _ hm
 obtain ⟨a1,b6C,b6D,rfl⟩:=okWide_slice Try.underlying23 (hval 1 23 v1 rfl rfl)
 obtain ⟨fu1,nY⟩:=h1
 obtain ⟨x1,hK1,gg1⟩:=(a5z).2 enc W true fu1 _ _ nY
 obtain ⟨A1,c1,e1,hc1,hr1⟩:=hK1
 obtain ⟨rfl,rfl,rfl⟩:a1=A1/\b6C=x1.length/\b6D=c1:=by simpa [Value.cells] using e1
 clear hA0 a3n
 refine (Go.Proofs.Ytnhknojfpjheoaa.PT.Yh (w:=W) (A0:=_) (c0:=_) (l0:=x0) (A1:=_) (c1:=_) (l1:=x1) (fy:=fy) (hc0:=hc0) (hr1:=hr1) (hc1:=hc1) gg0 gg1).mono fun e W' ⟨he,kE⟩=>?_
 subst he
 exact ⟨_,rfl,_,_,_,[],_,[],hW',trodAll_mk1 (shut_bool Try.underlying4 _),(trodAll_cons_mk (Below.trod laidOut (by kernel_rfl) (of_decide_eq_true (by kernel_rfl)) k0 kE lt0) (trodAll_cons_mk (Below.trod laidOut (by kernel_rfl) (of_decide_eq_true (by kernel_rfl)) k1 kE lt1) trodAll_mk0)),rfl,kE.frame _,fun h=>by cases h⟩
theorem over:Rows.fnExactCoverOfRow.holds Try.pinned (OpenSpec.ofChange Rows.fnExactCoverOfSpec):=
 OpenClaim.holds_of_wide 3 Try.f3 rfl rfl rfl rfl rfl rfl rfl ⟨rfl,rfl,rfl,rfl,rfl⟩ rfl rfl rfl rfl rfl (by kernel_rfl) Try.func3 (by kernel_rfl)
  (of_decide_eq_true (by kernel_rfl)) (by unfold Func.isWrapper;first|(rw [if_pos (by decide+kernel)];kernel_rfl)|(rw [if_neg (by decide+kernel)];exact ⟨rfl,rfl⟩))
  (fun os started H enc _=>lifted os started H enc)
theorem proved:Rows.FnExactCoverOfSaid:=over
#print axioms proved
end Go.Proofs.Ytnhknojfpjheoaa.fnExactCoverOf
