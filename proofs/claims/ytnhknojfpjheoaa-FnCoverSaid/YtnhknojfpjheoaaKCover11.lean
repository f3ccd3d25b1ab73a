/-
  Part 11 of the proof of this: The law FnCover answers true at every argument.
-/
import Derived.Test.YtnhknojfpjheoaaKCover2
import Derived.Test.YtnhknojfpjheoaaKCover6
import Derived.Test.YtnhknojfpjheoaaKCover9
import Derived.Test.YtnhknojfpjheoaaKCover10
namespace Go.Proofs.Ytnhknojfpjheoaa.PT
open Go.RowKit Go.Proofs.Ytnhknojfpjheoaa.P Go.Proofs.YtnhknojfpjheoaaW.PrintWords Go.Proofs.YtnhknojfpjheoaaW.PrintLast Go.Proofs.Ytnhknojfpjheoaa.EvKit Go.Proofs.Ytnhknojfpjheoaa.Num Go.Proofs.Ytnhknojfpjheoaa.Lp
set_option linter.all false
theorem YL {w:World} {B m N K:Nat} {T:bw} {cs:Array Value} (h:w.heap[B]? =some (.cells cs 62 (0,0))) (hR:gD cs m N K T):ug w B m N K T:=⟨cs,h,hR⟩
set_option maxHeartbeats 2000000 in
set_option maxRecDepth 100000 in
theorem Ns (D C L m N K:Nat) (T0:bw) (Inv:bw->Prop) (cs:Array Value) (w:World) (hR:gD cs m N K T0) (hcd:C*D+C*D<=1000000) (IK:Road D C L m N K (fun T T'=>Nonempty (DStep m N K T T')) Inv T0) (a4x:∀T,Inv T->∀r,r<m->T.cell r N<0->∃c,c<N/\T.cell r c<0):
 Calls Try.prog 34 #[.agg cs] w fun e w'=>∃cs' T,e= .returned (.agg cs')/\gD cs' m N K T/\Inv T/\(∀r,r<m->¬T.cell r N<0)/\Below w.heap.size w w':=by
 have hu:=Try.underlying62
 have HR:=Aside0.mk hR
 have sH:=Aside0.mk IK
 have HFe:=Aside0.mk a4x
 have HCD:=Aside0.mk hcd
 clear hR IK a4x hcd
 go_enter Try.func34,Try.ntmps34
 go_wp2
 have pE:Aside0 (((w.alloc (.cells cs 62)).alloc (.cells Try.zeroCells62 62)).heap[w.heap.size]? =some (.cells cs 62 (0,0))):=⟨aq (bW w _) _⟩
 have Qg:Aside0 (((w.alloc (.cells cs 62)).alloc (.cells Try.zeroCells62 62)).heap[w.heap.size+1]? =some (.cells Try.zeroCells62 62 (0,0))):=⟨by have:=bW (w.alloc (.cells cs 62)) (.cells Try.zeroCells62 62);rw [kL] at this;exact this⟩
 have jo:Aside0 (Below w.heap.size w ((w.alloc (.cells cs 62)).alloc (.cells Try.zeroCells62 62))):=⟨aK (aK (Below.refl _ _) _) _⟩
 go_loopg [3] L (fun G s3 wr=>∃(n:Nat) (T:bw) (cs1:Array Value),L - n<=G/\Aside0 (Reach (fun T T'=>Nonempty (DStep m N K T T')) T0 n T)/\Aside0 (Inv T)/\Aside0 (gD cs1 m N K T)/\Aside0 (wr.heap[w.heap.size]? =some (.cells cs1 62 (0,0)))/\Aside0 (wr.heap[w.heap.size+1]? =some (.cells Try.zeroCells62 62 (0,0)))/\Aside0 (Below w.heap.size w wr))
 case atStart=>exact ⟨0,T0,cs,by omega,⟨Reach.zero _ _⟩,⟨sH.out.start⟩,HR,pE,Qg,jo⟩
 case round=>
  clear pE Qg jo HR
  obtain ⟨n,T,cs1,hG,xY,yu,HR,HA,eV,bL⟩:=hrel
  have HnL:=Aside0.mk (sH.out.few xY.out)
  have HF:=Aside0.mk (sH.out.fine T yu.out)
  have h0r:=bz HA.out HR.out.rows
  go_wp2
  clear h0r
  go_loopw [3,9] (fun bv iv wr=>∃(x:Int) (i:Nat),bv= .int .i64 x/\iv= .int .i64 (i:Int)/\i<=m/\Aside0 (Vb T N i x)/\Aside0 (wr.heap[w.heap.size]? =some (.cells cs1 62 (0,0)))/\Aside0 (wr.heap[w.heap.size+1]? =some (.cells Try.zeroCells62 62 (0,0)))/\Aside0 (Below w.heap.size w wr)) (fun _ iv _=>m -(intOf iv).toNat)
  case atStart=>exact ⟨-1,0,rfl,rfl,Nat.zero_le _,⟨.inl ⟨rfl,fun j hj=>by omega⟩⟩,HA,eV,bL⟩
  case round=>
   clear HA eV bL
   obtain ⟨x,i,rfl,rfl,wY,mg,HA,eV,bL⟩:=hrel
   by_cases hi:i<m
   ·have EO:=Aside0.mk hi
    have SS:i<m+K:=by omega
    have b0:(0:Int)<=(i:Int):=by omega
    have b1:(i:Int)<16:=by have:=HR.out.hm;omega
    have b2:(0:Int)<=(N:Int):=by omega
    have b3:(N:Int)<16:=by have:=HR.out.hN;omega
    have nt:Aside0 (wrap64 ((i:Int)+1)=((i+1:Nat):Int)):=⟨eD (by have:=HR.out.hm;omega)⟩
    have hm:=zq
    have jc:=Aside0.mk (fun W=>wV (T.cell i N) W)
    have g4:decide ((i:Int)<(m:Int))=true:=decide_eq_true (by omega)
    have EM:decide (i<m)=true:=decide_eq_true hi
    by_cases hp:T.cell i N<0
    ·have hz:jC (T.cell i N)<0:=of_decide_eq_true (by rw [zv];exact decide_eq_true hp)
     have HP:=Aside0.mk hp
     obtain ⟨z,hz'⟩:∃z,z=jC (T.cell i N):=⟨_,rfl⟩
     rw [<-hz'] at hz jc
     have g5:decide (z<0)=true:=decide_eq_true hz
     have xT:Aside0 (Vb T N (i+1) (i:Int)):=⟨.inr ⟨i,rfl,by omega,hp⟩⟩
     clear hz hz' hp hi
     by_cases hx:x= -1
     ·subst hx
      have g6:decide ((-1:Int)<0)=true:=rfl
      have HS:Aside0 (∀w':World,w'.heap[w.heap.size]? =some (.cells cs1 62 (0,0))->w'.cell? ⟨w.heap.size,529,none⟩=some (.int .i64 (N:Int))/\w'.cell? ⟨w.heap.size,i*32+N*2,none⟩=some (.int .i64 (T.cell i N).num)/\w'.cell? ⟨w.heap.size,i*32+N*2+1,none⟩=some (.int .i64 ((T.cell i N).den:Int))):=⟨fun w' h=>⟨bz h HR.out.ni,bz h (HR.out.num i N SS (Nat.le_refl _)),bz h (HR.out.den i N SS (Nat.le_refl _))⟩⟩
      skip
      go_wp2
      refine eG (n:=25) (S:=fun w'=>w'.cell? ⟨w.heap.size,529,none⟩=some (.int .i64 (N:Int))/\w'.cell? ⟨w.heap.size,i*32+N*2,none⟩=some (.int .i64 (T.cell i N).num)/\w'.cell? ⟨w.heap.size,i*32+N*2+1,none⟩=some (.int .i64 ((T.cell i N).den:Int))) (ds:=[]) #[false,false,false,false,false,false,false,false,false,false,false,false,false,false,false,false,false,false,false,false,false,false,false,false,false] (by kernel_rfl) rfl rfl (HS.out _ (ak HA.out)) (fun hHeld=>?_)
      refine aI (i:=0) (N:=some 12) ?_
      refine aI (i:=1) (N:=some 13) ?_
      refine cE (i:=2) (N:=some 14) (v:=?_) (a':=?_) #[true,true,true,false,false,false,false,false,false,false,false,false,false,false,false,false,false,false,false,false,false,false,false,false,false] rfl rfl (by kernel_rfl) (fun _ _ _ h=>h) (Or.inl ⟨by rfl,?_⟩) hHeld ?_ ?_
      rotate_left
      ·rintro w' ⟨s0,s1,s2⟩
       go_simp
       with_reducible rfl
      rotate_left
      ·exact dx
      refine aI (i:=3) (N:=some 15) ?_
      refine aI (i:=4) (N:=some 16) ?_
      refine aI (i:=5) (N:=some 17) ?_
      refine cE (i:=6) (N:=some 18) (v:=?_) (a':=?_) #[true,true,true,true,true,true,true,false,false,false,false,false,false,false,false,false,false,false,false,false,false,false,false,false,false] rfl rfl (by kernel_rfl) (fun _ _ _ h=>h) (Or.inl ⟨by rfl,?_⟩) hHeld ?_ ?_
      rotate_left
      ·rintro w' ⟨s0,s1,s2⟩
       go_simp
       with_reducible rfl
      rotate_left
      ·exact dx
      refine aI (i:=7) (N:=some 19) ?_
      refine fK (i:=8) (N:=some 20) #[true,true,true,true,true,true,true,true,true,false,false,false,false,false,false,false,false,false,false,false,false,false,false,false,false] rfl rfl (by kernel_rfl) (by decide) (fun K hK=>?_)
      refine pY 87 #[V (T.cell i N)] (by rfl) rfl ?_ ?_
      ·go_simp
      refine (jc.out _).mono ?_
      rintro e w1 ⟨rfl,hb1⟩
      have kD:=ai (bn (Below.refl wr.heap.size wr)) hb1
      have fW:=Aside0.mk (ah HA.out kD)
      have gh:=Aside0.mk (ah eV.out kD)
      have fG:=Aside0.mk (ai bL.out kD)
      clear hb1 kD
      refine ⟨_,rfl,?_⟩
      refine hK.out _ _ (HS.out _ fW.out) (fun hHeld=>?_)
      clear hK K
      refine eP (a':=?_) ?_ ?_
      rotate_left
      ·show Act.put _ (some 20) _=_
       simp only [Act.put,List.setIfInBounds_toArray,List.set_cons_zero,List.set_cons_succ,cZ,eo]
       rfl
      refine aI (i:=9) (N:=some 21) ?_
      refine aI (i:=10) (N:=some 22) ?_
      refine aI (i:=11) (N:=some 23) ?_
      refine aI (i:=12) (N:=some 24) ?_
      refine aI (i:=13) (N:=some 25) ?_
      refine ij (i:=14) (N:=some 26) ?_
      refine ij (i:=15) (N:=some 27) ?_
      refine ij (i:=16) (N:=some 28) ?_
      refine ij (i:=17) (N:=some 29) ?_
      refine ij (i:=18) (N:=some 30) ?_
      refine ij (i:=19) (N:=some 31) ?_
      refine ij (i:=20) (N:=some 32) ?_
      refine ij (i:=21) (N:=some 33) ?_
      refine ij (i:=22) (N:=some 34) ?_
      refine aI (i:=23) (N:=some 35) ?_
      refine aI (i:=24) (N:=some 36) ?_
      refine fl (by kernel_rfl) ?_
      clear hHeld
      go_wp2
      go_roundw
      case rel=>exact ⟨(i:Int),i+1,rfl,by first|(rw [nt.out];done)|rfl|(simp;done),EO.out,xT,fW,gh,fG⟩
      case measure=>(try rw [nt.out]);have:=EO.out;simp [intOf];omega
     ·obtain ⟨b,rfl,hbr,sS⟩:∃b:Nat,x=b/\b<i/\T.cell b N<0:=by
       rcases mg.out with ⟨e,_⟩|h
       ·exact absurd e hx
       ·exact h
      have g6:decide ((b:Int)<0)=false:=decide_eq_false (by omega)
      have b4:(0:Int)<=(b:Int):=by omega
      have b5:(b:Int)<16:=by have:=HR.out.hm;omega
      obtain ⟨xi,IM⟩:∃xi,xi=(T.basis i:Int):=⟨_,rfl⟩
      obtain ⟨xb,hxb⟩:∃xb,xb=(T.basis b:Int):=⟨_,rfl⟩
      have Mi:Aside0 (Vb T N (i+1) (b:Int)):=⟨.inr ⟨b,rfl,by omega,sS⟩⟩
      have HS:Aside0 (∀w':World,w'.heap[w.heap.size]? =some (.cells cs1 62 (0,0))->w'.cell? ⟨w.heap.size,529,none⟩=some (.int .i64 (N:Int))/\w'.cell? ⟨w.heap.size,i*32+N*2,none⟩=some (.int .i64 (T.cell i N).num)/\w'.cell? ⟨w.heap.size,i*32+N*2+1,none⟩=some (.int .i64 ((T.cell i N).den:Int))/\w'.cell? ⟨w.heap.size,512+i,none⟩=some (.int .i64 xi)/\w'.cell? ⟨w.heap.size,512+b,none⟩=some (.int .i64 xb)):=⟨fun w' h=>⟨bz h HR.out.ni,bz h (HR.out.num i N SS (Nat.le_refl _)),bz h (HR.out.den i N SS (Nat.le_refl _)),by rw [IM];exact bz h (HR.out.fc i EO.out),by rw [hxb];exact bz h (HR.out.fc b (by have:=EO.out;omega))⟩⟩
      by_cases xm:xi<xb
      ·have g7:decide (xi<xb)=true:=decide_eq_true xm
       clear hx IM hxb xm sS
       go_wp2
       refine eG (n:=25) (S:=fun w'=>w'.cell? ⟨w.heap.size,529,none⟩=some (.int .i64 (N:Int))/\w'.cell? ⟨w.heap.size,i*32+N*2,none⟩=some (.int .i64 (T.cell i N).num)/\w'.cell? ⟨w.heap.size,i*32+N*2+1,none⟩=some (.int .i64 ((T.cell i N).den:Int))/\w'.cell? ⟨w.heap.size,512+i,none⟩=some (.int .i64 xi)/\w'.cell? ⟨w.heap.size,512+b,none⟩=some (.int .i64 xb)) (ds:=[]) #[false,false,false,false,false,false,false,false,false,false,false,false,false,false,false,false,false,false,false,false,false,false,false,false,false] (by kernel_rfl) rfl rfl (HS.out _ (ak HA.out)) (fun hHeld=>?_)
       refine aI (i:=0) (N:=some 12) ?_
       refine aI (i:=1) (N:=some 13) ?_
       refine cE (i:=2) (N:=some 14) (v:=?_) (a':=?_) #[true,true,true,false,false,false,false,false,false,false,false,false,false,false,false,false,false,false,false,false,false,false,false,false,false] rfl rfl (by kernel_rfl) (fun _ _ _ h=>h) (Or.inl ⟨by rfl,?_⟩) hHeld ?_ ?_
       rotate_left
       ·rintro w' ⟨s0,s1,s2,s3,s4⟩
        go_simp
        with_reducible rfl
       rotate_left
       ·exact dx
       refine aI (i:=3) (N:=some 15) ?_
       refine aI (i:=4) (N:=some 16) ?_
       refine aI (i:=5) (N:=some 17) ?_
       refine cE (i:=6) (N:=some 18) (v:=?_) (a':=?_) #[true,true,true,true,true,true,true,false,false,false,false,false,false,false,false,false,false,false,false,false,false,false,false,false,false] rfl rfl (by kernel_rfl) (fun _ _ _ h=>h) (Or.inl ⟨by rfl,?_⟩) hHeld ?_ ?_
       rotate_left
       ·rintro w' ⟨s0,s1,s2,s3,s4⟩
        go_simp
        with_reducible rfl
       rotate_left
       ·exact dx
       refine aI (i:=7) (N:=some 19) ?_
       refine fK (i:=8) (N:=some 20) #[true,true,true,true,true,true,true,true,true,false,false,false,false,false,false,false,false,false,false,false,false,false,false,false,false] rfl rfl (by kernel_rfl) (by decide) (fun K hK=>?_)
       refine pY 87 #[V (T.cell i N)] (by rfl) rfl ?_ ?_
       ·go_simp
       refine (jc.out _).mono ?_
       rintro e w1 ⟨rfl,hb1⟩
       have kD:=ai (bn (Below.refl wr.heap.size wr)) hb1
       have fW:=Aside0.mk (ah HA.out kD)
       have gh:=Aside0.mk (ah eV.out kD)
       have fG:=Aside0.mk (ai bL.out kD)
       clear hb1 kD
       refine ⟨_,rfl,?_⟩
       refine hK.out _ _ (HS.out _ fW.out) (fun hHeld=>?_)
       clear hK K
       refine eP (a':=?_) ?_ ?_
       rotate_left
       ·show Act.put _ (some 20) _=_
        simp only [Act.put,List.setIfInBounds_toArray,List.set_cons_zero,List.set_cons_succ,cZ,eo]
        rfl
       refine aI (i:=9) (N:=some 21) ?_
       refine aI (i:=10) (N:=some 22) ?_
       refine aI (i:=11) (N:=some 23) ?_
       refine aI (i:=12) (N:=some 24) ?_
       refine aI (i:=13) (N:=some 25) ?_
       refine aI (i:=14) (N:=some 26) ?_
       refine aI (i:=15) (N:=some 27) ?_
       refine aI (i:=16) (N:=some 28) ?_
       refine cE (i:=17) (N:=some 29) (v:=?_) (a':=?_) #[true,true,true,true,true,true,true,true,true,true,true,true,true,true,true,true,true,true,false,false,false,false,false,false,false] rfl rfl (by kernel_rfl) (fun _ _ _ h=>h) (Or.inl ⟨by rfl,?_⟩) hHeld ?_ ?_
       rotate_left
       ·rintro w' ⟨s0,s1,s2,s3,s4⟩
        go_simp
        with_reducible rfl
       rotate_left
       ·exact dx
       refine aI (i:=18) (N:=some 30) ?_
       refine aI (i:=19) (N:=some 31) ?_
       refine aI (i:=20) (N:=some 32) ?_
       refine cE (i:=21) (N:=some 33) (v:=?_) (a':=?_) #[true,true,true,true,true,true,true,true,true,true,true,true,true,true,true,true,true,true,true,true,true,true,false,false,false] rfl rfl (by kernel_rfl) (fun _ _ _ h=>h) (Or.inl ⟨by rfl,?_⟩) hHeld ?_ ?_
       rotate_left
       ·rintro w' ⟨s0,s1,s2,s3,s4⟩
        go_simp
        with_reducible rfl
       rotate_left
       ·exact dx
       refine aI (i:=22) (N:=some 34) ?_
       refine aI (i:=23) (N:=some 35) ?_
       refine aI (i:=24) (N:=some 36) ?_
       refine fl (by kernel_rfl) ?_
       clear hHeld
       go_wp2
       go_roundw
       case rel=>exact ⟨(i:Int),i+1,rfl,by first|(rw [nt.out];done)|rfl|(simp;done),EO.out,xT,fW,gh,fG⟩
       case measure=>(try rw [nt.out]);have:=EO.out;simp [intOf];omega
      ·have g7:decide (xi<xb)=false:=decide_eq_false xm
       clear hx IM hxb xm sS
       go_wp2
       refine eG (n:=25) (S:=fun w'=>w'.cell? ⟨w.heap.size,529,none⟩=some (.int .i64 (N:Int))/\w'.cell? ⟨w.heap.size,i*32+N*2,none⟩=some (.int .i64 (T.cell i N).num)/\w'.cell? ⟨w.heap.size,i*32+N*2+1,none⟩=some (.int .i64 ((T.cell i N).den:Int))/\w'.cell? ⟨w.heap.size,512+i,none⟩=some (.int .i64 xi)/\w'.cell? ⟨w.heap.size,512+b,none⟩=some (.int .i64 xb)) (ds:=[]) #[false,false,false,false,false,false,false,false,false,false,false,false,false,false,false,false,false,false,false,false,false,false,false,false,false] (by kernel_rfl) rfl rfl (HS.out _ (ak HA.out)) (fun hHeld=>?_)
       refine aI (i:=0) (N:=some 12) ?_
       refine aI (i:=1) (N:=some 13) ?_
       refine cE (i:=2) (N:=some 14) (v:=?_) (a':=?_) #[true,true,true,false,false,false,false,false,false,false,false,false,false,false,false,false,false,false,false,false,false,false,false,false,false] rfl rfl (by kernel_rfl) (fun _ _ _ h=>h) (Or.inl ⟨by rfl,?_⟩) hHeld ?_ ?_
       rotate_left
       ·rintro w' ⟨s0,s1,s2,s3,s4⟩
        go_simp
        with_reducible rfl
       rotate_left
       ·exact dx
       refine aI (i:=3) (N:=some 15) ?_
       refine aI (i:=4) (N:=some 16) ?_
       refine aI (i:=5) (N:=some 17) ?_
       refine cE (i:=6) (N:=some 18) (v:=?_) (a':=?_) #[true,true,true,true,true,true,true,false,false,false,false,false,false,false,false,false,false,false,false,false,false,false,false,false,false] rfl rfl (by kernel_rfl) (fun _ _ _ h=>h) (Or.inl ⟨by rfl,?_⟩) hHeld ?_ ?_
       rotate_left
       ·rintro w' ⟨s0,s1,s2,s3,s4⟩
        go_simp
        with_reducible rfl
       rotate_left
       ·exact dx
       refine aI (i:=7) (N:=some 19) ?_
       refine fK (i:=8) (N:=some 20) #[true,true,true,true,true,true,true,true,true,false,false,false,false,false,false,false,false,false,false,false,false,false,false,false,false] rfl rfl (by kernel_rfl) (by decide) (fun K hK=>?_)
       refine pY 87 #[V (T.cell i N)] (by rfl) rfl ?_ ?_
       ·go_simp
       refine (jc.out _).mono ?_
       rintro e w1 ⟨rfl,hb1⟩
       have kD:=ai (bn (Below.refl wr.heap.size wr)) hb1
       have fW:=Aside0.mk (ah HA.out kD)
       have gh:=Aside0.mk (ah eV.out kD)
       have fG:=Aside0.mk (ai bL.out kD)
       clear hb1 kD
       refine ⟨_,rfl,?_⟩
       refine hK.out _ _ (HS.out _ fW.out) (fun hHeld=>?_)
       clear hK K
       refine eP (a':=?_) ?_ ?_
       rotate_left
       ·show Act.put _ (some 20) _=_
        simp only [Act.put,List.setIfInBounds_toArray,List.set_cons_zero,List.set_cons_succ,cZ,eo]
        rfl
       refine aI (i:=9) (N:=some 21) ?_
       refine aI (i:=10) (N:=some 22) ?_
       refine aI (i:=11) (N:=some 23) ?_
       refine aI (i:=12) (N:=some 24) ?_
       refine aI (i:=13) (N:=some 25) ?_
       refine aI (i:=14) (N:=some 26) ?_
       refine aI (i:=15) (N:=some 27) ?_
       refine aI (i:=16) (N:=some 28) ?_
       refine cE (i:=17) (N:=some 29) (v:=?_) (a':=?_) #[true,true,true,true,true,true,true,true,true,true,true,true,true,true,true,true,true,true,false,false,false,false,false,false,false] rfl rfl (by kernel_rfl) (fun _ _ _ h=>h) (Or.inl ⟨by rfl,?_⟩) hHeld ?_ ?_
       rotate_left
       ·rintro w' ⟨s0,s1,s2,s3,s4⟩
        go_simp
        with_reducible rfl
       rotate_left
       ·exact dx
       refine aI (i:=18) (N:=some 30) ?_
       refine aI (i:=19) (N:=some 31) ?_
       refine aI (i:=20) (N:=some 32) ?_
       refine cE (i:=21) (N:=some 33) (v:=?_) (a':=?_) #[true,true,true,true,true,true,true,true,true,true,true,true,true,true,true,true,true,true,true,true,true,true,false,false,false] rfl rfl (by kernel_rfl) (fun _ _ _ h=>h) (Or.inl ⟨by rfl,?_⟩) hHeld ?_ ?_
       rotate_left
       ·rintro w' ⟨s0,s1,s2,s3,s4⟩
        go_simp
        with_reducible rfl
       rotate_left
       ·exact dx
       refine aI (i:=22) (N:=some 34) ?_
       refine aI (i:=23) (N:=some 35) ?_
       refine aI (i:=24) (N:=some 36) ?_
       refine fl (by kernel_rfl) ?_
       clear hHeld
       go_wp2
       go_roundw
       case rel=>exact ⟨(b:Int),i+1,rfl,by first|(rw [nt.out];done)|rfl|(simp;done),EO.out,Mi,fW,gh,fG⟩
       case measure=>(try rw [nt.out]);have:=EO.out;simp [intOf];omega
    ·have hz:¬jC (T.cell i N)<0:=fun h=>hp (of_decide_eq_true (by rw [<-zv];exact decide_eq_true h))
     obtain ⟨z,hz'⟩:∃z,z=jC (T.cell i N):=⟨_,rfl⟩
     rw [<-hz'] at hz jc
     have g5:decide (z<0)=false:=decide_eq_false hz
     have xT:Aside0 (Vb T N (i+1) x):=⟨by
      rcases mg.out with ⟨e,h⟩|⟨b,e,h1,h2⟩
      ·refine .inl ⟨e,fun j hj=>?_⟩
       by_cases e2:j=i
       ·rw [e2];exact hp
       ·exact h j (by omega)
      ·exact .inr ⟨b,e,by omega,h2⟩⟩
     have HS:Aside0 (∀w':World,w'.heap[w.heap.size]? =some (.cells cs1 62 (0,0))->w'.cell? ⟨w.heap.size,529,none⟩=some (.int .i64 (N:Int))/\w'.cell? ⟨w.heap.size,i*32+N*2,none⟩=some (.int .i64 (T.cell i N).num)/\w'.cell? ⟨w.heap.size,i*32+N*2+1,none⟩=some (.int .i64 ((T.cell i N).den:Int))):=⟨fun w' h=>⟨bz h HR.out.ni,bz h (HR.out.num i N SS (Nat.le_refl _)),bz h (HR.out.den i N SS (Nat.le_refl _))⟩⟩
     skip
     clear hz hz' hp hi
     go_wp2
     refine eG (n:=25) (S:=fun w'=>w'.cell? ⟨w.heap.size,529,none⟩=some (.int .i64 (N:Int))/\w'.cell? ⟨w.heap.size,i*32+N*2,none⟩=some (.int .i64 (T.cell i N).num)/\w'.cell? ⟨w.heap.size,i*32+N*2+1,none⟩=some (.int .i64 ((T.cell i N).den:Int))) (ds:=[]) #[false,false,false,false,false,false,false,false,false,false,false,false,false,false,false,false,false,false,false,false,false,false,false,false,false] (by kernel_rfl) rfl rfl (HS.out _ (ak HA.out)) (fun hHeld=>?_)
     refine aI (i:=0) (N:=some 12) ?_
     refine aI (i:=1) (N:=some 13) ?_
     refine cE (i:=2) (N:=some 14) (v:=?_) (a':=?_) #[true,true,true,false,false,false,false,false,false,false,false,false,false,false,false,false,false,false,false,false,false,false,false,false,false] rfl rfl (by kernel_rfl) (fun _ _ _ h=>h) (Or.inl ⟨by rfl,?_⟩) hHeld ?_ ?_
     rotate_left
     ·rintro w' ⟨s0,s1,s2⟩
      go_simp
      with_reducible rfl
     rotate_left
     ·exact dx
     refine aI (i:=3) (N:=some 15) ?_
     refine aI (i:=4) (N:=some 16) ?_
     refine aI (i:=5) (N:=some 17) ?_
     refine cE (i:=6) (N:=some 18) (v:=?_) (a':=?_) #[true,true,true,true,true,true,true,false,false,false,false,false,false,false,false,false,false,false,false,false,false,false,false,false,false] rfl rfl (by kernel_rfl) (fun _ _ _ h=>h) (Or.inl ⟨by rfl,?_⟩) hHeld ?_ ?_
     rotate_left
     ·rintro w' ⟨s0,s1,s2⟩
      go_simp
      with_reducible rfl
     rotate_left
     ·exact dx
     refine aI (i:=7) (N:=some 19) ?_
     refine fK (i:=8) (N:=some 20) #[true,true,true,true,true,true,true,true,true,false,false,false,false,false,false,false,false,false,false,false,false,false,false,false,false] rfl rfl (by kernel_rfl) (by decide) (fun K hK=>?_)
     refine pY 87 #[V (T.cell i N)] (by rfl) rfl ?_ ?_
     ·go_simp
     refine (jc.out _).mono ?_
     rintro e w1 ⟨rfl,hb1⟩
     have kD:=ai (bn (Below.refl wr.heap.size wr)) hb1
     have fW:=Aside0.mk (ah HA.out kD)
     have gh:=Aside0.mk (ah eV.out kD)
     have fG:=Aside0.mk (ai bL.out kD)
     clear hb1 kD
     refine ⟨_,rfl,?_⟩
     refine hK.out _ _ (HS.out _ fW.out) (fun hHeld=>?_)
     clear hK K
     refine eP (a':=?_) ?_ ?_
     rotate_left
     ·show Act.put _ (some 20) _=_
      simp only [Act.put,List.setIfInBounds_toArray,List.set_cons_zero,List.set_cons_succ,cZ,eo]
      rfl
     refine aI (i:=9) (N:=some 21) ?_
     refine aI (i:=10) (N:=some 22) ?_
     refine ij (i:=11) (N:=some 23) ?_
     refine ij (i:=12) (N:=some 24) ?_
     refine ij (i:=13) (N:=some 25) ?_
     refine ij (i:=14) (N:=some 26) ?_
     refine ij (i:=15) (N:=some 27) ?_
     refine ij (i:=16) (N:=some 28) ?_
     refine ij (i:=17) (N:=some 29) ?_
     refine ij (i:=18) (N:=some 30) ?_
     refine ij (i:=19) (N:=some 31) ?_
     refine ij (i:=20) (N:=some 32) ?_
     refine ij (i:=21) (N:=some 33) ?_
     refine ij (i:=22) (N:=some 34) ?_
     refine ij (i:=23) (N:=some 35) ?_
     refine aI (i:=24) (N:=some 36) ?_
     refine fl (by kernel_rfl) ?_
     clear hHeld
     go_wp2
     go_roundw
     case rel=>exact ⟨x,i+1,rfl,by first|(rw [nt.out];done)|rfl|(simp;done),EO.out,xT,fW,gh,fG⟩
     case measure=>(try rw [nt.out]);have:=EO.out;simp [intOf];omega
   ·have g4:decide ((i:Int)<(m:Int))=false:=decide_eq_false (by omega)
    have EM:decide (i<m)=false:=decide_eq_false hi
    have Lg:i=m:=by omega
    by_cases hx:x= -1
    ·have HQ:Aside0 (∀r,r<m->¬T.cell r N<0):=⟨by
      rcases mg.out with ⟨_,h⟩|⟨b,e,_⟩
      ·rw [<-Lg];exact h
      ·omega⟩
     have g6:decide (x<0)=true:=decide_eq_true (by omega)
     have HI:Aside0 ((Try.prog.info? 62).map (·.size)=some cs1.size):=⟨by rw [HR.out.size];kernel_rfl⟩
     have HZ:Aside0 ((Try.zeroCells62).size=cs1.size):=⟨by rw [HR.out.size];kernel_rfl⟩
     clear hx Lg hi wY
     go_wp2_with (first|((with_reducible refine bk (N:=41) rfl ?_);refine wpList_load_row rfl 62 (.tmp 1) rfl w.heap.size rfl 62 cs1 (0,0) _ HA.out hu (by rfl) HI.out ?_)|((with_reducible refine iX (t:=62) (p:=2) rfl ?_);refine wpList_store_row rfl 62 (.tmp 2) (.tmp 41) rfl (w.heap.size+1) cs1 rfl rfl 62 Try.zeroCells62 eV.out HI.out HZ.out HR.out.one ?_))
     refine bodyPost_ret (results_cell_row rfl _ _ (w.heap.size+1) 62 cs1 (0,0) _ rfl (rE eV.out) hu (by rfl) HI.out) rfl ?_
     exact ⟨cs1,T,rfl,HR.out,yu.out,HQ.out,pM bL.out (by omega)⟩
    ·obtain ⟨r,rfl,hri,Ey⟩:∃b:Nat,x=b/\b<i/\T.cell b N<0:=by
      rcases mg.out with ⟨e,_⟩|h
      ·exact absurd e hx
      ·exact h
     have Mo:r<m:=by omega
     have g6:decide ((r:Int)<0)=false:=decide_eq_false (by omega)
     have h0c:=bz HA.out HR.out.ni
     have HrN:=Aside0.mk Ey
     clear hx Lg hi wY hri Ey
     go_wp2
     clear h0c g4 EM mg
     go_loopw [5,44] (fun bv cv wr=>∃(x:Int) (c:Nat),bv= .int .i64 x/\cv= .int .i64 (c:Int)/\c<=N/\Aside0 (gZ T m K r c x)/\Aside0 (wr.heap[w.heap.size]? =some (.cells cs1 62 (0,0)))/\Aside0 (wr.heap[w.heap.size+1]? =some (.cells Try.zeroCells62 62 (0,0)))/\Aside0 (Below w.heap.size w wr)) (fun _ cv _=>N -(intOf cv).toNat)
     case atStart=>exact ⟨-1,0,rfl,rfl,Nat.zero_le _,⟨gZ.zero _ _ _ _⟩,HA,eV,bL⟩
     case round=>
      clear HA eV bL
      obtain ⟨x,c,rfl,rfl,hcN,MO,HA,eV,bL⟩:=hrel
      by_cases hc:c<N
      ·have vK:=Aside0.mk hc
       have Co:r<m+K:=by omega
       have h1:=bz HA.out (HR.out.num r c Co (Nat.le_of_lt hc))
       have h2:=bz HA.out (HR.out.den r c Co (Nat.le_of_lt hc))
       have b0:(0:Int)<=(r:Int):=by omega
       have b1:(r:Int)<16:=by have:=HR.out.hm;omega
       have b2:(0:Int)<=(c:Int):=by omega
       have b3:(c:Int)<16:=by have:=HR.out.hN;omega
       have xU:Aside0 (wrap64 ((c:Int)+1)=((c+1:Nat):Int)):=⟨eD (by have:=HR.out.hN;omega)⟩
       have hm:=zq
       have jc:=Aside0.mk (fun W=>wV (T.cell r c) W)
       have g4:decide ((c:Int)<(N:Int))=true:=decide_eq_true (by omega)
       have EM:decide (c<N)=true:=decide_eq_true hc
       by_cases hp:T.cell r c<0
       ·have hz:jC (T.cell r c)<0:=of_decide_eq_true (by rw [zv];exact decide_eq_true hp)
        obtain ⟨z,hz'⟩:∃z,z=jC (T.cell r c):=⟨_,rfl⟩
        rw [<-hz'] at hz jc
        have g5:decide (z<0)=true:=decide_eq_true hz
        by_cases hx:x= -1
        ·have g7:decide (x<0)=true:=decide_eq_true (by omega)
         have Gg:Aside0 (gZ T m K r (c+1) (c:Int)):=⟨gZ.first (hx ▸ MO.out) hp⟩
         clear hz hz' hp hc hx
         go_wp2_with (first|(go_at_call 87;(with_reducible refine (jc.out _).mono ?_);rintro e w1 ⟨rfl,hb1⟩;have fW:=Aside0.mk (ah HA.out hb1);have gh:=Aside0.mk (ah eV.out hb1);have fG:=Aside0.mk (ai bL.out hb1);clear hb1))
         go_roundw
         case rel=>exact ⟨c,c+1,rfl,by first|(rw [xU.out];done)|rfl|(simp;done),vK.out,Gg,fW,gh,fG⟩
         case measure=>(try rw [xU.out]);have:=vK.out;simp [intOf];omega
        ·obtain ⟨b,rfl,hbc,sS⟩:=MO.out.index hx
         have g7:decide ((b:Int)<0)=false:=decide_eq_false (by omega)
         have CF:T.cell r c≠0:=fun h0=>by rw [h0] at hp;grind
         have CG:T.cell r b≠0:=fun h0=>by rw [h0] at sS;grind
         have YM:=Aside0.mk (fun W (h:ug W w.heap.size m N K T)=>Py D C w.heap.size m N K r c b T W h HF.out HCD.out Mo hc (by omega) CF CG)
         generalize hy:kT T m r c b 0 K=y at YM
         cases y with
         |true=>
          have Gg:Aside0 (gZ T m K r (c+1) (c:Int)):=⟨gZ.take MO.out hp hy⟩
          clear hz hz' hp hc hx CF CG sS hy
          go_wp2_with (first|(go_at_call 87;(with_reducible refine (jc.out _).mono ?_);rintro e w1 ⟨rfl,hb1⟩;have fW:=Aside0.mk (ah HA.out hb1);have gh:=Aside0.mk (ah eV.out hb1);have fG:=Aside0.mk (ai bL.out hb1);clear hb1)|(go_at_call 56;(with_reducible refine (YM.out _ (YL fW.out HR.out)).mono ?_);rintro e w2 ⟨rfl,hb2⟩;have iA:=Aside0.mk (ah fW.out hb2);have qz:=Aside0.mk (ah gh.out hb2);have CH:=Aside0.mk (ai fG.out hb2);clear hb2))
          go_roundw
          case rel=>exact ⟨c,c+1,rfl,by first|(rw [xU.out];done)|rfl|(simp;done),vK.out,Gg,iA,qz,CH⟩
          case measure=>(try rw [xU.out]);have:=vK.out;simp [intOf];omega
         |false=>
          have Gg:Aside0 (gZ T m K r (c+1) (b:Int)):=⟨gZ.keep MO.out hy⟩
          clear hz hz' hp hc hx CF CG sS hy
          go_wp2_with (first|(go_at_call 87;(with_reducible refine (jc.out _).mono ?_);rintro e w1 ⟨rfl,hb1⟩;have fW:=Aside0.mk (ah HA.out hb1);have gh:=Aside0.mk (ah eV.out hb1);have fG:=Aside0.mk (ai bL.out hb1);clear hb1)|(go_at_call 56;(with_reducible refine (YM.out _ (YL fW.out HR.out)).mono ?_);rintro e w2 ⟨rfl,hb2⟩;have iA:=Aside0.mk (ah fW.out hb2);have qz:=Aside0.mk (ah gh.out hb2);have CH:=Aside0.mk (ai fG.out hb2);clear hb2))
          go_roundw
          case rel=>exact ⟨b,c+1,rfl,by first|(rw [xU.out];done)|rfl|(simp;done),vK.out,Gg,iA,qz,CH⟩
          case measure=>(try rw [xU.out]);have:=vK.out;simp [intOf];omega
       ·have hz:¬jC (T.cell r c)<0:=fun h=>hp (of_decide_eq_true (by rw [<-zv];exact decide_eq_true h))
        obtain ⟨z,hz'⟩:∃z,z=jC (T.cell r c):=⟨_,rfl⟩
        rw [<-hz'] at hz jc
        have g5:decide (z<0)=false:=decide_eq_false hz
        have Gg:=Aside0.mk (MO.out.skip hp)
        clear hz hz' hp hc
        go_wp2_with (first|(go_at_call 87;(with_reducible refine (jc.out _).mono ?_);rintro e w1 ⟨rfl,hb1⟩;have fW:=Aside0.mk (ah HA.out hb1);have gh:=Aside0.mk (ah eV.out hb1);have fG:=Aside0.mk (ai bL.out hb1);clear hb1))
        go_roundw
        case rel=>exact ⟨x,c+1,rfl,by first|(rw [xU.out];done)|rfl|(simp;done),vK.out,Gg,fW,gh,fG⟩
        case measure=>(try rw [xU.out]);have:=vK.out;simp [intOf];omega
      ·have g4:decide ((c:Int)<(N:Int))=false:=decide_eq_false (by omega)
       have EM:decide (c<N)=false:=decide_eq_false hc
       have vw:c=N:=by omega
       obtain ⟨j,hj,hjp⟩:=HFe.out T yu.out r Mo HrN.out
       have hx:x≠ -1:=by
        intro hx
        rcases MO.out with ⟨_,h⟩|⟨b,e,_⟩
        ·exact h j (by omega) hjp
        ·omega
       obtain ⟨b,rfl,hbc,sS⟩:=MO.out.index hx
       have g7:decide ((b:Int)<0)=false:=decide_eq_false (by omega)
       have hbN:b<N:=by omega
       have hne:T.cell r b≠0:=fun h0=>by rw [h0] at sS;grind
       have hst:Nonempty (DStep m N K T (T.pivot r b)):=⟨⟨r,b,Mo,hbN,HrN.out,sS,fun i hi pO=>by
        rcases MO.out with ⟨e,_⟩|⟨b',e,_,_,h⟩
        ·omega
        ·have e2:b'=b:=by omega
         subst e2
         exact h i (by omega) pO,rfl⟩⟩
       have MN:=Aside0.mk (sH.out.step T _ yu.out hst)
       have a1R:=Aside0.mk (xY.out.next hst)
       have HP:=Aside0.mk (fun W=>Il D C m N K r b T cs1 W HR.out Mo hbN hne HF.out (sH.out.fine _ MN.out))
       have HI:Aside0 ((Try.prog.info? 62).map (·.size)=some cs1.size):=⟨by rw [HR.out.size];kernel_rfl⟩
       clear hx sS hst hne hjp hj vw hbc
       go_wp2_with (first|((with_reducible refine bk (N:=71) rfl ?_);refine wpList_load_row rfl 62 (.tmp 1) rfl w.heap.size rfl 62 cs1 (0,0) _ HA.out hu (by rfl) HI.out ?_)|(go_at_call 57;(with_reducible refine (HP.out _).mono ?_);rintro e w1 ⟨iB,rfl,Qh,hb1⟩;have IL:=Aside0.mk Qh;have fW:=Aside0.mk (ah HA.out hb1);have gh:=Aside0.mk (ah eV.out hb1);have fG:=Aside0.mk (ai bL.out hb1);have a1S:Aside0 ((Try.prog.info? 62).map (·.size)=some iB.size):=⟨by rw [IL.out.size];kernel_rfl⟩;have HZs:Aside0 (cs1.size=iB.size):=⟨by rw [HR.out.size,IL.out.size]⟩;clear hb1 Qh)|((with_reducible refine iX (t:=62) (p:=1) rfl ?_);refine wpList_store_row rfl 62 (.tmp 1) (.tmp 74) rfl w.heap.size iB rfl rfl 62 cs1 fW.out a1S.out HZs.out IL.out.one ?_))
       go_roundg (L -(n+1))
       case measure=>have:=HnL.out;omega
       case rel=>exact ⟨n+1,T.pivot r b,iB,Nat.le_refl _,a1R,MN,IL,⟨rE fW.out⟩,⟨tN gh.out (by omega)⟩,⟨pM fG.out (Nat.le_refl _)⟩⟩
def ind (e:List Int) (v:Int):Int:=if v∈e then 1 else 0
abbrev kG:Array Value:= #[.bool false,.int .i64 0,.int .i64 0,.slice none 0 0,.slice none 0 0]
structure Rows (aj:List Int) (af:List (List Int)) (i j:Nat) (rows:Nat->List Int):Prop where
 YN:∀k,k<aj.length->rows k=if k<i then af.map (fun e=> - ind e (aj.getD k 0)) else if k=i then (af.take j).map (fun e=> - ind e (aj.getD k 0)) else []
 pack:∀k,k<af.length->rows (aj.length+k)=(aj.take (if k<j then i+1 else i)).map (fun v=>ind (af.getD k []) v)
theorem Rows.start (aj:List Int) (af:List (List Int)):Rows aj af 0 0 (fun _=>[]):=
 ⟨fun k _=>by
  rw [if_neg (by omega)]
  split<;>simp,fun k _=>by rw [if_neg (by omega)];simp⟩
theorem Rows.next {aj:List Int} {af:List (List Int)} {i:Nat} {rows:Nat->List Int} (h:Rows aj af i af.length rows):Rows aj af (i+1) 0 rows:=by
 refine ⟨fun k hk=>?_,fun k hk=>?_⟩
 ·rw [h.YN k hk]
  by_cases e:k<i
  ·rw [if_pos e,if_pos (by omega)]
  ·rw [if_neg e]
   by_cases e2:k=i
   ·rw [if_pos e2,if_pos (by omega),List.take_length]
   ·rw [if_neg e2,if_neg (by omega)]
    split<;>simp
 ·rw [h.pack k hk,if_pos hk,if_neg (by omega)]
theorem Rows.step {aj:List Int} {af:List (List Int)} {i j:Nat} {rows:Nat->List Int} (h:Rows aj af i j rows) (hi:i<aj.length) (hj:j<af.length):
 Rows aj af i (j+1) (fun k=>if k=aj.length+j then rows (aj.length+j)++[ind (af.getD j []) (aj.getD i 0)] else if k=i then rows i++[- ind (af.getD j []) (aj.getD i 0)] else rows k):=by
 have hej:af.getD j []=af[j]:=by simp [List.getD_eq_getElem?_getD,hj]
 have hbi:aj.getD i 0=aj[i]:=by simp [List.getD_eq_getElem?_getD,hi]
 refine ⟨fun k hk=>?_,fun k hk=>?_⟩
 ·show (if k=aj.length+j then _ else if k=i then _ else rows k)=_
  rw [if_neg (by omega)]
  by_cases e:k=i
  ·subst e
   rw [if_pos rfl,h.YN k hk,if_neg (by omega),if_pos rfl,if_neg (by omega),if_pos rfl,List.take_succ_eq_append_getElem hj,List.map_append,hej];rfl
  ·rw [if_neg e,h.YN k hk]
   by_cases e2:k<i
   ·rw [if_pos e2,if_pos e2]
   ·rw [if_neg e2,if_neg e2,if_neg e,if_neg e]
 ·show (if aj.length+k=aj.length+j then _ else if aj.length+k=i then _ else rows (aj.length+k))=_
  by_cases e:k=j
  ·subst e
   rw [if_pos rfl,h.pack k hk,if_neg (by omega),if_pos (by omega),List.take_succ_eq_append_getElem hi,List.map_append,hbi];rfl
  ·rw [if_neg (by omega),if_neg (by omega),h.pack k hk]
   by_cases e2:k<j
   ·rw [if_pos e2,if_pos (by omega)]
   ·rw [if_neg e2,if_neg (by omega)]
theorem Rows.len {aj:List Int} {af:List (List Int)} {i j:Nat} {rows:Nat->List Int} (h:Rows aj af i j rows) (hb:aj.length<=6) (he:af.length<=7):∀k,k<aj.length+af.length->(rows k).length<=7:=by
 intro k hk
 by_cases e:k<aj.length
 ·rw [h.YN k e]
  split
  ·simpa using he
  ·split
   ·simp;omega
   ·simp
 ·have e2:k=aj.length+(k - aj.length):=by omega
  rw [e2,h.pack _ (by omega)]
  simp;omega
theorem Vt {W W1:World} {k:Nat} {cs:Array Value} {t:TypeId} {v:Value} {base:Nat} {xs:List Int} (h:W.heap[k]? =some (.cells cs t (0,0))) (ht:t≠3) (hR:Kd.R (Kd.int .i64) 3 W base (fun _=>True) v xs) (hg:W.grownBy W1 v.ownBlock):W1.heap[k]? =some (.cells cs t (0,0)):=
 (hg.block k (aY h) (fun e=>by
   obtain ⟨_,_,cells,hk⟩:=zL hR e.symm
   rw [h] at hk;simp only [Option.some.injEq,Obj.cells.injEq] at hk
   exact absurd hk.2.1 ht)).trans h
theorem Rv {W W1:World} {k:Nat} {o:Obj} {v:Value} (h:W.heap[k]? =some o) (hne:v.ownBlock≠some k) (hg:W.grownBy W1 v.ownBlock):W1.heap[k]? =some o:=
 (hg.block k (aY h) (fun e=>hne e.symm)).trans h
theorem a1T {W:World} {base:Nat} {v:Value} {xs:List Int} (h:Kd.R (Kd.int .i64) 3 W base (fun _=>True) v xs):∃B n d,v= .slice B n d:=by
 obtain ⟨B,d,e⟩:=Kd.cX h
 exact ⟨B,_,d,e⟩
theorem Qi (W:World) (p:Addr) (v:Value):(W.setCell p v).heap.size=W.heap.size:=Array.size_modify
def SU (N g:Nat) (vs:Nat->Value):Prop:=∀k,k<N->(vs k).ownBlock≠some g
theorem SU.put {N g i:Nat} {vs:Nat->Value} {v1:Value} {W:World} (h:SU N g vs) (hi:i<N) (hg:g<W.heap.size) (hat:v1.ownBlock=(vs i).ownBlock∨∃b,v1.ownBlock=some b/\W.heap.size<=b):SU N g (fun k=>if k=i then v1 else vs k):=by
 intro k hk
 show (if k=i then v1 else vs k).ownBlock≠some g
 by_cases e:k=i
 ·rw [if_pos e]
  rcases hat with hat|⟨b,hb,hs⟩
  ·rw [hat];exact h i hi
  ·rw [hb];intro e2;have:=Option.some.inj e2;omega
 ·rw [if_neg e];exact h k hk
theorem rU.off {W:World} {base N:Nat} {vs:Nat->Value} {rows:Nat->List Int} (h:rU W base N vs rows) {g:Nat} (hg:W.heap.size<=g):SU N g vs:=by
 intro k hk e
 have:=(zL (h.own k hk) e).2.1
 omega
def yw (aj:List Int) (af:List (List Int)):List (List Int):=aj.map (fun v=>af.map (fun e=> - ind e v))
def uj (aj:List Int) (af:List (List Int)):List (List Int):=af.map (fun e=>aj.map (fun v=>ind e v))
def a1U (aj:List Int) (af:List (List Int)):bw:=init af.length aj.length (fun i j=>((((yw aj af).getD i []).getD j 0:Int):Rat)) (fun _=>((-1:Int):Rat)) ((1:Int):Rat)
def Vu (aj:List Int) (af:List (List Int)):bw:=init aj.length af.length (fun i j=>((((uj aj af).getD i []).getD j 0:Int):Rat)) (fun _=>((1:Int):Rat)) ((-1:Int):Rat)
def nU (aj:List Int) (af:List (List Int)):Bool:=aj.all (fun v=>af.any (fun e=>decide (v∈e)))
theorem zM {W:World} {g g':Nat} {cs cs':Array Value} {t t':TypeId} (h:W.heap[g]? =some (.cells cs t (0,0))) (h':W.heap[g']? =some (.cells cs' t' (0,0))) (ht:t≠t'):g≠g':=by
 intro e;rw [e,h'] at h;simp only [Option.some.injEq,Obj.cells.injEq] at h;exact ht h.2.1.symm
def a6U (w:World) (aj:List Int) (af:List (List Int)) (QC QP:bw->Prop) (e:Ending) (w':World):Prop:=
 ∃g1 cs1 g2 iB T1 T2,e= .returned (.agg #[.bool true,.int .i64 (sm T1 (af.length+aj.length) af.length aj.length).num,.int .i64 ((sm T1 (af.length+aj.length) af.length aj.length).den:Int),.slice (some ⟨g1,0,none⟩) af.length af.length,.slice (some ⟨g2,0,none⟩) aj.length aj.length])/\QC T1/\QP T2/\
  w'.heap[g1]? =some (.cells cs1 26 (0,0))/\uK cs1 af.length (fun j=>((xq T1 (af.length+aj.length) aj.length j).num,((xq T1 (af.length+aj.length) aj.length j).den:Int)))/\
  w'.heap[g2]? =some (.cells iB 26 (0,0))/\uK iB aj.length (fun j=>((xq T2 (aj.length+af.length) af.length j).num,((xq T2 (aj.length+af.length) af.length j).den:Int)))/\
  g1≠g2/\w.heap.size<=g1/\w.heap.size<=g2/\Below w.heap.size w w'
def a6V (w:World) (aj:List Int) (af:List (List Int)) (QC QP:bw->Prop) (e:Ending) (w':World):Prop:=
 (nU aj af=true/\a6U w aj af QC QP e w')∨(nU aj af=false/\e= .returned (.agg kG)/\Below w.heap.size w w')
theorem a1V {aj:List Int} {af:List (List Int)} {rows:Nat->List Int} (h:Rows aj af aj.length 0 rows):(List.range aj.length).map (fun i=>rows (0+i))=yw aj af:=by
 unfold yw
 apply List.ext_getElem
 ·simp
 ·intro i h1 h2
  have hi:i<aj.length:=by simpa using h1
  simp only [List.getElem_map,List.getElem_range,Nat.zero_add]
  rw [h.YN i hi,if_pos hi]
  have:aj.getD i 0=aj[i]:=by simp [List.getD_eq_getElem?_getD,hi]
  rw [this]
theorem YO {aj:List Int} {af:List (List Int)} {rows:Nat->List Int} (h:Rows aj af aj.length 0 rows):(List.range af.length).map (fun i=>rows (aj.length+i))=uj aj af:=by
 unfold uj
 apply List.ext_getElem
 ·simp
 ·intro i h1 h2
  have hi:i<af.length:=by simpa using h1
  simp only [List.getElem_map,List.getElem_range]
  rw [h.pack i hi,if_neg (by omega),List.take_length]
  have:af.getD i []=af[i]:=by simp [List.getD_eq_getElem?_getD,hi]
  rw [this]
structure St (w:World) (aj:List Int) (af:List (List Int)) (gC gP g8:Nat) (v:Int) (W:World) (vs vc:Nat->Value) (rows:Nat->List Int):Prop where
 EP:rU W w.heap.size (aj.length+af.length) vs rows
 cc:lu W gC aj.length 0 vc
 cp:lu W gP af.length aj.length vc
 az:W.heap[w.heap.size]? =some (.cells kG 29 (0,0))
 bx:W.heap[g8]? =some (.cells #[.int .i64 v] 3 (0,0))
 off:SU (aj.length+af.length) g8 vs
 dN:Below w.heap.size w W
 ne:gP≠gC/\w.heap.size≠gC/\w.heap.size≠gP/\g8≠gC/\g8≠gP/\w.heap.size<=gC/\w.heap.size<=gP
section
variable {w W w1:World} {aj:List Int} {af:List (List Int)} {gC gP g8:Nat} {v:Int} {vs vc:Nat->Value} {rows:Nat->List Int}
theorem St.below (h:St w aj af gC gP g8 v W vs vc rows) (hb:Below W.heap.size W w1):St w aj af gC gP g8 v w1 vs vc rows:=
 ⟨h.EP.below hb,h.cc.below hb,h.cp.below hb,ah h.az hb,ah h.bx hb,h.off,ai h.dN hb,h.ne⟩
theorem St.app (h:St w aj af gC gP g8 v W vs vc rows) {i:Nat} (hi:i<aj.length+af.length) {v1:Value} {xs:List Int} (ho:Kd.R (Kd.int .i64) 3 w1 w.heap.size (fun _=>True) v1 xs) (hb:Below w.heap.size w w1) (hg:W.grownBy w1 (vs i).ownBlock) (hat:v1.ownBlock=(vs i).ownBlock∨∃b,v1.ownBlock=some b/\W.heap.size<=b):
 ∃B n d,v1= .slice B n d/\St w aj af gC gP g8 v w1 (fun k=>if k=i then v1 else vs k) vc (fun k=>if k=i then xs else rows k):=by
 obtain ⟨B,n,d,e⟩:=a1T ho
 have hR:=h.EP.own i hi
 exact ⟨B,n,d,e,h.EP.app hi ho hg hat,h.cc.grown hR hg,h.cp.grown hR hg,Vt h.az (by decide) hR hg,Rv h.bx (h.off i hi) hg,h.off.put hi (aY h.bx) hat,hb,h.ne⟩
theorem St.b0r (h:St w aj af gC gP g8 v W vs vc rows) {i:Nat} (hi:i<aj.length) (x:Value):St w aj af gC gP g8 v (W.setCell ⟨gC,i,none⟩ x) vs (fun k=>if k=i then x else vc k) rows:=by
 obtain ⟨n1,n2,n3,n4,n5,n6,n7⟩:=h.ne
 refine ⟨?_,?_,(h.cp.other n1).congr (fun k _=>if_neg (by omega)),bA h.az n2,bA h.bx n4,h.off,br h.dN n6,h.ne⟩
 ·obtain ⟨cs,hc,_⟩:=h.cc;exact h.EP.put hc (by decide) i x
 ·have:=h.cc.put hi x;rwa [Nat.zero_add] at this
theorem St.b0s (h:St w aj af gC gP g8 v W vs vc rows) {j:Nat} (hj:j<af.length) (x:Value):St w aj af gC gP g8 v (W.setCell ⟨gP,j,none⟩ x) vs (fun k=>if k=aj.length+j then x else vc k) rows:=by
 obtain ⟨n1,n2,n3,n4,n5,n6,n7⟩:=h.ne
 refine ⟨?_,(h.cc.other (fun e=>n1 e.symm)).congr (fun k hk=>if_neg (by omega)),h.cp.put hj x,bA h.az n3,bA h.bx n5,h.off,br h.dN n7,h.ne⟩
 obtain ⟨cs,hc,_⟩:=h.cp;exact h.EP.put hc (by decide) j x
theorem St.SV (h:St w aj af gC gP g8 v W vs vc rows) {i:Nat} (hi:i<aj.length):W.cell? ⟨gC,i,none⟩=some (vc i)/\W.frozen? ⟨gC,i,none⟩=false:=by
 have:=h.cc.at hi
 rw [Nat.zero_add] at this
 exact ⟨this,h.cc.frozen i⟩
theorem St.SX (h:St w aj af gC gP g8 v W vs vc rows) {j:Nat} (hj:j<af.length):W.cell? ⟨gP,j,none⟩=some (vc (aj.length+j))/\W.frozen? ⟨gP,j,none⟩=false:=⟨h.cp.at hj,h.cp.frozen j⟩
theorem St.at8 (h:St w aj af gC gP g8 v W vs vc rows):W.cell? ⟨g8,0,none⟩=some (.int .i64 v):=(ag h.bx 0).trans rfl
end
set_option maxHeartbeats 2000000 in
set_option maxRecDepth 100000 in
theorem CI (A0:Option Addr) (c0:Nat) (aj:List Int) (A1:Option Addr) (c1:Nat) (af:List (List Int)) (w:World) (h0:Kd.C (Kd.int .i64) w A0 aj.length aj) (l0:aj.length<=c0) (h1:Kd.C BA w A1 af.length af) (l1:af.length<=c1)
 (hnb:aj.length<=6) (hne:af.length<=7) (hr:∀x,x∈af->x.length<=1048576) (hok:jY (-1) aj=true) (Qj:af.all (jY (-1))=true) (QC QP:bw->Prop)
 (hFe:nU aj af=true->∀cs W,gD cs aj.length (af.length+aj.length) (af.length+1) (a1U aj af)->Calls Try.prog 34 #[.agg cs] W fun e w'=>∃cs' T,e= .returned (.agg cs')/\gD cs' aj.length (af.length+aj.length) (af.length+1) T/\QC T/\Below W.heap.size W w')
 (hLe:nU aj af=true->∀cs W,gD cs af.length (aj.length+af.length) (aj.length+1) (Vu aj af)->Calls Try.prog 35 #[.agg cs] W fun e w'=>∃cs' T,e= .returned (.agg cs')/\gD cs' af.length (aj.length+af.length) (aj.length+1) T/\QP T/\Below W.heap.size W w')
 (hQC:∀T,QC T->(∀r,r<aj.length->T.basis r<16)/\(∀r,r<aj.length->Ok (T.cell r (af.length+aj.length)))/\∀r,r<=aj.length->Ok (sm T (af.length+aj.length) af.length r))
 (hQP:∀T,QP T->(∀r,r<af.length->T.basis r<16)/\(∀r,r<af.length->Ok (T.cell r (aj.length+af.length)))/\∀r,r<=af.length->Ok (sm T (aj.length+af.length) aj.length r)):
 Calls Try.prog 9 #[.slice A0 aj.length c0,.slice A1 af.length c1] w (a6V w aj af QC QP):=by
 obtain ⟨k1,wW⟩:=Ev.rounds (Av aj (by omega))
 rw [hok] at wW
 have rT:=Aside0.mk (fun W (hb:Below w.heap.size w W)=>cW.calls k1 A0 c0 aj _ W (Kd.bQ h0 hb) l0 wW)
 have Bx:=Aside0.mk (fun W (hb:Below w.heap.size w W)=>EN A1 c1 af W (Kd.bQ h1 hb) l1 hr)
 rw [Qj,decide_eq_true hne] at Bx
 have b8h:=YJ aj.length (by omega)
 have b8i:=YJ af.length (by omega)
 have eL:=Aside0.mk h0
 have gV:=Aside0.mk h1
 have HB:=Aside0.mk (Below.refl w.heap.size w)
 have HFe:=Aside0.mk hFe
 have MP:=Aside0.mk hLe
 have HQC:=Aside0.mk hQC
 have HQP:=Aside0.mk hQP
 clear h0 h1 wW hok Qj hFe hLe hQC hQP
 go_enter Try.func9,Try.ntmps9
 go_wp2_with (first|(go_at_call 27;(with_reducible refine (rT.out _ (aK HB.out _)).mono ?_);rintro e w1 ⟨rfl,hb1⟩;have dG:=Aside0.mk (ai (aK HB.out (.cells kG 29)) (iV hb1));have eV:Aside0 (w1.heap[w.heap.size]? =some (.cells kG 29 (0,0))):=⟨ah (bW w _) (iV hb1)⟩;clear hb1)|(go_at_call 28;(with_reducible refine (Bx.out _ dG.out).mono ?_);rintro e w2 ⟨rfl,hb2⟩;have iw:=Aside0.mk (ai dG.out hb2);have iA:=Aside0.mk (ah eV.out hb2);clear hb2))
 have a1W:Aside0 (lu ((w2.alloc (.cells (lM aj.length) 22)).alloc (.cells (lM af.length) 22)) w2.heap.size aj.length 0 (fun _=> .slice none 0 0)):=⟨Qf (aq (bW w2 _) _)⟩
 have a1X:Aside0 (lu ((w2.alloc (.cells (lM aj.length) 22)).alloc (.cells (lM af.length) 22)) (w2.heap.size+1) af.length aj.length (fun _=> .slice none 0 0)):=⟨Qf (by have:=bW (w2.alloc (.cells (lM aj.length) 22)) (.cells (lM af.length) 22);rw [kL] at this;exact this)⟩
 have b0v:Aside0 (((w2.alloc (.cells (lM aj.length) 22)).alloc (.cells (lM af.length) 22)).heap[w.heap.size]? =some (.cells kG 29 (0,0))):=⟨aq (aq iA.out _) _⟩
 have jo:Aside0 (Below w.heap.size w ((w2.alloc (.cells (lM aj.length) 22)).alloc (.cells (lM af.length) 22))):=⟨aK (aK iw.out _) _⟩
 have SY:Aside0 (w.heap.size<w2.heap.size):=⟨aY iA.out⟩
 obtain ⟨gC,hgC⟩:∃gC,gC=w2.heap.size:=⟨_,rfl⟩
 obtain ⟨gP,hgP⟩:∃gP,gP=w2.heap.size+1:=⟨_,rfl⟩
 have HgP:Aside0 (gP≠gC):=⟨by omega⟩
 have HgA:Aside0 (w.heap.size≠gC):=⟨by have:=SY.out;omega⟩
 have b8j:Aside0 (w.heap.size≠gP):=⟨by have:=SY.out;omega⟩
 replace SY:Aside0 (w.heap.size<=gC):=⟨by have:=SY.out;omega⟩
 have b8k:Aside0 (w.heap.size<=gP):=⟨by have:=SY.out;omega⟩
 rw [<-hgC] at a1W
 rw [<-hgP] at a1X
 rw [<-hgP,<-hgC]
 clear eV dG iA iw rT Bx HB hgC hgP b8h b8i
 generalize ((w2.alloc (.cells (lM aj.length) 22)).alloc (.cells (lM af.length) 22))=w4 at*
 go_loopw [30] (fun iv wr=>∃(i:Nat) (vs:Nat->Value) (rows:Nat->List Int),iv= .int .i64 (i:Int)/\i<=aj.length/\Aside0 (∀k,k<i->af.any (fun e=>decide (aj.getD k 0∈e))=true)/\Aside0 (Rows aj af i 0 rows)/\Aside0 (rU wr w.heap.size (aj.length+af.length) vs rows)/\Aside0 (lu wr gC aj.length 0 vs)/\Aside0 (lu wr gP af.length aj.length vs)/\Aside0 (wr.heap[w.heap.size]? =some (.cells kG 29 (0,0)))/\Aside0 (Below w.heap.size w wr)) (fun iv _=>aj.length -(intOf iv).toNat)
 case atStart=>exact ⟨0,_,_,rfl,by omega,⟨fun k hk=>by omega⟩,⟨Rows.start _ _⟩,⟨a1P _ _ _⟩,a1W,a1X,b0v,jo⟩
 case round=>
  clear a1W a1X b0v jo
  obtain ⟨i,vs,rows,rfl,hi,Qk,BB,HF,YP,SZ,Ta,bL⟩:=hrel
  by_cases hib:i<aj.length
  ·have xp:=Aside0.mk hib
   obtain ⟨ad,e,hx⟩:=Kd.fC eL.out (i:Int) (by omega) (by omega)
   cases e
   have hrd:rd aj (i:Int)=aj.getD i 0:=rfl
   rw [hrd,Int.toNat_natCast] at hx
   obtain ⟨v,hv⟩:∃v,v=aj.getD i 0:=⟨_,rfl⟩
   rw [<-hv] at hx
   have IP:Aside0 (aj.getD i 0=v):=⟨hv.symm⟩
   have hx2:wr.cell? (ad.add i)=some (.int .i64 v):=(bL.out.cell (World.block_lt_of_cell? w _ hx)).trans hx
   have g0:(0:Int)<=(i:Int):=by omega
   have g1:(i:Int)<(aj.length:Int):=by omega
   have vH:decide ((i:Int)<(aj.length:Int))=true:=decide_eq_true g1
   have sD:decide (i<aj.length)=true:=decide_eq_true hib
   have fy:Aside0 (wrap64 ((i:Int)+1)=((i+1:Nat):Int)):=⟨eD (by omega)⟩
   have PJ:Aside0 ((wr.alloc (.cells #[.int .i64 v] 3)).heap[wr.heap.size]? =some (.cells #[.int .i64 v] 3 (0,0))):=⟨bW wr _⟩
   have Vv:Aside0 (∀W,Below w.heap.size w W->W.heap[wr.heap.size]? =some (.cells #[.int .i64 v] 3 (0,0))->Calls Try.prog 29 #[.slice A1 af.length c1,.func (.func 30) #[] #[.pointer (some ⟨wr.heap.size,0,none⟩)]] W fun e w'=>e= .returned (.bool (af.any (fun e=>decide (v∈e))))/\Below W.heap.size W w'):=⟨fun W hb hg=>Lk (fun e=>decide (v∈e)) A1 c1 af wr.heap.size W (Kd.bQ gV.out hb) l1 (fun row hrow A2 c2 W2 hb2 hC hc=>YH A2 c2 row wr.heap.size v W2 hC hc (hr row hrow) ((ag (ah hg hb2) 0).trans rfl))⟩
   have HGs:Aside0 (w.heap.size<=wr.heap.size):=⟨bL.out.size⟩
   have HgG:Aside0 (wr.heap.size≠gC):=⟨Nat.ne_of_gt YP.out.lt⟩
   have b8l:Aside0 (wr.heap.size≠gP):=⟨Nat.ne_of_gt SZ.out.lt⟩
   have b0y:Aside0 (SU (aj.length+af.length) wr.heap.size vs):=⟨HF.out.off (Nat.le_refl _)⟩
   generalize Vw:af.any (fun e=>decide (v∈e))=y at Vv
   clear hib hi hrd hx
   cases y with
   |false=>
    have b4d:=Aside0.mk Vw
    clear hv Vw
    go_wp2_with (first|(go_at_call 29;(with_reducible refine (Vv.out _ (aK bL.out _) PJ.out).mono ?_);rintro e w1 ⟨rfl,hb1⟩;have gL:=Aside0.mk (ah (aq Ta.out _) hb1);have dG:=Aside0.mk (ai (aK bL.out _) hb1);have hz0:=(ag gL.out 0).trans rfl;have hz1:=(ag gL.out 1).trans rfl;have hz2:=(ag gL.out 2).trans rfl;have hz3:=(ag gL.out 3).trans rfl;have hz4:=(ag gL.out 4).trans rfl;have hy0:=aa gL.out 0;have hy1:=aa gL.out 1;have EE:=aa gL.out 2;have hy3:=aa gL.out 3;have hy4:=aa gL.out 4;clear hb1))
    have YQ:Aside0 ((((((w1.setCell ⟨w.heap.size,0,none⟩ (.bool false)).setCell ⟨w.heap.size,1,none⟩ (.int .i64 0)).setCell ⟨w.heap.size,2,none⟩ (.int .i64 0)).setCell ⟨w.heap.size,3,none⟩ (.slice none 0 0)).setCell ⟨w.heap.size,4,none⟩ (.slice none 0 0)).heap[w.heap.size]? =some (.cells kG 29 (0,0))):=⟨aX (aX (aX (aX (aX gL.out 0 _ (cs':=kG) rfl) 1 _ (cs':=kG) rfl) 2 _ (cs':=kG) rfl) 3 _ (cs':=kG) rfl) 4 _ (cs':=kG) rfl⟩
    refine bodyPost_ret (results_cell_row rfl _ _ w.heap.size 29 kG (0,0) _ rfl YQ.out Try.underlying29 (by rfl) (by kernel_rfl)) rfl ?_
    refine .inr ⟨?_,rfl,br (br (br (br (br dG.out (Nat.le_refl _)) (Nat.le_refl _)) (Nat.le_refl _)) (Nat.le_refl _)) (Nat.le_refl _)⟩
    unfold nU
    rw [List.all_eq_false]
    have hib:=xp.out
    have hbv:aj.getD i 0=aj[i]:=by simp [List.getD_eq_getElem?_getD,hib]
    refine ⟨v,?_,by rw [b4d.out];decide⟩
    rw [<-IP.out,hbv];exact List.getElem_mem hib
   |true=>
    have b4e:Aside0 (∀k,k<i+1->af.any (fun e=>decide (aj.getD k 0∈e))=true):=⟨fun k hk=>by
     by_cases e:k=i
     ·rw [e,<-hv];exact Vw
     ·exact Qk.out k (by omega)⟩
    clear hv Vw Qk
    go_wp2_with (first|(go_at_call 29;(with_reducible refine (Vv.out _ (aK bL.out _) PJ.out).mono ?_);rintro e w1 ⟨rfl,hb1⟩;have hba:Below wr.heap.size wr w1:=ai (aK (Below.refl _ _) _) hb1;have gL:=Aside0.mk (ah Ta.out hba);have PN:=Aside0.mk (ah PJ.out hb1);have rR:=Aside0.mk (HF.out.below hba);have b0B:=Aside0.mk (YP.out.below hba);have b0C:=Aside0.mk (SZ.out.below hba);have dG:=Aside0.mk (ai bL.out hba);clear hb1 hba))
    clear Ta PJ HF YP SZ bL Vv hx2
    generalize wr.heap.size=g8 at*
    go_loopw [42] (fun jv wr=>∃(j:Nat) (vs:Nat->Value) (rows:Nat->List Int),jv= .int .i64 (j:Int)/\j<=af.length/\Aside0 (Rows aj af i j rows)/\Aside0 (St w aj af gC gP g8 v wr vs vs rows)) (fun jv _=>af.length -(intOf jv).toNat)
    case atStart=>exact ⟨0,vs,rows,rfl,by omega,BB,⟨rR.out,b0B.out,b0C.out,gL.out,PN.out,b0y.out,dG.out,HgP.out,HgA.out,b8j.out,HgG.out,b8l.out,SY.out,b8k.out⟩⟩
    case round=>
     clear BB rR b0B b0C gL PN b0y dG
     obtain ⟨j,vs,rows,rfl,hj,BB,HS⟩:=hrel
     by_cases od:j<af.length
     ·have nV:=Aside0.mk od
      obtain ⟨IC,A2,c2,e,hy,Tb,MQ⟩:=zJ gV.out j od
      cases e
      have Tc:Aside0 (af.getD j []=af[j]):=⟨by simp [List.getD_eq_getElem?_getD,od]⟩
      have hle:=hr _ (List.getElem_mem od)
      obtain ⟨kh,hkh⟩:=Ev.rounds (zK af[j] v hle)
      have Vx:Aside0 (∀W,Below w.heap.size w W->Calls Try.prog 31 #[.slice A2 (af[j]).length c2,.int .i64 v] W fun e w'=>e= .returned (.bool (decide (v∈af[j])))/\bl W w'):=⟨fun W hb=>dY.calls kh A2 c2 af[j] v _ W (Kd.bQ MQ hb) Tb hkh⟩
      have EE:wr.cell? (IC.add j)=some (.slice A2 (af[j]).length c2):=(HS.out.dN.cell (World.block_lt_of_cell? w _ hy)).trans hy
      clear hy Tb MQ hle hkh
      generalize af[j]=e at*
      have hbx0:=HS.out.at8
      have g2:(0:Int)<=(j:Int):=by omega
      have g3:(j:Int)<(af.length:Int):=by omega
      have g3d:decide ((j:Int)<(af.length:Int))=true:=decide_eq_true g3
      have Mm:decide (j<af.length)=true:=decide_eq_true od
      have kC:Aside0 (wrap64 ((j:Int)+1)=((j+1:Nat):Int)):=⟨eD (by omega)⟩
      have Cn:Aside0 (i<aj.length+af.length):=⟨by have:=xp.out;omega⟩
      have Td:Aside0 (aj.length+j<aj.length+af.length):=⟨by omega⟩
      have EH:Aside0 (¬aj.length+j=i):=⟨by have:=xp.out;omega⟩
      have SQ:Aside0 (∀k,k<aj.length+af.length->(rows k).length<=7):=⟨BB.out.len hnb hne⟩
      clear od hj
      by_cases hmem:decide (v∈e)=true
      ·have IM:ind e v=1:=by unfold ind;rw [if_pos (of_decide_eq_true hmem)]
       have Ql:Aside0 (Rows aj af i (j+1) (fun k=>if k=aj.length+j then rows (aj.length+j)++[1] else if k=i then rows i++[-1] else rows k)):=⟨by
        have:=BB.out.step xp.out nV.out
        rw [Tc.out,IP.out,IM] at this
        exact this⟩
       rw [hmem] at Vx
       clear IM hmem
       go_wp2_with (first|(go_at_call 31;(with_reducible refine (Vx.out _ (by first|exact HS.out.dN|exact bn HS.out.dN)).mono ?_);rintro e w1 ⟨rfl,hb1⟩;have jc:=Aside0.mk (HS.out.below (iV hb1));have hp0:=(jc.out.SV xp.out).1;clear hb1)|((with_reducible refine cK (b:= .append) (xs:= #[.tmp 55,.tmp 58]) rfl ?_);at_builtin;refine Kd.fB (Kd.int .i64) (w0:=w) w.heap.size rfl _ _ 22 3 (.int .i64 0) 8 rfl Try.underlying22 info3 rfl (by decide) (by omega) (vs i) (rows i) (-1) [.int .i64 (-1)] (fun _=>True) (fun _=>False) rfl (by first|rfl|(go_simp;done)|(go_simp;rfl)) rfl (fun _ hk=>hk.elim) (fun _ _=>trivial) (jc.out.EP.own i Cn.out) jc.out.dN jc.out.dN.size (by have:=SQ.out i Cn.out;omega) ?_;intro v1 w3 rS hb3 hg3 xd;obtain ⟨B1,n1,d1,rfl,hs3⟩:=jc.out.app Cn.out rS hb3 hg3 xd;have Qm:=Aside0.mk hs3;have Yg:=(Qm.out.SV xp.out).1;have hq1:=(Qm.out.SV xp.out).2;have CJ:=Aside0.mk (Qm.out.b0r xp.out (Value.slice B1 n1 d1));have hq2:=(CJ.out.SX nV.out).1;simp only [if_neg EH.out] at hq2;have PI:=Aside0.mk (CJ.out.EP.own _ Td.out);simp only [if_neg EH.out] at PI;clear hs3 rS hb3 hg3 xd)|((with_reducible refine cK (b:= .append) (xs:= #[.tmp 66,.tmp 68]) rfl ?_);at_builtin;refine Kd.fB (Kd.int .i64) (w0:=w) w.heap.size rfl _ _ 22 3 (.int .i64 0) 8 rfl Try.underlying22 info3 rfl (by decide) (by omega) (vs (aj.length+j)) (rows (aj.length+j)) (1) [.int .i64 (1)] (fun _=>True) (fun _=>False) rfl (by first|rfl|exact congrArg (fun n=>Value.slice (some ⟨n,0,none⟩) 1 1) (Qi _ _ _).symm|(go_simp;done)|(go_simp;rfl)) rfl (fun _ hk=>hk.elim) (fun _ _=>trivial) PI.out CJ.out.dN CJ.out.dN.size (by have:=SQ.out (aj.length+j) Td.out;omega) ?_;intro v2 w5 uv jm YR Qn;obtain ⟨B2,n2,d2,rfl,hs5⟩:=CJ.out.app Td.out uv jm (by simp only [if_neg EH.out];exact YR) (by simp only [if_neg EH.out];exact Qn);have ER:=Aside0.mk hs5;have hq3:=(ER.out.SX nV.out).1;have hq4:=(ER.out.SX nV.out).2;clear hs5 uv jm YR Qn))
       have Ya:=Aside0.mk (ER.out.b0s nV.out (Value.slice B2 n2 d2))
       go_roundw
       case rel=>exact ⟨j+1,_,_,by first|(rw [kC.out];done)|rfl|(simp;done),nV.out,Ql,Ya⟩
       case measure=>(try rw [kC.out]);have:=nV.out;simp [intOf];omega
      ·replace hmem:decide (v∈e)=false:=Bool.eq_false_iff.mpr hmem
       have IM:ind e v=0:=by unfold ind;rw [if_neg (of_decide_eq_false hmem)]
       have Ql:Aside0 (Rows aj af i (j+1) (fun k=>if k=aj.length+j then rows (aj.length+j)++[0] else if k=i then rows i++[0] else rows k)):=⟨by
        have:=BB.out.step xp.out nV.out
        rw [Tc.out,IP.out,IM] at this
        exact this⟩
       rw [hmem] at Vx
       clear IM hmem
       go_wp2_with (first|(go_at_call 31;(with_reducible refine (Vx.out _ (by first|exact HS.out.dN|exact bn HS.out.dN)).mono ?_);rintro e w1 ⟨rfl,hb1⟩;have jc:=Aside0.mk (HS.out.below (iV hb1));have hp0:=(jc.out.SV xp.out).1;clear hb1)|((with_reducible refine cK (b:= .append) (xs:= #[.tmp 55,.tmp 58]) rfl ?_);at_builtin;refine Kd.fB (Kd.int .i64) (w0:=w) w.heap.size rfl _ _ 22 3 (.int .i64 0) 8 rfl Try.underlying22 info3 rfl (by decide) (by omega) (vs i) (rows i) (0) [.int .i64 (0)] (fun _=>True) (fun _=>False) rfl (by first|rfl|(go_simp;done)|(go_simp;rfl)) rfl (fun _ hk=>hk.elim) (fun _ _=>trivial) (jc.out.EP.own i Cn.out) jc.out.dN jc.out.dN.size (by have:=SQ.out i Cn.out;omega) ?_;intro v1 w3 rS hb3 hg3 xd;obtain ⟨B1,n1,d1,rfl,hs3⟩:=jc.out.app Cn.out rS hb3 hg3 xd;have Qm:=Aside0.mk hs3;have Yg:=(Qm.out.SV xp.out).1;have hq1:=(Qm.out.SV xp.out).2;have CJ:=Aside0.mk (Qm.out.b0r xp.out (Value.slice B1 n1 d1));have hq2:=(CJ.out.SX nV.out).1;simp only [if_neg EH.out] at hq2;have PI:=Aside0.mk (CJ.out.EP.own _ Td.out);simp only [if_neg EH.out] at PI;clear hs3 rS hb3 hg3 xd)|((with_reducible refine cK (b:= .append) (xs:= #[.tmp 66,.tmp 68]) rfl ?_);at_builtin;refine Kd.fB (Kd.int .i64) (w0:=w) w.heap.size rfl _ _ 22 3 (.int .i64 0) 8 rfl Try.underlying22 info3 rfl (by decide) (by omega) (vs (aj.length+j)) (rows (aj.length+j)) (0) [.int .i64 (0)] (fun _=>True) (fun _=>False) rfl (by first|rfl|exact congrArg (fun n=>Value.slice (some ⟨n,0,none⟩) 1 1) (Qi _ _ _).symm|(go_simp;done)|(go_simp;rfl)) rfl (fun _ hk=>hk.elim) (fun _ _=>trivial) PI.out CJ.out.dN CJ.out.dN.size (by have:=SQ.out (aj.length+j) Td.out;omega) ?_;intro v2 w5 uv jm YR Qn;obtain ⟨B2,n2,d2,rfl,hs5⟩:=CJ.out.app Td.out uv jm (by simp only [if_neg EH.out];exact YR) (by simp only [if_neg EH.out];exact Qn);have ER:=Aside0.mk hs5;have hq3:=(ER.out.SX nV.out).1;have hq4:=(ER.out.SX nV.out).2;clear hs5 uv jm YR Qn))
       have Ya:=Aside0.mk (ER.out.b0s nV.out (Value.slice B2 n2 d2))
       go_roundw
       case rel=>exact ⟨j+1,_,_,by first|(rw [kC.out];done)|rfl|(simp;done),nV.out,Ql,Ya⟩
       case measure=>(try rw [kC.out]);have:=nV.out;simp [intOf];omega
     ·have g3d:decide ((j:Int)<(af.length:Int))=false:=decide_eq_false (by omega)
      have Mm:decide (j<af.length)=false:=decide_eq_false od
      have hj':j=af.length:=by omega
      rw [hj'] at BB
      have Ql:=Aside0.mk BB.out.next
      clear hj' od hj BB
      go_wp2
      go_roundw
      case rel=>exact ⟨i+1,vs,rows,by first|(rw [fy.out];done)|rfl|(simp;done),xp.out,b4e,Ql,⟨HS.out.EP⟩,⟨HS.out.cc⟩,⟨HS.out.cp⟩,⟨HS.out.az⟩,⟨HS.out.dN⟩⟩
      case measure=>(try rw [fy.out]);have:=xp.out;simp [intOf];omega
  ·have hi':i=aj.length:=by omega
   have vH:decide ((i:Int)<(aj.length:Int))=false:=decide_eq_false (by omega)
   have sD:decide (i<aj.length)=false:=decide_eq_false hib
   rw [hi'] at BB Qk
   clear hi' hib hi
   have HCB:Aside0 (nU aj af=true):=⟨by
    unfold nU
    rw [List.all_eq_true]
    intro x hx
    obtain ⟨k,hk,rfl⟩:=List.getElem_of_mem hx
    have:=Qk.out k hk
    rwa [show aj.getD k 0=aj[k] by simp [List.getD_eq_getElem?_getD,hk]] at this⟩
   have Te:Below wr.heap.size wr (wr.alloc (.cells #[.bool true,.int .i64 0,.int .i64 0,.slice none 0 0,.slice none 0 0] 29)):=aK (Below.refl _ _) _
   have Px:=Aside0.mk (HF.out.below Te)
   have b8m:=Aside0.mk (YP.out.below Te)
   have b8n:=Aside0.mk (SZ.out.below Te)
   have b8o:=Aside0.mk (ah Ta.out Te)
   have b0E:=Aside0.mk (ai bL.out Te)
   have HX6:=Aside0.mk (bW wr (.cells #[.bool true,.int .i64 0,.int .i64 0,.slice none 0 0,.slice none 0 0] 29))
   have CK:Aside0 (w.heap.size<=wr.heap.size/\w.heap.size≠wr.heap.size):=⟨⟨bL.out.size,Nat.ne_of_lt (aY Ta.out)⟩⟩
   have a1Y:Aside0 (∀W,Below (wr.alloc (.cells #[.bool true,.int .i64 0,.int .i64 0,.slice none 0 0,.slice none 0 0] 29)).heap.size (wr.alloc (.cells #[.bool true,.int .i64 0,.int .i64 0,.slice none 0 0,.slice none 0 0] 29)) W->Calls Try.prog 33 #[.slice (some ⟨gC,0,none⟩) aj.length aj.length,.int .i64 (af.length:Int),.int .i64 1,.int .i64 (-1)] W fun e w'=>∃cs',e= .returned (.agg cs')/\gD cs' aj.length (af.length+aj.length) (af.length+1) (a1U aj af)/\Below W.heap.size W w'):=⟨fun W hb=>by
    have hlen:(yw aj af).length=aj.length:=by unfold yw;rw [List.length_map]
    have hC:=MM (Px.out.below hb) (b8m.out.below hb) (show 0+aj.length<=_ by omega) (by omega)
    rw [a1V BB.out] at hC
    have:=EL af.length aj.length (yw aj af) (some ⟨gC,0,none⟩) aj.length 1 (-1) W (by rw [hlen];exact hC) (by omega) hlen (fun x hx=>by
     unfold yw at hx
     obtain ⟨v,_,rfl⟩:=List.mem_map.1 hx
     rw [List.length_map]) (by omega) (by omega)
    rw [hlen] at this
    exact this⟩
   have a1Z:Aside0 (∀W,rU W w.heap.size (aj.length+af.length) vs rows->lu W gP af.length aj.length vs->Calls Try.prog 33 #[.slice (some ⟨gP,0,none⟩) af.length af.length,.int .i64 (aj.length:Int),.int .i64 (-1),.int .i64 1] W fun e w'=>∃cs',e= .returned (.agg cs')/\gD cs' af.length (aj.length+af.length) (aj.length+1) (Vu aj af)/\Below W.heap.size W w'):=⟨fun W hF hP=>by
    have hlen:(uj aj af).length=af.length:=by unfold uj;rw [List.length_map]
    have hC:=MM hF hP (Nat.le_refl _) (by omega)
    rw [YO BB.out] at hC
    have:=EL aj.length af.length (uj aj af) (some ⟨gP,0,none⟩) af.length (-1) 1 W (by rw [hlen];exact hC) (by omega) hlen (fun x hx=>by
     unfold uj at hx
     obtain ⟨v,_,rfl⟩:=List.mem_map.1 hx
     rw [List.length_map]) (by omega) (by omega)
    rw [hlen] at this
    exact this⟩
   have HgX:Aside0 (gP≠wr.heap.size):=⟨Nat.ne_of_lt SZ.out.lt⟩
   have Qo:(1:Nat)<2:=by decide
   have b0G:(1:Nat)<3:=by decide
   clear HF YP SZ Ta bL Te Qk
   go_wp2_with (first
    |(go_at_call 33;(with_reducible refine (a1Y.out _ (Below.refl _ _)).mono ?_);rintro e w6 ⟨Ck,rfl,YS,YT⟩;have HR6:=Aside0.mk YS;have b8p:=Aside0.mk YT;clear YS YT)
    |(go_at_call 34;(with_reducible refine (HFe.out HCB.out _ _ HR6.out).mono ?_);rintro e w7 ⟨cs7,T1,rfl,IQ,xu,wX⟩;have HR7:=Aside0.mk IQ;have HQ7:=Aside0.mk xu;have b0H:=Aside0.mk (ai b8p.out wX);clear IQ xu wX)
    |(go_at_call 32;have tk:=Qo;(with_reducible refine (EA _ _ _ _ T1 _ _ HR7.out (by omega) (HQC.out _ HQ7.out).1 (HQC.out _ HQ7.out).2.1 (HQC.out _ HQ7.out).2.2).mono ?_);clear tk Qo;rintro e w8 ⟨g1,cs8,rfl,zx,YU,Qp,mq⟩;have Qq:=Aside0.mk (ai b0H.out mq);have WL:=Aside0.mk YU;have Mv:=Aside0.mk zx;have HS8:=Aside0.mk Qp;have pJ:=Aside0.mk (ah HX6.out Qq.out);have hx1:=(ag pJ.out 1).trans rfl;have hx2:=(ag pJ.out 2).trans rfl;have hx3:=(ag pJ.out 3).trans rfl;have hy1:=aa pJ.out 1;have EE:=aa pJ.out 2;have hy3:=aa pJ.out 3;have Sp:Aside0 (rU (((w8.setCell ⟨wr.heap.size,3,none⟩ (.slice (some ⟨g1,0,none⟩) af.length af.length)).setCell ⟨wr.heap.size,1,none⟩ (.int .i64 (sm T1 (af.length+aj.length) af.length aj.length).num)).setCell ⟨wr.heap.size,2,none⟩ (.int .i64 ((sm T1 (af.length+aj.length) af.length aj.length).den:Int))) w.heap.size (aj.length+af.length) vs rows):=⟨((Px.out.below Qq.out).put pJ.out (by decide) 3 _).put (heap_set pJ.out) (by decide) 1 _|>.put (heap_set (heap_set pJ.out)) (by decide) 2 _⟩;have b8q:Aside0 (lu (((w8.setCell ⟨wr.heap.size,3,none⟩ (.slice (some ⟨g1,0,none⟩) af.length af.length)).setCell ⟨wr.heap.size,1,none⟩ (.int .i64 (sm T1 (af.length+aj.length) af.length aj.length).num)).setCell ⟨wr.heap.size,2,none⟩ (.int .i64 ((sm T1 (af.length+aj.length) af.length aj.length).den:Int))) gP af.length aj.length vs):=⟨(((b8n.out.below Qq.out).other HgX.out).other HgX.out).other HgX.out⟩;have Mw:Aside0 ((((w8.setCell ⟨wr.heap.size,3,none⟩ (.slice (some ⟨g1,0,none⟩) af.length af.length)).setCell ⟨wr.heap.size,1,none⟩ (.int .i64 (sm T1 (af.length+aj.length) af.length aj.length).num)).setCell ⟨wr.heap.size,2,none⟩ (.int .i64 ((sm T1 (af.length+aj.length) af.length aj.length).den:Int))).heap[wr.heap.size]? =some (.cells #[.bool true,.int .i64 (sm T1 (af.length+aj.length) af.length aj.length).num,.int .i64 ((sm T1 (af.length+aj.length) af.length aj.length).den:Int),.slice (some ⟨g1,0,none⟩) af.length af.length,.slice none 0 0] 29 (0,0))):=⟨aX (aX (aX pJ.out 3 (.slice (some ⟨g1,0,none⟩) af.length af.length) (cs':= #[.bool true,.int .i64 0,.int .i64 0,.slice (some ⟨g1,0,none⟩) af.length af.length,.slice none 0 0]) rfl) 1 (.int .i64 (sm T1 (af.length+aj.length) af.length aj.length).num) (cs':= #[.bool true,.int .i64 (sm T1 (af.length+aj.length) af.length aj.length).num,.int .i64 0,.slice (some ⟨g1,0,none⟩) af.length af.length,.slice none 0 0]) rfl) 2 (.int .i64 ((sm T1 (af.length+aj.length) af.length aj.length).den:Int)) (cs':= #[.bool true,.int .i64 (sm T1 (af.length+aj.length) af.length aj.length).num,.int .i64 ((sm T1 (af.length+aj.length) af.length aj.length).den:Int),.slice (some ⟨g1,0,none⟩) af.length af.length,.slice none 0 0]) rfl⟩;have b8r:Aside0 ((((w8.setCell ⟨wr.heap.size,3,none⟩ (.slice (some ⟨g1,0,none⟩) af.length af.length)).setCell ⟨wr.heap.size,1,none⟩ (.int .i64 (sm T1 (af.length+aj.length) af.length aj.length).num)).setCell ⟨wr.heap.size,2,none⟩ (.int .i64 ((sm T1 (af.length+aj.length) af.length aj.length).den:Int))).heap[w.heap.size]? =some (.cells kG 29 (0,0))):=⟨bA (bA (bA (ah b8o.out Qq.out) CK.out.2) CK.out.2) CK.out.2⟩;have Bn:Aside0 ((((w8.setCell ⟨wr.heap.size,3,none⟩ (.slice (some ⟨g1,0,none⟩) af.length af.length)).setCell ⟨wr.heap.size,1,none⟩ (.int .i64 (sm T1 (af.length+aj.length) af.length aj.length).num)).setCell ⟨wr.heap.size,2,none⟩ (.int .i64 ((sm T1 (af.length+aj.length) af.length aj.length).den:Int))).heap[g1]? =some (.cells cs8 26 (0,0))):=⟨bA (bA (bA Mv.out (zM Mv.out pJ.out (by decide))) (zM Mv.out pJ.out (by decide))) (zM Mv.out pJ.out (by decide))⟩;have b0I:Aside0 (Below w.heap.size w (((w8.setCell ⟨wr.heap.size,3,none⟩ (.slice (some ⟨g1,0,none⟩) af.length af.length)).setCell ⟨wr.heap.size,1,none⟩ (.int .i64 (sm T1 (af.length+aj.length) af.length aj.length).num)).setCell ⟨wr.heap.size,2,none⟩ (.int .i64 ((sm T1 (af.length+aj.length) af.length aj.length).den:Int)))):=⟨br (br (br (ai b0E.out Qq.out) CK.out.1) CK.out.1) CK.out.1⟩;clear zx YU Qp mq)
    |(go_at_call 33;have tk:=b0G;(with_reducible refine (a1Z.out _ Sp.out b8q.out).mono ?_);clear tk b0G;rintro e lB ⟨cs16,rfl,YS,YT⟩;have b8s:=Aside0.mk YS;have b4f:=Aside0.mk YT;clear YS YT)
    |(go_at_call 35;(with_reducible refine (MP.out HCB.out _ _ b8s.out).mono ?_);rintro e Sa ⟨cs17,T2,rfl,IQ,xu,wX⟩;have b8t:=Aside0.mk IQ;have Vy:=Aside0.mk xu;have Vz:=Aside0.mk (ai b4f.out wX);clear IQ xu wX)
    |(go_at_call 32;(with_reducible refine (EA _ _ _ _ T2 _ _ b8t.out (by omega) (HQP.out _ Vy.out).1 (HQP.out _ Vy.out).2.1 (HQP.out _ Vy.out).2.2).mono ?_);rintro e CL ⟨g2,b8u,rfl,zx,YU,Qp,mq⟩;have NH:=Aside0.mk (ai Vz.out mq);have b8v:=Aside0.mk YU;have b8w:=Aside0.mk zx;have b0J:=Aside0.mk Qp;have VA:=Aside0.mk (ah Mw.out NH.out);have a4A:=Aside0.mk (ah b8r.out NH.out);have b8x:=Aside0.mk (ah Bn.out NH.out);have HGd:Aside0 (g1≠g2):=⟨by have h1:=aY Bn.out;have h2:=Vz.out.size;have h3:=b0J.out;omega⟩;have b4g:=Aside0.mk (ai b0I.out NH.out);have zw:=(ag VA.out 4).trans rfl;have hy4:=aa VA.out 4;have Qr:Aside0 ((CL.setCell ⟨wr.heap.size,4,none⟩ (.slice (some ⟨g2,0,none⟩) aj.length aj.length)).heap[wr.heap.size]? =some (.cells #[.bool true,.int .i64 (sm T1 (af.length+aj.length) af.length aj.length).num,.int .i64 ((sm T1 (af.length+aj.length) af.length aj.length).den:Int),.slice (some ⟨g1,0,none⟩) af.length af.length,.slice (some ⟨g2,0,none⟩) aj.length aj.length] 29 (0,0))):=⟨aX VA.out 4 (.slice (some ⟨g2,0,none⟩) aj.length aj.length) (cs':= #[.bool true,.int .i64 (sm T1 (af.length+aj.length) af.length aj.length).num,.int .i64 ((sm T1 (af.length+aj.length) af.length aj.length).den:Int),.slice (some ⟨g1,0,none⟩) af.length af.length,.slice (some ⟨g2,0,none⟩) aj.length aj.length]) rfl⟩;have sI:Aside0 ((CL.setCell ⟨wr.heap.size,4,none⟩ (.slice (some ⟨g2,0,none⟩) aj.length aj.length)).heap[w.heap.size]? =some (.cells kG 29 (0,0))):=⟨bA a4A.out CK.out.2⟩;have hxx0:=(ag Qr.out 0).trans rfl;have hzz0:=(ag sI.out 0).trans rfl;have hyy0:=aa sI.out 0;have hxx1:=(ag Qr.out 1).trans rfl;have hzz1:=(ag sI.out 1).trans rfl;have hyy1:=aa sI.out 1;have hxx2:=(ag Qr.out 2).trans rfl;have hzz2:=(ag sI.out 2).trans rfl;have hyy2:=aa sI.out 2;have hxx3:=(ag Qr.out 3).trans rfl;have hzz3:=(ag sI.out 3).trans rfl;have hyy3:=aa sI.out 3;have hxx4:=(ag Qr.out 4).trans rfl;have hzz4:=(ag sI.out 4).trans rfl;have hyy4:=aa sI.out 4;clear zx YU Qp mq))
   have b8y:Aside0 (((((((CL.setCell ⟨wr.heap.size,4,none⟩ (.slice (some ⟨g2,0,none⟩) aj.length aj.length)).setCell ⟨w.heap.size,0,none⟩ (.bool true)).setCell ⟨w.heap.size,1,none⟩ (.int .i64 (sm T1 (af.length+aj.length) af.length aj.length).num)).setCell ⟨w.heap.size,2,none⟩ (.int .i64 ((sm T1 (af.length+aj.length) af.length aj.length).den:Int))).setCell ⟨w.heap.size,3,none⟩ (.slice (some ⟨g1,0,none⟩) af.length af.length)).setCell ⟨w.heap.size,4,none⟩ (.slice (some ⟨g2,0,none⟩) aj.length aj.length)).heap[w.heap.size]? =some (.cells #[.bool true,.int .i64 (sm T1 (af.length+aj.length) af.length aj.length).num,.int .i64 ((sm T1 (af.length+aj.length) af.length aj.length).den:Int),.slice (some ⟨g1,0,none⟩) af.length af.length,.slice (some ⟨g2,0,none⟩) aj.length aj.length] 29 (0,0))):=⟨aX (aX (aX (aX (aX sI.out 0 (.bool true) (cs':= #[.bool true,.int .i64 0,.int .i64 0,.slice none 0 0,.slice none 0 0]) rfl) 1 (.int .i64 (sm T1 (af.length+aj.length) af.length aj.length).num) (cs':= #[.bool true,.int .i64 (sm T1 (af.length+aj.length) af.length aj.length).num,.int .i64 0,.slice none 0 0,.slice none 0 0]) rfl) 2 (.int .i64 ((sm T1 (af.length+aj.length) af.length aj.length).den:Int)) (cs':= #[.bool true,.int .i64 (sm T1 (af.length+aj.length) af.length aj.length).num,.int .i64 ((sm T1 (af.length+aj.length) af.length aj.length).den:Int),.slice none 0 0,.slice none 0 0]) rfl) 3 (.slice (some ⟨g1,0,none⟩) af.length af.length) (cs':= #[.bool true,.int .i64 (sm T1 (af.length+aj.length) af.length aj.length).num,.int .i64 ((sm T1 (af.length+aj.length) af.length aj.length).den:Int),.slice (some ⟨g1,0,none⟩) af.length af.length,.slice none 0 0]) rfl) 4 (.slice (some ⟨g2,0,none⟩) aj.length aj.length) (cs':= #[.bool true,.int .i64 (sm T1 (af.length+aj.length) af.length aj.length).num,.int .i64 ((sm T1 (af.length+aj.length) af.length aj.length).den:Int),.slice (some ⟨g1,0,none⟩) af.length af.length,.slice (some ⟨g2,0,none⟩) aj.length aj.length]) rfl⟩
   have hk:∀(g:Nat) (cs:Array Value),CL.heap[g]? =some (.cells cs 26 (0,0))->((((((CL.setCell ⟨wr.heap.size,4,none⟩ (.slice (some ⟨g2,0,none⟩) aj.length aj.length)).setCell ⟨w.heap.size,0,none⟩ (.bool true)).setCell ⟨w.heap.size,1,none⟩ (.int .i64 (sm T1 (af.length+aj.length) af.length aj.length).num)).setCell ⟨w.heap.size,2,none⟩ (.int .i64 ((sm T1 (af.length+aj.length) af.length aj.length).den:Int))).setCell ⟨w.heap.size,3,none⟩ (.slice (some ⟨g1,0,none⟩) af.length af.length)).setCell ⟨w.heap.size,4,none⟩ (.slice (some ⟨g2,0,none⟩) aj.length aj.length)).heap[g]? =some (.cells cs 26 (0,0)):=fun g cs h=>by
    have h1:=zM h VA.out (by decide)
    have h2:=zM h a4A.out (by decide)
    exact bA (bA (bA (bA (bA (bA h h1) h2) h2) h2) h2) h2
   have hbel:Below w.heap.size w ((((((CL.setCell ⟨wr.heap.size,4,none⟩ (.slice (some ⟨g2,0,none⟩) aj.length aj.length)).setCell ⟨w.heap.size,0,none⟩ (.bool true)).setCell ⟨w.heap.size,1,none⟩ (.int .i64 (sm T1 (af.length+aj.length) af.length aj.length).num)).setCell ⟨w.heap.size,2,none⟩ (.int .i64 ((sm T1 (af.length+aj.length) af.length aj.length).den:Int))).setCell ⟨w.heap.size,3,none⟩ (.slice (some ⟨g1,0,none⟩) af.length af.length)).setCell ⟨w.heap.size,4,none⟩ (.slice (some ⟨g2,0,none⟩) aj.length aj.length)):=br (br (br (br (br (br b4g.out CK.out.1) (Nat.le_refl _)) (Nat.le_refl _)) (Nat.le_refl _)) (Nat.le_refl _)) (Nat.le_refl _)
   refine bodyPost_ret (results_cell_row rfl _ _ w.heap.size 29 (#[.bool true,.int .i64 (sm T1 (af.length+aj.length) af.length aj.length).num,.int .i64 ((sm T1 (af.length+aj.length) af.length aj.length).den:Int),.slice (some ⟨g1,0,none⟩) af.length af.length,.slice (some ⟨g2,0,none⟩) aj.length aj.length]) (0,0) _ rfl b8y.out Try.underlying29 (by rfl) (by kernel_rfl)) rfl ?_
   refine .inl ⟨HCB.out,g1,cs8,g2,b8u,T1,T2,rfl,HQ7.out,Vy.out,hk _ _ b8x.out,WL.out,hk _ _ b8w.out,b8v.out,HGd.out,?_,?_,hbel⟩
   ·have h1:=HS8.out;have h2:=b0H.out.size;have h3:=b0E.out.size;omega
   ·have h1:=b0J.out;have h2:=Vz.out.size;have h3:=b0I.out.size;omega
theorem YV {W:World} {A:Option Addr} {xs:List cC} (h:Kd.C jh W A xs.length xs):∃rows:List (List Value),rows.length=xs.length/\Kd.C (Kd.raw 3) W A xs.length rows/\∀(j:Nat) (x:cC) (c:List Value),xs[j]? =some x->rows[j]? =some c->jh.K W x c:=
 Kd.Wy (Rr:=jh.K W) (sz:=3) h (fun x c hk=>⟨jh.iW hk,jh.jz hk⟩)
theorem YW {W:World} {A:Option Addr} {xs:List cC} {rows:List (List Value)} (h:Kd.C (Kd.raw 3) W A xs.length rows) (hl:rows.length=xs.length) (hK:∀(j:Nat) (x:cC) (c:List Value),xs[j]? =some x->rows[j]? =some c->jh.K W x c):Kd.C jh W A xs.length xs:=by
 refine ⟨rfl,h.2.1,fun hp=>?_⟩
 obtain ⟨ad,e,hr⟩:=h.2.2 hp
 refine ⟨ad,e,fun j p hj=>?_⟩
 have hjl:=(List.getElem?_eq_some_iff.1 hj).1
 have Yk:rows[j]? =some rows[j]:=List.getElem?_eq_getElem (by omega)
 obtain ⟨c,hc,hk,hcc⟩:=hr j _ Yk
 have hk':c=rows[j]:=hk.1
 exact ⟨c,hc,hK j p c hj (by rw [Yk,hk']),hcc⟩
theorem MR (w:World):Kd.R (Kd.raw 3) 49 (w.alloc (.cells #[] 49)) w.heap.size (fun _=>True) (.slice (some ⟨w.heap.size,0,none⟩) 0 0) []:=
 ⟨fun _ _=>trivial,[],⟨rfl,.inr ⟨w.heap.size,0,#[],rfl,Nat.le_refl _,bW w _,Nat.le_refl _,by unfold maxLen;omega,rfl,rfl⟩⟩,cT.none _ _⟩
theorem DV {W:World} {b:Nat} {u0 u1 u2:Value} (h:W.heap[b]? =some (.cells #[u0,u1,u2] 49 (0,0))) (h0:u0.oneCell'=true) (h1:u1.oneCell'=true) (h2:u2.oneCell'=true):Kd.C (Kd.raw 3) W (some ⟨b,0,none⟩) 1 [[u0,u1,u2]]:=by
 refine ⟨rfl,by omega,fun _=>⟨⟨b,0,none⟩,rfl,fun j p hj=>?_⟩⟩
 rcases j with _|j
 ·simp only [List.getElem?_cons_zero,Option.some.injEq] at hj
  subst hj
  refine ⟨_,rfl,⟨rfl,rfl,fun u hu=>?_⟩,fun i u hu=>?_⟩
  ·simp only [List.mem_cons,List.not_mem_nil,or_false] at hu
   rcases hu with rfl|rfl|rfl
   ·exact h0
   ·exact h1
   ·exact h2
  ·have ea:(Addr.add ⟨b,0,none⟩ (0*3+i))=⟨b,i,none⟩:=by
    rw [Nat.zero_mul,Nat.zero_add]
    unfold Addr.add
    split
    ·next h=>rw [h]
    ·simp
   show W.cell? (Addr.add ⟨b,0,none⟩ (0*3+i))=some u
   rw [ea]
   refine (ag h i).trans ?_
   rw [<-hu]
   simp
 ·simp at hj
def a4B (n:Nat) (most:Bool) (x:Nat->Rat):Option (Nat->Rat)->Option (Nat->Rat)
 |none=>some x
 |some b=>if gN n x b most=true then some x else some b
theorem YX {n:Nat} {all ch:List cC} {most:Bool} {best:Option (Nat->Rat)} (h:fZ n (gQ ch n) n=none):kz n all most ch best=best:=by unfold kz;rw [h]
theorem YY {n:Nat} {all ch:List cC} {most:Bool} {best:Option (Nat->Rat)} {R:Nat->Nat->Rat} (h:fZ n (gQ ch n) n=some R):kz n all most ch best=if all.all (iL (oU R n))=true then a4B n most (oU R n) best else best:=by
 unfold kz;rw [h];cases best<;>rfl
theorem a2a {n:Nat} {ch:List cC} (hch:ch.all (jN (n:Int))=true) (hl:ch.length=n) (hn0:0<n) (hn:n<=7):IG (n:Int) ch=some (qu n ((fZ n (gQ ch n) n).map (fun R=>oU R n)),(fZ n (gQ ch n) n).isSome):=by
 subst hl
 unfold IG
 have:zz (ch.length:Int) ch=true:=by
  unfold zz
  simp only [Bool.and_eq_true,decide_eq_true_eq]
  exact ⟨⟨⟨trivial,hn0⟩,hn⟩,hch⟩
 rw [if_pos this]
 cases fZ ch.length (gQ ch ch.length) ch.length<;>rfl
theorem AQ:(Try.prog.info? 49).map (fun i=>(i.zero,i.size,i.bytes))=some (some (.agg #[.slice none 0 0,.bool false,.int .i64 0]),3,40):=by kernel_rfl
theorem a2b {l:List cC} {p:cC->Bool} {i:Nat} (h:(l.take i).all p=true) (hi:i<l.length) (hp:p l[i]=true):(l.take (i+1)).all p=true:=by
 rw [List.take_succ_eq_append_getElem hi,List.all_append,h]
 simp [hp]
theorem b0K {l:List cC} {p:cC->Bool} {i:Nat} (hi:i<l.length) (hp:p l[i]=false):l.all p=false:=by
 cases h:l.all p with
 |false=>rfl
 |true=>rw [List.all_eq_true.1 h _ (List.getElem_mem hi)] at hp;exact absurd hp (by decide)
theorem MS (n:Nat) (all:List cC) (most:Bool) {ch:List cC} (h:ch.length=n) (d:Nat) (best:Option (Nat->Rat)):fP n all most d ch best=kz n all most ch best:=by
 cases d with
 |zero=>simp only [fP];rw [if_pos h]
 |succ d=>simp only [fP];rw [if_pos h]
theorem YZ (n:Nat) (all:List cC) (most:Bool) {ch:List cC} (h:ch.length<n) {d:Nat} (hd:d<n - ch.length) (best:Option (Nat->Rat)):fP n all most d ch best=best:=by
 cases d with
 |zero=>simp only [fP];rw [if_neg (by omega)]
 |succ d=>simp only [fP];rw [if_neg (by omega),if_pos hd]
theorem a2c (n:Nat) (all:List cC) (most:Bool) {ch:List cC} (h:ch.length<n) {d:Nat} (hd:¬d+1<n - ch.length) (best:Option (Nat->Rat)):fP n all most (d+1) ch best=fP n all most d ch (fP n all most d (ch++[all.getD (all.length -(d+1)) z49]) best):=by
 simp only [fP];rw [if_neg (by omega),if_neg hd]
def BR (W:World) (base n:Nat) (v:Value) (o:Option (Nat->Rat)):Prop:=(∃A c,v= .slice A (qu n o).length c/\(qu n o).length<=c/\fD.C W A (qu n o).length (qu n o))/\(o≠none->Kd.R fD 26 W base (fun _=>True) v (qu n o))
theorem Qs {W W1:World} {base n:Nat} {v:Value} {o:Option (Nat->Rat)} (h:BR W base n v o) (hb:Below W.heap.size W W1):BR W1 base n v o:=by
 obtain ⟨⟨A,c,e,h1,h2⟩,h3⟩:=h
 exact ⟨⟨A,c,e,h1,Kd.bQ h2 hb⟩,fun ho=>Kd.mC (h3 ho) hb⟩
theorem Tf {W:World} {base n:Nat} {v:Value} {x:Nat->Rat} (h:Kd.R fD 26 W base (fun _=>True) v (LQ n x)):BR W base n v (some x):=⟨Kd.sW h,fun _=>h⟩
set_option maxHeartbeats 4000000 in
set_option maxRecDepth 100000 in
theorem ES (n:Nat) (hn0:0<n) (sR:n<=7) (all:List cC) (hall:all.all (jN (n:Int))=true) (Hw:all.length<=100) (most:Bool) (A1:Option Addr) (c1:Nat) (base:Nat) (fr:Int) (A3:Option Addr) (c3:Nat) (ch:List cC) (vb:Value) (best:Option (Nat->Rat)) (w:World)
 (qI:Kd.C jh w A1 all.length all) (hc1:all.length<=c1) (ET:Kd.C jh w A3 ch.length ch) (hc3:ch.length<=c3) (hch:ch.all (jN (n:Int))=true) (qM:ch.length=n) (hcm:SN n best) (hR:BR w base n vb best) (hb:base<=w.heap.size):
 Calls Try.prog 25 #[.int .i64 (n:Int),.slice A1 all.length c1,.int .i64 fr,.slice A3 ch.length c3,vb,.bool most] w fun e w'=>∃v,e= .returned v/\BR w' base n v (kz n all most ch best)/\Below w.heap.size w w':=by
 have hu:=Try.underlying49
 ·
  have Tg:=Aside0.mk (fun W (hb:Below w.heap.size w W)=>Rq (n:Int) A3 c3 ch _ _ W (Kd.bQ ET hb) hc3 (a2a hch qM hn0 sR))
  have iJ:=Aside0.mk (fun W (hb:Below w.heap.size w W)=>Kd.bQ qI hb)
  have HR:=Aside0.mk (fun W (hb:Below w.heap.size w W)=>Qs hR hb)
  have HCm:=Aside0.mk hcm
  have HBb:=Aside0.mk hb
  have HB:=Aside0.mk (Below.refl w.heap.size w)
  have b8z:=Aside0.mk hall
  have HCs:=Aside0.mk (fun R (h:fZ n (gQ ch n) n=some R)=>Yy hch qM sR h)
  have e1:((ch.length:Int)==(n:Int))=true:=by rw [qM];simp
  have YK:(ch.length==n)=true:=by rw [qM];simp
  obtain ⟨Ab,cb,rfl,hlb,Th⟩:=hR.1
  have HLb:=Aside0.mk hlb
  have HCb:=Aside0.mk (fun W (hb:Below w.heap.size w W)=>Kd.bQ Th hb)
  clear qI ET hR hcm hb hall hlb Th qM hch
  cases hg:fZ n (gQ ch n) n with
  |none=>
   have HEq:Aside0 (kz n all most ch best=best):=⟨YX hg⟩
   rw [hg] at Tg
   have a2d:Aside0 (∀W,Below w.heap.size w W->Calls Try.prog 48 #[.int .i64 (n:Int),.slice A3 ch.length c3] W fun e w'=>∃mF:Value,e= .returned (.tuple #[mF,.bool false])/\Kd.R fD 26 w' W.heap.size (fun _=>True) mF []/\Below W.heap.size W w'):=⟨Tg.out⟩
   clear hg Tg HCs
   go_enter Try.func25,Try.ntmps25
   go_wp2_with (first|(go_at_call 48;(with_reducible refine (a2d.out _ HB.out).mono ?_);rintro e w1 ⟨v0,rfl,hr1,hb1⟩;have dG:=Aside0.mk (ai HB.out hb1);clear hr1 hb1))
   go_ret
   refine ⟨_,rfl,?_,dG.out⟩
   rw [HEq.out];exact HR.out _ dG.out
  |some R=>
   have HCx:=Aside0.mk (HCs.out R hg)
   have VB:Aside0 (kz n all most ch best=if all.all (iL (oU R n))=true then a4B n most (oU R n) best else best):=⟨YY hg⟩
   rw [hg] at Tg
   have a2d:Aside0 (∀W,Below w.heap.size w W->Calls Try.prog 48 #[.int .i64 (n:Int),.slice A3 ch.length c3] W fun e w'=>∃mF:Value,e= .returned (.tuple #[mF,.bool true])/\Kd.R fD 26 w' W.heap.size (fun _=>True) mF (LQ n (oU R n))/\Below W.heap.size W w'):=⟨Tg.out⟩
   clear hg Tg HCs
   generalize oU R n=x at*
   go_enter Try.func25,Try.ntmps25
   go_wp2_with (first|(go_at_call 48;(with_reducible refine (a2d.out _ HB.out).mono ?_);rintro e w1 ⟨v0,rfl,hr1,hb1⟩;obtain ⟨Ax,cx,rfl,hxl,hxc⟩:=Kd.sW hr1;have dG:=Aside0.mk (ai HB.out hb1);have pQ:=Aside0.mk hr1;have HXC:=Aside0.mk (fun W (hb:Below w1.heap.size w1 W)=>Kd.bQ hxc hb);have HXL:=Aside0.mk hxl;clear hr1 hb1 hxc hxl))
   have HXR:=Aside0.mk (fun W (hb:Below w1.heap.size w1 W)=>Kd.gG (Kd.mC pQ.out hb) HBb.out)
   have jo:Aside0 (Below w1.heap.size w1 w1):=⟨Below.refl _ _⟩
   clear pQ
   go_loopw [33] (fun iv wr=>∃i:Nat,iv= .int .i64 (i:Int)/\i<=all.length/\Aside0 ((all.take i).all (iL x)=true)/\Aside0 (Below w1.heap.size w1 wr)) (fun iv _=>all.length -(intOf iv).toNat)
   case atStart=>exact ⟨0,rfl,by omega,⟨by simp⟩,jo⟩
   case round=>
    obtain ⟨i,rfl,hi,xw,bL⟩:=hrel
    by_cases hin:i<all.length
    ·have Su:=Aside0.mk hin
     have Ti:Aside0 (Below w.heap.size w wr):=⟨ai dG.out bL.out⟩
     obtain ⟨ad,A0,c0,e,hx0,hx1,hx2,Bw,qI⟩:=Ol (iJ.out _ Ti.out) (i:Int) (by omega) (by omega)
     cases e
     have hd:se all (i:Int)=all[i]:=by
      show all.getD (i:Int).toNat z49=_
      rw [Int.toNat_natCast];simp [List.getD_eq_getElem?_getD,hin]
     rw [hd] at hx0 hx1 hx2 Bw qI
     have hmem:=List.all_eq_true.1 b8z.out _ (List.getElem_mem hin)
     obtain ⟨k,hk⟩:=Ev.rounds (a1L hmem sR HCx.out)
     have hT:=fun (hp:iL x all[i]=true)=>a2b xw.out hin hp
     have hA:=fun (hp:iL x all[i]=false)=>b0K (p:=iL x) hin hp
     generalize all[i]=dd at*
     obtain ⟨iK,up,bd⟩:=dd
     dsimp only at*
     rw [Int.toNat_natCast] at hx0 hx1 hx2
     have g0:(0:Int)<=(i:Int):=by omega
     have g1:(i:Int)<(all.length:Int):=by omega
     have vH:decide ((i:Int)<(all.length:Int))=true:=decide_eq_true g1
     have sD:decide (i<all.length)=true:=decide_eq_true hin
     have fy:Aside0 (wrap64 ((i:Int)+1)=((i+1:Nat):Int)):=⟨eD (by omega)⟩
     have HMt:Aside0 (∀W,Below wr.heap.size wr W->Calls Try.prog 49 #[.slice Ax (LQ n x).length cx,.agg #[.slice A0 iK.length c0,.bool up,.int .i64 bd]] W fun e w'=>e= .returned (.bool (iL x ⟨iK,up,bd⟩))/\Below W.heap.size W w'):=⟨fun W hb=>dg.calls k Ax cx (LQ n x) A0 c0 iK up bd _ W (HXC.out _ (ai bL.out hb)) HXL.out (Kd.bQ qI hb) Bw hk⟩
     clear hk hmem hd hin hi Bw qI
     cases hm:iL x ⟨iK,up,bd⟩ with
     |true=>
      rw [hm] at HMt
      have zu:=Aside0.mk (hT hm)
      clear hT hA hm xw
      go_wp2_with (first|(go_at_call 49;(with_reducible refine (HMt.out _ (aK (Below.refl _ _) _)).mono ?_);rintro e w2 ⟨rfl,hb2⟩;have iw:Aside0 (Below w1.heap.size w1 w2):=⟨ai bL.out (ai (aK (Below.refl _ _) _) hb2)⟩;clear hb2))
      go_roundw
      case rel=>exact ⟨i+1,by first|(rw [fy.out];done)|rfl|(simp;done),Su.out,zu,iw⟩
      case measure=>(try rw [fy.out]);have:=Su.out;simp [intOf];omega
     |false=>
      rw [hm] at HMt
      have HEq:Aside0 (kz n all most ch best=best):=⟨by rw [VB.out,if_neg (by rw [hA hm];decide)]⟩
      clear hT hA hm xw
      go_wp2_with (first|(go_at_call 49;(with_reducible refine (HMt.out _ (aK (Below.refl _ _) _)).mono ?_);rintro e w2 ⟨rfl,hb2⟩;have iw:Aside0 (Below w.heap.size w w2):=⟨ai Ti.out (ai (aK (Below.refl _ _) _) hb2)⟩;clear hb2))
      go_ret
      refine ⟨_,rfl,?_,iw.out⟩
      rw [HEq.out];exact HR.out _ iw.out
    ·have KU:i=all.length:=by omega
     rw [KU,List.take_length] at xw
     have vH:decide ((i:Int)<(all.length:Int))=false:=decide_eq_false (by omega)
     have sD:decide (i<all.length)=false:=decide_eq_false hin
     have Ti:Aside0 (Below w.heap.size w wr):=⟨ai dG.out bL.out⟩
     cases best with
     |none=>
      have HEq:Aside0 (kz n all most ch none=some x):=⟨by rw [VB.out,if_pos xw.out];rfl⟩
      have hl0:(qu n none).length=0:=rfl
      rw [hl0]
      clear KU hin hi xw
      go_wp2
      go_ret
      refine ⟨_,rfl,?_,Ti.out⟩
      rw [HEq.out];exact Tf (HXR.out _ bL.out)
     |some b=>
      have hlq:(qu n (some b)).length=n:=jw n b
      have e2:((n:Int)==0)=false:=beq_eq_false_iff_ne.mpr (by omega)
      have e2n:(n==0)=false:=beq_eq_false_iff_ne.mpr (by omega)
      have b0M:Aside0 (∀W,Below w.heap.size w W->Kd.C fD W Ab (LQ n b).length (LQ n b)):=⟨HCb.out⟩
      obtain ⟨k,hk⟩:=Ev.rounds (Yx sR HCx.out (HCm.out b rfl) most)
      have Ix:Aside0 (∀W,Below w1.heap.size w1 W->Calls Try.prog 50 #[.slice Ax (LQ n x).length cx,.slice Ab (qu n (some b)).length cb,.bool most] W fun e w'=>e= .returned (.bool (gN n x b most))/\Below W.heap.size W w'):=⟨fun W hb=>bq.calls k Ax cx (LQ n x) Ab cb (LQ n b) most _ W (HXC.out _ hb) HXL.out (b0M.out _ (ai dG.out hb)) HLb.out hk⟩
      rw [hlq] at Ix HR⊢
      clear hk KU hin hi HCb b0M hlq
      cases hm:gN n x b most with
      |true=>
       rw [hm] at Ix
       have HEq:Aside0 (kz n all most ch (some b)=some x):=⟨by rw [VB.out,if_pos xw.out];show (if gN n x b most=true then some x else some b)=_;rw [if_pos hm]⟩
       clear hm xw
       go_wp2_with (first|(go_at_call 50;(with_reducible refine (Ix.out _ bL.out).mono ?_);rintro e w2 ⟨rfl,hb2⟩;have iw:Aside0 (Below w1.heap.size w1 w2):=⟨ai bL.out hb2⟩;clear hb2))
       go_ret
       refine ⟨_,rfl,?_,ai dG.out iw.out⟩
       rw [HEq.out];exact Tf (HXR.out _ iw.out)
      |false=>
       rw [hm] at Ix
       have HEq:Aside0 (kz n all most ch (some b)=some b):=⟨by rw [VB.out,if_pos xw.out];show (if gN n x b most=true then some x else some b)=_;rw [if_neg (by rw [hm];decide)]⟩
       clear hm xw
       go_wp2_with (first|(go_at_call 50;(with_reducible refine (Ix.out _ bL.out).mono ?_);rintro e w2 ⟨rfl,hb2⟩;have iw:Aside0 (Below w1.heap.size w1 w2):=⟨ai bL.out hb2⟩;clear hb2))
       go_ret
       refine ⟨_,rfl,?_,ai dG.out iw.out⟩
       rw [HEq.out];exact HR.out _ (ai dG.out iw.out)
set_option maxHeartbeats 4000000 in
set_option maxRecDepth 100000 in
theorem EU (n:Nat) (sR:n<=7) (all:List cC) (Hw:all.length<=100) (most:Bool) (A1:Option Addr) (c1:Nat) (base:Nat) (d fr:Nat) (hfr:fr+d=all.length) (A3:Option Addr) (c3:Nat) (ch:List cC) (vb:Value) (best:Option (Nat->Rat)) (w:World)
 (hc1:all.length<=c1) (hc3:ch.length<=c3) (yE:ch.length<n) (hpa:d<n - ch.length) (hR:BR w base n vb best) (hb:base<=w.heap.size):
 Calls Try.prog 25 #[.int .i64 (n:Int),.slice A1 all.length c1,.int .i64 (fr:Int),.slice A3 ch.length c3,vb,.bool most] w fun e w'=>∃v,e= .returned v/\BR w' base n v (fP n all most d ch best)/\Below w.heap.size w w':=by
 rw [YZ n all most yE hpa]
 have hs1:IntKind.i64.wrap ((fr:Int)+(n:Int))=((fr+n:Nat):Int):=by rw [cZ,cL (by omega) (by omega)];omega
 have hs2:IntKind.i64.wrap (((fr+n:Nat):Int)-(ch.length:Int))=((fr+n - ch.length:Nat):Int):=by rw [cZ,cL (by omega) (by omega)];omega
 have hK:∃q1 q2:Nat,q1=fr+n/\q2=fr+n - ch.length:=⟨_,_,rfl,rfl⟩
 obtain ⟨q1,q2,hq1,hq2⟩:=hK
 rw [<-hq1] at hs1
 rw [<-hq2,<-hq1] at hs2
 have hgt:decide ((q2:Int)>(all.length:Int))=true:=decide_eq_true (by omega)
 have b8A:decide (q2>all.length)=true:=decide_eq_true (by omega)
 have b8B:decide ((all.length:Int)<(q2:Int))=true:=decide_eq_true (by omega)
 have b4h:decide (all.length<q2)=true:=decide_eq_true (by omega)
 have e1:((ch.length:Int)==(n:Int))=false:=beq_eq_false_iff_ne.mpr (by omega)
 have YK:(ch.length==n)=false:=beq_eq_false_iff_ne.mpr (by omega)
 have HR:=Aside0.mk hR
 obtain ⟨Ab,cb,rfl,hlb,Th⟩:=hR.1
 clear hR Th hlb hq1 hq2 hfr
 go_enter Try.func25,Try.ntmps25
 go_wp2
 go_ret
 exact ⟨_,rfl,HR.out,Below.refl _ _⟩
set_option maxHeartbeats 4000000 in
set_option maxRecDepth 100000 in
theorem Rw (n:Nat) (hn0:0<n) (sR:n<=7) (all:List cC) (hall:all.all (jN (n:Int))=true) (Hw:all.length<=100) (most:Bool) (A1:Option Addr) (c1:Nat) (base:Nat):∀d fr:Nat,fr+d=all.length->∀(A3:Option Addr) (c3:Nat) (ch:List cC) (vb:Value) (best:Option (Nat->Rat)) (w:World)
 (qI:Kd.C jh w A1 all.length all) (hc1:all.length<=c1) (ET:Kd.C jh w A3 ch.length ch) (hc3:ch.length<=c3) (hch:ch.all (jN (n:Int))=true) (yE:ch.length<=n) (hcm:SN n best) (hR:BR w base n vb best) (hb:base<=w.heap.size),
 Calls Try.prog 25 #[.int .i64 (n:Int),.slice A1 all.length c1,.int .i64 (fr:Int),.slice A3 ch.length c3,vb,.bool most] w fun e w'=>∃v,e= .returned v/\BR w' base n v (fP n all most d ch best)/\Below w.heap.size w w':=by
 intro d
 induction d with
 |zero=>
  intro fr hfr A3 c3 ch vb best w qI hc1 ET hc3 hch yE hcm hR hb
  by_cases qM:ch.length=n
  ·rw [MS n all most qM]
   exact ES n hn0 sR all hall Hw most A1 c1 base fr A3 c3 ch vb best w qI hc1 ET hc3 hch qM hcm hR hb
  ·exact EU n sR all Hw most A1 c1 base 0 fr hfr A3 c3 ch vb best w hc1 hc3 (by omega) (by omega) hR hb
 |succ d IH=>
  intro fr hfr A3 c3 ch vb best w qI hc1 ET hc3 hch yE hcm hR hb
  by_cases qM:ch.length=n
  ·rw [MS n all most qM]
   exact ES n hn0 sR all hall Hw most A1 c1 base fr A3 c3 ch vb best w qI hc1 ET hc3 hch qM hcm hR hb
  by_cases hpa:d+1<n - ch.length
  ·exact EU n sR all Hw most A1 c1 base (d+1) fr hfr A3 c3 ch vb best w hc1 hc3 (by omega) hpa hR hb
  have hu:=Try.underlying49
  have hlt:fr<all.length:=by omega
  obtain ⟨ad,A0,c0,e,hx0,hx1,hx2,Bw,hCe⟩:=Ol qI (fr:Int) (by omega) (by omega)
  cases e
  have hge:all.getD (all.length -(d+1)) z49=all[fr]:=by
   rw [show all.length -(d+1)=fr by omega];simp [List.getD_eq_getElem?_getD,hlt]
  have hd:se all (fr:Int)=all[fr]:=by
   show all.getD (fr:Int).toNat z49=_
   rw [Int.toNat_natCast];simp [List.getD_eq_getElem?_getD,hlt]
  rw [hd] at hx0 hx1 hx2 Bw hCe
  rw [a2c n all most (by omega) hpa,hge]
  have hmem:=List.all_eq_true.1 hall _ (List.getElem_mem hlt)
  generalize all[fr]=dd at*
  rw [Int.toNat_natCast] at hx0 hx1 hx2
  obtain ⟨rows,hrl,hrc,hrk⟩:=YV ET
  have zN:Aside0 (ch.length<=7):=⟨by omega⟩
  have PL:=Aside0.mk hrc
  have Za:=Aside0.mk hrl
  have HRK:=Aside0.mk hrk
  have VC:(ch++[dd]).all (jN (n:Int))=true:=by rw [List.all_append,hch];simp [hmem]
  have b0O:=DU (most:=most) hall sR d (ch++[dd]) best (by omega) VC hcm
  have SR:Aside0 (∀(A:Option Addr) (c:Nat) (W:World),Below w.heap.size w W->Kd.C jh W A (ch++[dd]).length (ch++[dd])->(ch++[dd]).length<=c->Calls Try.prog 25 #[.int .i64 (n:Int),.slice (some ad) all.length c1,.int .i64 ((fr+1:Nat):Int),.slice A (ch++[dd]).length c,vb,.bool most] W fun e w'=>∃v,e= .returned v/\BR w' base n v (fP n all most d (ch++[dd]) best)/\Below W.heap.size W w'):=⟨fun A c W hb2 hC hc=>IH (fr+1) (by omega) A c (ch++[dd]) vb best W (Kd.bQ qI hb2) hc1 hC hc VC (by rw [List.length_append];simp;omega) hcm (Qs hR hb2) (Nat.le_trans hb hb2.size)⟩
  have MN:Aside0 (∀(v:Value) (W:World),Below w.heap.size w W->BR W base n v (fP n all most d (ch++[dd]) best)->Calls Try.prog 25 #[.int .i64 (n:Int),.slice (some ad) all.length c1,.int .i64 ((fr+1:Nat):Int),.slice A3 ch.length c3,v,.bool most] W fun e w'=>∃v,e= .returned v/\BR w' base n v (fP n all most d ch (fP n all most d (ch++[dd]) best))/\Below W.heap.size W w'):=⟨fun v W hb2 Qh=>IH (fr+1) (by omega) A3 c3 ch v _ W (Kd.bQ qI hb2) hc1 (Kd.bQ ET hb2) hc3 hch yE b0O Qh (Nat.le_trans hb hb2.size)⟩
  have HBb:=Aside0.mk hb
  have HB:=Aside0.mk (Below.refl w.heap.size w)
  have HCe:=Aside0.mk hCe
  have MP:=Aside0.mk Bw
  obtain ⟨Ab,cb,rfl,hlb,Th⟩:=hR.1
  have hs1:IntKind.i64.wrap ((fr:Int)+(n:Int))=((fr+n:Nat):Int):=by rw [cZ,cL (by omega) (by omega)];omega
  have hs2:IntKind.i64.wrap (((fr+n:Nat):Int)-(ch.length:Int))=((fr+n - ch.length:Nat):Int):=by rw [cZ,cL (by omega) (by omega)];omega
  have hs3:IntKind.i64.wrap ((fr:Int)+1)=((fr+1:Nat):Int):=by rw [cZ,cL (by omega) (by omega)];omega
  have hK:∃q1 q2 q3:Nat,q1=fr+n/\q2=fr+n - ch.length/\q3=fr+1:=⟨_,_,_,rfl,rfl,rfl⟩
  obtain ⟨q1,q2,q3,hq1,hq2,hq3⟩:=hK
  rw [<-hq1] at hs1
  rw [<-hq2,<-hq1] at hs2
  rw [<-hq3] at hs3 SR MN
  have hgt:decide ((q2:Int)>(all.length:Int))=false:=decide_eq_false (by omega)
  have b8A:decide (q2>all.length)=false:=decide_eq_false (by omega)
  have b8B:decide ((all.length:Int)<(q2:Int))=false:=decide_eq_false (by omega)
  have b4h:decide (all.length<q2)=false:=decide_eq_false (by omega)
  have e1:((ch.length:Int)==(n:Int))=false:=beq_eq_false_iff_ne.mpr (by omega)
  have YK:(ch.length==n)=false:=beq_eq_false_iff_ne.mpr qM
  have g0:(0:Int)<=(fr:Int):=by omega
  have g1:(fr:Int)<(all.length:Int):=by omega
  obtain ⟨iK,up,bd⟩:=dd
  dsimp only at hx0 hx1 hx2 HCe MP
  clear hrc hrl hrk VC b0O hCe Bw hlb Th IH hmem hd hge hlt hq1 hq2 hq3 hfr qI ET hR hcm hb hch yE qM hpa
  go_enter Try.func25,Try.ntmps25
  go_wp2
  have a2e:Aside0 (Kd.C (Kd.raw 3) w.drew A3 ch.length rows):=⟨Kd.bQ PL.out (bn (Below.refl _ _))⟩
  have jo:Aside0 (Below w.heap.size w w.drew):=⟨bn (Below.refl _ _)⟩
  have HS:Aside0 (∀w',Below w.drew.heap.size w.drew w'->w'.cell? (ad.add (fr*3))=some (.slice A0 iK.length c0)/\w'.cell? ⟨(ad.add (fr*3)).block,(ad.add (fr*3)).off+1,none⟩=some (.bool up)/\w'.cell? ⟨(ad.add (fr*3)).block,(ad.add (fr*3)).off+2,none⟩=some (.int .i64 bd)):=⟨fun w' hb=>by
   have hw:Below w.heap.size w w':=ai (bn (Below.refl _ _)) hb
   exact ⟨(hw.cell (World.block_lt_of_cell? w _ hx0)).trans hx0,(hw.cell (World.block_lt_of_cell? w _ hx1)).trans hx1,(hw.cell (World.block_lt_of_cell? w _ hx2)).trans hx2⟩⟩
  clear hx0 hx1 hx2
  refine eG (n:=10) (S:=fun w'=>w'.cell? (ad.add (fr*3))=some (.slice A0 iK.length c0)/\w'.cell? ⟨(ad.add (fr*3)).block,(ad.add (fr*3)).off+1,none⟩=some (.bool up)/\w'.cell? ⟨(ad.add (fr*3)).block,(ad.add (fr*3)).off+2,none⟩=some (.int .i64 bd)) (ds:=[]) #[false,false,false,false,false,false,false,false,false,false] (by kernel_rfl) rfl rfl (HS.out _ (Below.refl _ _)) (fun hHeld=>?_)
  generalize w.drew=W0 at*
  refine aI (i:=1) (N:=some 65) ?_
  refine aI (i:=3) (N:=some 67) ?_
  refine aI (i:=4) (N:=some 68) ?_
  refine aI (i:=5) (N:=some 69) ?_
  refine cE (i:=6) (N:=some 70) (v:=?_) (a':=?_) #[false,true,false,true,true,true,true,false,false,false] rfl rfl (by kernel_rfl) (fun _ _ _ h=>h) (Or.inl ⟨by rfl,?_⟩) hHeld ?_ ?_
  rotate_left
  ·rintro w' ⟨s0,s1,s2⟩
   go_simp
   with_reducible rfl
  rotate_left
  ·exact dx
  refine b2I (σ:=Value×Value×Value) 2 #[true,true,true,true,true,true,true,true,false,false] (fun s=>[(64,s.1),(66,s.2.1),(71,s.2.2)]) (fun s W=>Kd.R (Kd.raw 3) 49 W W0.heap.size (fun _=>True) s.2.1 rows/\(∃b,s.2.2= .slice (some ⟨b,0,none⟩) 1 1/\Kd.C (Kd.raw 3) W (some ⟨b,0,none⟩) 1 [[.slice A0 iK.length c0,.bool up,.int .i64 bd]])/\Below W0.heap.size W0 W) ?_ (fun hjn=>?_)
  rotate_left
  ·refine a7M (i:=0) (j:=7) (Ni:=some 64) (Nj:=some 71) #[true,true,false,true,true,true,true,false,false,false] #[false,true,false,true,true,true,true,true,false,false] rfl rfl rfl rfl (by kernel_rfl) (by decide) (by decide) (fun K hK=>?_) (fun K hK=>?_)
   ·skip
    refine uq (w1:=?_) (v:=?_) (by rfl) rfl ?_ ?_
    rotate_left 2
    ·go_simp
     constructor
     ·rfl
     ·rfl
    have hb1:Below W0.heap.size W0 (W0.alloc (.cells #[] 49)):=aK (Below.refl _ _) _
    have hr1:=MR W0
    have b8C:W0.heap.size<(W0.alloc (.cells #[] 49)).heap.size:=by rw [kL];omega
    generalize W0.alloc (.cells #[] 49)=W1 at*
    refine hK.out _ _ (HS.out _ hb1) (fun hHeld=>?_)
    clear hK K
    refine eP (a':=?_) ?_ ?_
    rotate_left
    ·show Act.put _ (some 64) _=_
     simp only [Act.put,List.setIfInBounds_toArray,List.set_cons_zero,List.set_cons_succ,cZ,eo]
     rfl
    refine a7M (i:=2) (j:=7) (Ni:=some 66) (Nj:=some 71) #[true,true,true,true,true,true,true,false,false,false] #[true,true,false,true,true,true,true,true,false,false] rfl rfl rfl rfl (by kernel_rfl) (by decide) (by decide) (fun K hK=>?_) (fun K hK=>?_)
    ·skip
     refine Kd.mE (Kd.raw 3) (w0:=W0) W0.heap.size (by rfl) (.tmp 64) (.tmp 65) 47 49 (.agg #[.slice none 0 0,.bool false,.int .i64 0]) 40 rfl Try.underlying47 AQ rfl (by decide) (by omega) (.slice (some ⟨W0.heap.size,0,none⟩) 0 0) [] rows A3 ch.length c3 (fun _=>True) (fun _=>False) rfl rfl hr1 (Kd.bQ a2e.out hb1) (fun _ _ hk=>hk) (fun _ hk=>hk.elim) (fun _ _=>trivial) hb1 hb1.size (by have h2:=zN.out;simp;omega) ?_
     intro v2 W2 hr2 hb2 hg2 VD
     rw [List.nil_append] at hr2
     refine hK.out _ _ (HS.out _ hb2) (fun hHeld=>?_)
     clear hK K
     refine eP (a':=?_) ?_ ?_
     rotate_left
     ·show Act.put _ (some 66) _=_
      simp only [Act.put,List.setIfInBounds_toArray,List.set_cons_zero,List.set_cons_succ,cZ,eo]
      rfl
     refine fK (i:=7) (N:=some 71) #[true,true,true,true,true,true,true,true,false,false] rfl rfl (by kernel_rfl) (by decide) (fun K hK=>?_)
     refine uq (w1:=?_) (v:=?_) (by rfl) rfl ?_ ?_
     rotate_left 2
     ·go_simp
      constructor
      ·rfl
      ·rfl
     refine hK.out _ _ (HS.out _ (aK hb2 _)) (fun hHeld=>?_)
     clear hK K
     refine eP (a':=?_) ?_ ?_
     rotate_left
     ·show Act.put _ (some 71) _=_
      simp only [Act.put,List.setIfInBounds_toArray,List.set_cons_zero,List.set_cons_succ,cZ,eo]
      rfl
     exact hjn (_,_,_) _ ⟨Kd.cF hr2 _,⟨W2.heap.size,rfl,DV (bW W2 _) rfl rfl rfl⟩,aK hb2 _⟩
    ·skip
     refine uq (w1:=?_) (v:=?_) (by rfl) rfl ?_ ?_
     rotate_left 2
     ·go_simp
      constructor
      ·rfl
      ·rfl
     have hb2:Below W0.heap.size W0 (W1.alloc (.cells #[.slice A0 iK.length c0,.bool up,.int .i64 bd] 49)):=aK hb1 _
     have hr2:=Kd.cF hr1 (.cells #[.slice A0 iK.length c0,.bool up,.int .i64 bd] 49)
     have hx2:=DV (bW W1 (.cells #[.slice A0 iK.length c0,.bool up,.int .i64 bd] 49)) rfl rfl rfl
     have hz2:=bW W1 (.cells #[.slice A0 iK.length c0,.bool up,.int .i64 bd] 49)
     generalize W1.alloc (.cells #[.slice A0 iK.length c0,.bool up,.int .i64 bd] 49)=W2 at*
     refine hK.out _ _ (HS.out _ hb2) (fun hHeld=>?_)
     clear hK K
     refine eP (a':=?_) ?_ ?_
     rotate_left
     ·show Act.put _ (some 71) _=_
      simp only [Act.put,List.setIfInBounds_toArray,List.set_cons_zero,List.set_cons_succ,cZ,eo]
      rfl
     refine fK (i:=2) (N:=some 66) #[true,true,true,true,true,true,true,true,false,false] rfl rfl (by kernel_rfl) (by decide) (fun K hK=>?_)
     refine Kd.mE (Kd.raw 3) (w0:=W0) W0.heap.size (by rfl) (.tmp 64) (.tmp 65) 47 49 (.agg #[.slice none 0 0,.bool false,.int .i64 0]) 40 rfl Try.underlying47 AQ rfl (by decide) (by omega) (.slice (some ⟨W0.heap.size,0,none⟩) 0 0) [] rows A3 ch.length c3 (fun _=>True) (fun _=>False) rfl rfl hr2 (Kd.bQ a2e.out hb2) (fun _ _ hk=>hk) (fun _ hk=>hk.elim) (fun _ _=>trivial) hb2 hb2.size (by have h2:=zN.out;simp;omega) ?_
     intro v3 W3 hr3 hb3 hg3 xd
     rw [List.nil_append] at hr3
     refine hK.out _ _ (HS.out _ hb3) (fun hHeld=>?_)
     clear hK K
     refine eP (a':=?_) ?_ ?_
     rotate_left
     ·show Act.put _ (some 66) _=_
      simp only [Act.put,List.setIfInBounds_toArray,List.set_cons_zero,List.set_cons_succ,cZ,eo]
      rfl
     exact hjn (_,_,_) _ ⟨hr3,⟨W1.heap.size,rfl,DV ((hg3.block W1.heap.size (aY hz2) (by show some W1.heap.size≠some W0.heap.size;intro h;injection h with h;omega)).trans hz2) rfl rfl rfl⟩,hb3⟩
   ·skip
    refine uq (w1:=?_) (v:=?_) (by rfl) rfl ?_ ?_
    rotate_left 2
    ·go_simp
     constructor
     ·rfl
     ·rfl
    have hb1:Below W0.heap.size W0 (W0.alloc (.cells #[.slice A0 iK.length c0,.bool up,.int .i64 bd] 49)):=aK (Below.refl _ _) _
    have hx1:=bW W0 (.cells #[.slice A0 iK.length c0,.bool up,.int .i64 bd] 49)
    have b8C:W0.heap.size<(W0.alloc (.cells #[.slice A0 iK.length c0,.bool up,.int .i64 bd] 49)).heap.size:=by rw [kL];omega
    generalize W0.alloc (.cells #[.slice A0 iK.length c0,.bool up,.int .i64 bd] 49)=W1 at*
    refine hK.out _ _ (HS.out _ hb1) (fun hHeld=>?_)
    clear hK K
    refine eP (a':=?_) ?_ ?_
    rotate_left
    ·show Act.put _ (some 71) _=_
     simp only [Act.put,List.setIfInBounds_toArray,List.set_cons_zero,List.set_cons_succ,cZ,eo]
     rfl
    refine fK (i:=0) (N:=some 64) #[true,true,false,true,true,true,true,true,false,false] rfl rfl (by kernel_rfl) (by decide) (fun K hK=>?_)
    refine uq (w1:=?_) (v:=?_) (by rfl) rfl ?_ ?_
    rotate_left 2
    ·go_simp
     constructor
     ·rfl
     ·rfl
    have hb2:Below W0.heap.size W0 (W1.alloc (.cells #[] 49)):=aK hb1 _
    have hr2:=Kd.gG (MR W1) hb1.size
    have hx2:=aq hx1 (.cells #[] 49)
    generalize W1.alloc (.cells #[] 49)=W2 at*
    refine hK.out _ _ (HS.out _ hb2) (fun hHeld=>?_)
    clear hK K
    refine eP (a':=?_) ?_ ?_
    rotate_left
    ·show Act.put _ (some 64) _=_
     simp only [Act.put,List.setIfInBounds_toArray,List.set_cons_zero,List.set_cons_succ,cZ,eo]
     rfl
    refine fK (i:=2) (N:=some 66) #[true,true,true,true,true,true,true,true,false,false] rfl rfl (by kernel_rfl) (by decide) (fun K hK=>?_)
    refine Kd.mE (Kd.raw 3) (w0:=W0) W0.heap.size (by rfl) (.tmp 64) (.tmp 65) 47 49 (.agg #[.slice none 0 0,.bool false,.int .i64 0]) 40 rfl Try.underlying47 AQ rfl (by decide) (by omega) (.slice (some ⟨W1.heap.size,0,none⟩) 0 0) [] rows A3 ch.length c3 (fun _=>True) (fun _=>False) rfl rfl hr2 (Kd.bQ a2e.out hb2) (fun _ _ hk=>hk) (fun _ hk=>hk.elim) (fun _ _=>trivial) hb2 hb2.size (by have h2:=zN.out;simp;omega) ?_
    intro v3 W3 hr3 hb3 hg3 xd
    rw [List.nil_append] at hr3
    refine hK.out _ _ (HS.out _ hb3) (fun hHeld=>?_)
    clear hK K
    refine eP (a':=?_) ?_ ?_
    rotate_left
    ·show Act.put _ (some 66) _=_
     simp only [Act.put,List.setIfInBounds_toArray,List.set_cons_zero,List.set_cons_succ,cZ,eo]
     rfl
    exact hjn (_,_,_) _ ⟨hr3,⟨W0.heap.size,rfl,DV ((hg3.block W0.heap.size (aY hx2) (by show some W0.heap.size≠some W1.heap.size;intro h;injection h with h;omega)).trans hx2) rfl rfl rfl⟩,hb3⟩
  ·rintro ⟨v64,v66,v71⟩ W7 ⟨IQ,⟨b,hv7,hc7⟩,wX⟩
   dsimp only at IQ hv7
   subst hv7
   refine eP (a':=?_) ?_ ?_
   rotate_left
   ·simp only [GJ,Act.put,List.setIfInBounds_toArray,List.set_cons_zero,List.set_cons_succ,cZ,eo]
    rfl
   refine fK (i:=8) (N:=some 72) #[true,true,true,true,true,true,true,true,true,false] rfl rfl (by kernel_rfl) (by decide) (fun K hK=>?_)
   refine Kd.mE (Kd.raw 3) (w0:=W0) W0.heap.size (by rfl) (.tmp 66) (.tmp 71) 47 49 (.agg #[.slice none 0 0,.bool false,.int .i64 0]) 40 rfl Try.underlying47 AQ rfl (by decide) (by omega) v66 rows [[.slice A0 iK.length c0,.bool up,.int .i64 bd]] (some ⟨b,0,none⟩) 1 1 (fun _=>True) (fun _=>False) rfl rfl IQ hc7 (fun _ _ hk=>hk) (fun _ hk=>hk.elim) (fun _ _=>trivial) wX wX.size (by have h1:=Za.out;have h2:=zN.out;simp;omega) ?_
   intro v8 W8 hr8 mq zx b8D
   obtain ⟨A8,c8,rfl,hl8,hc8⟩:=Kd.sW hr8
   have hlen:(rows++[[Value.slice A0 iK.length c0,Value.bool up,Value.int .i64 bd]]).length=(ch++[(⟨iK,up,bd⟩:cC)]).length:=by rw [List.length_append,List.length_append,Za.out];rfl
   have hbw:Below w.heap.size w W8:=ai jo.out mq
   have hk8:∀(j:Nat) (x:cC) (c:List Value),(ch++[(⟨iK,up,bd⟩:cC)])[j]? =some x->(rows++[[.slice A0 iK.length c0,.bool up,.int .i64 bd]])[j]? =some c->jh.K W8 x c:=fun j x c hx hc=>by
    by_cases hj:j<ch.length
    ·rw [List.getElem?_append_left hj] at hx
     rw [List.getElem?_append_left (by rw [Za.out];exact hj)] at hc
     exact jh.jf hbw (HRK.out j x c hx hc)
    ·rw [List.getElem?_append_right (by omega)] at hx
     rw [List.getElem?_append_right (by rw [Za.out];omega),Za.out] at hc
     rcases hj0:j - ch.length with _|q
     ·rw [hj0] at hx hc
      simp only [List.getElem?_cons_zero,Option.some.injEq] at hx hc
      subst hx;subst hc
      exact a8b W8 _ MP.out (Kd.bQ HCe.out hbw)
     ·rw [hj0] at hx;simp at hx
   rw [hlen] at hc8 hl8⊢
   have HC8:=Aside0.mk (YW hc8 hlen hk8)
   have MT:=Aside0.mk hl8
   have Cl:=Aside0.mk hbw
   have b0R:=Aside0.mk mq
   generalize (ch++[(⟨iK,up,bd⟩:cC)]).length=m8 at*
   clear hc8 hl8 hk8 hbw mq zx b8D hr8 IQ hc7 wX hlen
   refine hK.out _ _ (HS.out _ b0R.out) (fun hHeld=>?_)
   clear hK K hHeld
   refine eP (a':=?_) ?_ ?_
   rotate_left
   ·show Act.put _ (some 72) _=_
    simp only [Act.put,List.setIfInBounds_toArray,List.set_cons_zero,List.set_cons_succ,cZ,eo]
    rfl
   refine fK (i:=9) (N:=some 17) #[true,true,true,true,true,true,true,true,true,true] rfl rfl (by kernel_rfl) (by decide) (fun K hK=>?_)
   refine uq (w1:=?_) (v:=?_) (by rfl) rfl ?_ ?_
   rotate_left 2
   ·go_simp
    constructor
    ·rfl
    ·rfl
   refine hK.out _ _ (HS.out _ b0R.out) (fun hHeld=>?_)
   clear hK K hHeld
   refine eP (a':=?_) ?_ ?_
   rotate_left
   ·show Act.put _ (some 17) _=_
    simp only [Act.put,List.setIfInBounds_toArray,List.set_cons_zero,List.set_cons_succ,cZ,eo]
    rfl
   refine fl (by kernel_rfl) ?_
   have Qo:(1:Nat)<2:=by decide
   go_wp2_with (first
    |(go_at_call 25;have tk:=Qo;(with_reducible refine (SR.out _ _ _ Cl.out HC8.out MT.out).mono ?_);clear tk Qo;rintro e W9 ⟨v9,rfl,SC,IE⟩;have Mx:=Aside0.mk (ai Cl.out IE);have HR9:=Aside0.mk SC;clear SC IE)
    |(go_at_call 25;(with_reducible refine (MN.out _ _ Mx.out HR9.out).mono ?_);rintro e W10 ⟨v10,rfl,b0S,b0T⟩;have KT:=Aside0.mk (ai Mx.out b0T);have b8E:=Aside0.mk b0S;clear b0S b0T))
   go_ret
   exact ⟨_,rfl,b8E.out,KT.out⟩
def CM (a:Int) (l1:List cC) (a2:Int) (l3:List cC) (l4:List bV):Bool:=decide (a2=0)&&l3.isEmpty&&l4.isEmpty&&decide (0<a)&&decide (a<=7)&&decide (l1.length<=100)&&l1.all (jN a)
def IU (a:Int) (l1:List cC) (a2:Int) (l3:List cC) (l4:List bV) (most:Bool):Option (List bV):=
 if CM a l1 a2 l3 l4=true then (fP a.toNat l1 most l1.length [] none).map (LQ a.toNat) else none
theorem VE (a:Int) (A1:Option Addr) (c1:Nat) (l1:List cC) (a2:Int) (A3:Option Addr) (c3:Nat) (l3:List cC) (A4:Option Addr) (c4:Nat) (l4:List bV) (most:Bool) (r:List bV) (w:World)
 (hr1:Kd.C jh w A1 l1.length l1) (hc1:l1.length<=c1) (hr3:Kd.C jh w A3 l3.length l3) (hc3:l3.length<=c3) (hr4:Kd.C fD w A4 l4.length l4) (hc4:l4.length<=c4) (h:IU a l1 a2 l3 l4 most=some r):
 Calls Try.prog 25 #[.int .i64 a,.slice A1 l1.length c1,.int .i64 a2,.slice A3 l3.length c3,.slice A4 l4.length c4,.bool most] w fun e w'=>∃mF:Value,e= .returned (mF)/\Kd.R fD 26 w' w.heap.size (fun _=>True) mF r/\Below w.heap.size w w':=by
 unfold IU at h
 by_cases hg:CM a l1 a2 l3 l4=true
 ·rw [if_pos hg] at h
  unfold CM at hg
  simp only [Bool.and_eq_true,decide_eq_true_eq,List.isEmpty_iff] at hg
  obtain ⟨⟨⟨⟨⟨⟨rfl,rfl⟩,rfl⟩,h0⟩,h7⟩,hl⟩,hall⟩:=hg
  obtain ⟨n,rfl⟩:∃n:Nat,a=(n:Int):=⟨a.toNat,by omega⟩
  rw [Int.toNat_natCast] at h
  obtain ⟨x,hx,rfl⟩:=Option.map_eq_some_iff.1 h
  have hbr:BR w w.heap.size n (.slice A4 ([]:List bV).length c4) none:=⟨⟨A4,c4,rfl,hc4,hr4⟩,fun h=>absurd rfl h⟩
  refine (Rw n (by omega) (by omega) l1 hall hl most A1 c1 w.heap.size l1.length 0 (by omega) A3 c3 [] _ none w hr1 hc1 hr3 hc3 rfl (Nat.zero_le _) (fun x hx=>by simp at hx) hbr (Nat.le_refl _)).mono ?_
  rintro e w' ⟨v,rfl,hR,hB⟩
  rw [hx] at hR
  exact ⟨v,rfl,hR.2 (by simp),hB⟩
 ·rw [if_neg hg] at h;exact absurd h (by simp)
end Go.Proofs.Ytnhknojfpjheoaa.PT
namespace Go.Proofs.Ytnhknojfpjheoaa.P
open Go.RowKit Go.Proofs.YtnhknojfpjheoaaW.PrintWords Go.Proofs.YtnhknojfpjheoaaW.PrintLast Go.Proofs.YtnhknojfpjheoaaW.PrintMore
attribute [local go_sem] max2_int min2_int max_two min_two max_three min_three max_four min_four
set_option linter.all false
def dI.f (k:Nat) (a0:Int) (l1:List (cC)) (a2:Int) (l3:List (cC)) (l4:List (bV)) (a5:Bool):Option ((List (bV))):=
 PT.IU a0 l1 a2 l3 l4 a5
theorem dI.mono:∀a0 a1 a2 a3 a4 a5 k,aW (dI.f k a0 a1 a2 a3 a4 a5) (dI.f (k+1) a0 a1 a2 a3 a4 a5):=by
 intro a0 a1 a2 a3 a4 a5 k
 exact aW.refl _
theorem dI.calls (k:Nat) (a0:Int) (A1:Option Addr) (c1:Nat) (l1:List (cC)) (a2:Int) (A3:Option Addr) (c3:Nat) (l3:List (cC)) (A4:Option Addr) (c4:Nat) (l4:List (bV)) (a5:Bool) (r:List (bV)) (w:World) (hr1:Kd.C jh w A1 l1.length l1) (hc1:l1.length<=c1) (hr3:Kd.C jh w A3 l3.length l3) (hc3:l3.length<=c3) (hr4:Kd.C fD w A4 l4.length l4) (hc4:l4.length<=c4) (h:dI.f k a0 l1 a2 l3 l4 a5=some r):
 Calls Try.prog 25 #[.int .i64 a0,.slice A1 l1.length c1,.int .i64 a2,.slice A3 l3.length c3,.slice A4 l4.length c4,.bool a5] w fun e w'=>∃mF:Value,e= .returned (mF)/\Kd.R fD 26 w' w.heap.size (fun _=>True) mF r/\Below w.heap.size w w':=by
 exact PT.VE a0 A1 c1 l1 a2 A3 c3 l3 A4 c4 l4 a5 r w hr1 hc1 hr3 hc3 hr4 hc4 h
def bH.l0:Nat->Int->List Int->Int->Int->Option (Bool)
 |0,_,_,_,_=>none
 |k+1,x1,x7,x8,x9=>if x9<x8 then (if 0<=x9 then (if x9<(x7.length:Int) then (if x1=(rd x7 x9) then (some true) else (bH.l0 k x1 x7 x8 (wrap64 (x9+1)))) else (none)) else (none)) else (some false)
def bH.f (k:Nat) (l0:List Int) (a1:Int):Option (Bool):=bH.l0 k a1 l0 (l0.length:Int) 0
theorem bH.cH:∀k,(∀y0 y1 y2 y3,aW (bH.l0 k y0 y1 y2 y3) (bH.l0 (k+1) y0 y1 y2 y3))
 |0=>fun _ _ _ _ r h=>by simp [bH.l0] at h
 |k+1=>by
  have dP:=bH.cH k
  ·intro y0 y1 y2 y3
   unfold bH.l0
   repeat' first
   |(with_reducible exact dP _ _ _ _)
   |(with_reducible exact aW.refl _)
   |(with_reducible exact aW.none _)
   |(with_reducible refine aW.ite ?_ ?_)
   |(with_reducible refine aW.bind ?_ (fun _=>?_))
theorem bH.mono:∀a0 a1 k,aW (bH.f k a0 a1) (bH.f (k+1) a0 a1):=by
 intro a0 a1 k
 have dP:=bH.cH k
 unfold bH.f
 repeat' first
  |(with_reducible exact dP _ _ _ _)
  |(with_reducible exact aW.refl _)
  |(with_reducible exact aW.none _)
  |(with_reducible refine aW.ite ?_ ?_)
  |(with_reducible refine aW.bind ?_ (fun _=>?_))
set_option maxHeartbeats 8000000 in
set_option maxRecDepth 100000 in
theorem bH.calls (k:Nat) (A0:Option Addr) (c0:Nat) (l0:List Int) (a1:Int) (r:Bool) (w:World) (fE:Kd.C (Kd.int .i64) w A0 l0.length l0) (hc0:l0.length<=c0) (h:bH.f k l0 a1=some r):
 Calls Try.prog 23 #[.slice A0 l0.length c0,.int .i64 a1] w fun e w'=>e= .returned (.bool r)/\bl w w':=by
 have eL:=Aside0.mk fE
 have kB:=Aside0.mk hc0
 clear fE hc0
 have H:(bH.l0 k a1 l0 (l0.length:Int) 0)=some r:=h
 clear h
 have H':=Aside0.mk H
 clear H
 go_enter Try.func23,Try.ntmps23
 go_wp2
 go_loopg [9] k (fun kq v9 w'=>∃(cu:Int),v9= .int .i64 cu/\Aside0 (bH.l0 kq a1 l0 (l0.length:Int) cu=some r)/\Aside0 (kq<=k)/\bl w w')
 case atStart=>exact ⟨(0),(by first|rfl|(simp;done)|(simp [*];done)),H',⟨Nat.le_refl _⟩,by repeat (first|exact bl.refl _|apply bl.step)⟩
 case round=>
  clear H'
  try clear c2
  try clear p2
  obtain ⟨cu,rfl,HA,fI,⟨m1,rfl⟩⟩:=hrel
  cases gk with
  |zero=>exact absurd HA.out (by simp [bH.l0])
  |succ k1=>
   have H:=HA.out
   clear HA
   simp only [bH.l0] at H
   by_cases c3:cu<(l0.length:Int)
   ·rw [if_pos c3] at H
    have gw:decide (cu<(l0.length:Int))=true:=decide_eq_true c3
    clear c3
    by_cases c4:0<=cu
    ·rw [if_pos c4] at H
     have kP:decide (0<=cu)=true:=decide_eq_true c4
     clear c4
     by_cases c5:cu<(l0.length:Int)
     ·rw [if_pos c5] at H
      have sZ:decide (cu<(l0.length:Int))=true:=decide_eq_true c5
      clear c5
      by_cases c6:a1=(rd l0 cu)
      ·rw [if_pos c6] at H
       have oQ:(a1==(rd l0 cu))=true:=beq_iff_eq.mpr c6
       have OL:(a1 !=(rd l0 cu))=false:=bne_eq_false_iff_eq.mpr c6
       clear c6
       obtain rfl:=Option.some.inj H
       have Gh:0<=(cu:Int):=of_decide_eq_true (by first|(with_reducible assumption)|assumption)
       have Gi:cu<(l0.length:Int):=of_decide_eq_true (by first|(with_reducible assumption)|assumption)
       obtain ⟨b4i,a2f,a6W⟩:=Kd.fC eL.out cu Gh Gi
       cases a2f
       replace Gh:=eq_true Gh
       replace Gi:=eq_true Gi
       go_wp2
       go_ret
       exact ⟨by first|rfl|(simp;done)|(simp [*];done),by repeat (first|exact bl.refl _|apply bl.step)⟩
      ·rw [if_neg c6] at H
       have oQ:(a1==(rd l0 cu))=false:=beq_eq_false_iff_ne.mpr c6
       have OL:(a1 !=(rd l0 cu))=true:=bne_iff_ne.mpr c6
       have H':=Aside0.mk H
       clear H
       have Gh:0<=(cu:Int):=of_decide_eq_true (by first|(with_reducible assumption)|assumption)
       have Gi:cu<(l0.length:Int):=of_decide_eq_true (by first|(with_reducible assumption)|assumption)
       obtain ⟨b4i,a2f,a6W⟩:=Kd.fC eL.out cu Gh Gi
       cases a2f
       replace Gh:=eq_true Gh
       replace Gi:=eq_true Gi
       go_wp2
       go_roundg k1
       case measure=>have:=fI.out;omega
       case rel=>exact ⟨(wrap64 (cu+1)),(by first|rfl|(simp;done)|(simp [*];done)),H',⟨by have:=fI.out;omega⟩,by repeat (first|exact bl.refl _|apply bl.step)⟩
     ·rw [if_neg c5] at H
      exact absurd H (by simp)
    ·rw [if_neg c4] at H
     exact absurd H (by simp)
   ·rw [if_neg c3] at H
    have gw:decide (cu<(l0.length:Int))=false:=decide_eq_false c3
    clear c3
    obtain rfl:=Option.some.inj H
    go_wp2
    go_ret
    exact ⟨by first|rfl|(simp;done)|(simp [*];done),by repeat (first|exact bl.refl _|apply bl.step)⟩
end Go.Proofs.Ytnhknojfpjheoaa.P
