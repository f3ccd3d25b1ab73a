/-
  The law FnCover answers true at every argument.
-/
import Derived.Test.YtnhknojfpjheoaaRows
import Derived.Test.YtnhknojfpjheoaaKCover2
import Derived.Test.YtnhknojfpjheoaaKCover14
import Derived.Test.YtnhknojfpjheoaaKCover15
import Derived.Deep.CutBlock
import Derived.WalkKit
import Derived.ProofKit
import Derived.OpenShut
import Derived.ShutString
import Derived.ChangeOld
import Derived.Below
import Derived.SizedLaws
import Derived.Lib.SmallJoins
namespace Go.Proofs.Ytnhknojfpjheoaa.PT
open Go.RowKit Go.Proofs.Ytnhknojfpjheoaa.P Go.Proofs.YtnhknojfpjheoaaW.PrintWords Go.Proofs.YtnhknojfpjheoaaW.PrintLast Go.Proofs.Ytnhknojfpjheoaa.EvKit
set_option linter.all false
set_option maxHeartbeats 8000000 in
set_option maxRecDepth 100000 in
theorem Gv {w:World} {A:Option Addr} {n c:Nat} (hn:n<=1048576) (hnc:n<=c) (hL:Wb w A n):
 Calls Try.prog 17 #[.slice A n c] w fun e w'=>Df w w' e:=by
 have Ac:Aside0 (Zz w w.heap.size A n c):=⟨⟨hn,hnc,Nat.le_refl _,hL⟩⟩
 have kB:Aside0 (lG (w.alloc (.cells #[.slice A n c,.int .i64 0,.int .i64 0] 70)) w.heap.size A n c 0):=⟨⟨0,0,bW _ _,Int.le_refl _,by omega,Int.le_refl _,by decide⟩⟩
 have jo:Aside0 (Below w.heap.size w (w.alloc (.cells #[.slice A n c,.int .i64 0,.int .i64 0] 70))):=⟨aK (Below.refl _ _) _⟩
 clear hn hnc hL
 go_enter Try.func17,Try.ntmps17
 go_upto_if 29 with (first|(go_at_call 40;go_loud ((with_reducible refine (ZA Ac.out (by omega) jo.out kB.out).mono ?_);rintro e w1 ⟨m,rfl,_,fJ,fA,fq⟩;have iJ:=Aside0.mk fJ;have dG:=Aside0.mk fA;clear fJ fA fq))|(go_at_call 41;go_loud ((with_reducible refine (Gu Ac.out (by omega) dG.out iJ.out).mono ?_);rintro e w2 ⟨K,v,hs,rfl,hK2,ZO,he_,h1_,h7_⟩;have kZ:=Aside0.mk he_;have Mi:=Aside0.mk (And.intro h1_ h7_);have hw2:wrap64 ((K:Int)+2)=(K:Int)+2:=rN (by omega) (by omega);have lz:=Aside0.mk (And.intro hK2 ZO);clear he_ h1_ h7_ hK2 ZO))|(go_at_call 42;go_loud ((with_reducible refine (xy K ((K:Int)+2) (by have:=lz.out;omega) (by have:=lz.out;omega) (by have:=lz.out;omega) Ac.out (by omega) kZ.out.dN kZ.out.cur).mono ?_);rintro e w3 ⟨B,d,set,rfl,vZ,fJ,fA,fq,ZU⟩;have ED:Aside0 (Dc w w3 w.heap.size A n c (0+1+1000+300) v hs (.slice B set.length d) set):=⟨b2m kZ.out Mi.out vZ fJ fA fq ZU⟩;clear vZ fJ fA fq ZU hw2))|(go_at_call 43;go_loud ((with_reducible refine (kg 3 (by decide) Ac.out (by omega) ED.out.dR.dN ED.out.dR.cur).mono ?_);rintro e w4 ⟨y,rfl,_,fJ,fA,fq⟩;have HD4:=Aside0.mk (ED.out.step fq fJ fA);clear fJ fA fq)))
 obtain ⟨b29,b2z⟩:∃b,(y==0)=b:=⟨_,rfl⟩
 rw [b2z]
 clear b2z iJ dG kZ Mi ED kB jo
 go_cut [8,9] from 30 to 39 (fun vb s9 wx=>∃l,Aside0 (Dc w wx w.heap.size A n c (0+1+1000+300+1) v hs vb l))
 case first=>
  cases b29 with
  |true=>
   go_wp2
   have GV:=Aside0.mk (tR w4)
   have mg:=Aside0.mk (aK (Below.refl w4.heap.size w4) (.cells #[] 3))
   go_loopw [9,8] (fun iv ev wr=>∃(i:Nat) (l:List Int),iv= .int .i64 (i:Int)/\i<=K/\Aside0 (Kd.R (Kd.int .i64) 3 wr w4.heap.size (fun _=>True) ev l)/\Aside0 (l.length<=i)/\Aside0 (Below w4.heap.size w4 wr)) (fun iv _ _=>K -(intOf iv).toNat)
   case atStart=>exact ⟨0,[],rfl,Nat.zero_le _,GV,⟨Nat.le_refl _⟩,mg⟩
   case round=>
    clear GV mg
    obtain ⟨i,l,rfl,hi,HO,zN,mg⟩:=hrel
    by_cases h1:i<K
    ·have gp:=Aside0.mk h1
     have gd:decide ((i:Int)<(K:Int))=true:=decide_eq_true (by omega)
     have gn:decide (i<K)=true:=decide_eq_true h1
     have fy:Aside0 (wrap64 ((i:Int)+1)=((i+1:Nat):Int)):=⟨eD (by have:=lz.out;omega)⟩
     clear h1 hi
     go_wp2_with (first|((with_reducible refine cK (b:= .append) (xs:= #[.tmp 36,.tmp 38]) rfl ?_);at_builtin;go_loud (refine Kd.fB (Kd.int .i64) (w0:=w4) w4.heap.size rfl _ _ 22 3 (.int .i64 0) 8 rfl Try.underlying22 info3 rfl (by decide) (by omega) u8 l (i:Int) [.int .i64 (i:Int)] (fun _=>True) (fun _=>False) rfl (by first|rfl|(go_simp;done)|(go_simp;rfl)) rfl (fun _ hk=>hk.elim) (fun _ _=>trivial) HO.out mg.out mg.out.size (by have:=zN.out;have:=gp.out;have:=lz.out;omega) ?_;intro v1 wa uo hb1 hg1 nB;have rT:=Aside0.mk uo;have dG:=Aside0.mk hb1;clear uo hb1 hg1 nB)))
     go_roundw
     case rel=>exact ⟨i+1,_,by first|(rw [fy.out];done)|rfl|(simp;done),gp.out,rT,⟨by rw [List.length_append];have:=zN.out;simp;omega⟩,dG⟩
     case measure=>(try rw [fy.out]);have:=gp.out;simp [intOf];omega
    ·have gd:decide ((i:Int)<(K:Int))=false:=decide_eq_false (by omega)
     have gn:decide (i<K)=false:=decide_eq_false h1
     have Ub:=Aside0.mk (Rg HD4.out mg.out HO.out (by have:=zN.out;have:=lz.out;omega))
     clear h1 hi
     go_wp2
     go_meet
     case rel=>exact ⟨l,Ub⟩
  |false=>
   go_wp2
   go_meet
   case rel=>exact ⟨set,HD4⟩
 case rest=>
 obtain ⟨l,Ub⟩:=hcut
 generalize wc=w5 at*
 clear HD4
 go_upto_if 42 with (first|(go_at_call 43;go_loud ((with_reducible refine (kg 6 (by decide) Ac.out (by omega) Ub.out.dR.dN Ub.out.dR.cur).mono ?_);rintro e w6 ⟨y6,rfl,_,fJ,fA,fq⟩;have HD6:=Aside0.mk (Ub.out.step fq fJ fA);clear fJ fA fq)))
 obtain ⟨b42,b2A⟩:∃b,(y6==5)=b:=⟨_,rfl⟩
 rw [b2A]
 clear b2A Ub
 go_cut [7,8,10,11] from 43 to 68 (fun v vb s10 s11 wx=>∃hs l,Aside0 (Dc w wx w.heap.size A n c 3000 v hs vb l))
 case first=>
  cases b42 with
  |true=>
   have Uc:=Aside0.mk (ZL HD6.out [0,1,2,3] [[0,1,2],[0,1,3],[0,2,3],[1,2,3]] (by decide) (by decide) (by decide) (by decide))
   go_upto_block 1 with fail
   refine (kg 3 (by decide) Ac.out (by omega) Uc.out.dR.dN Uc.out.dR.cur).mono ?_
   rintro e w8 ⟨y8,rfl,hy_,fJ,fA,fq⟩
   have kW:Aside0 (Dc w w8 w.heap.size A n c (0+1+1000+300+1+1+1) (.slice (some ⟨w6.heap.size+1+1+1+1+1,0,none⟩) 4 4) (oG (w6.heap.size+1) [[0,1,2],[0,1,3],[0,2,3],[1,2,3]]) (.slice (some ⟨w6.heap.size,0,none⟩) 4 4) [0,1,2,3]):=⟨Uc.out.step fq fJ fA⟩
   have MT:Aside0 ((oG (w6.heap.size+1) [[0,1,2],[0,1,3],[0,2,3],[1,2,3]]).length=4):=⟨rfl⟩
   obtain ⟨N,hN⟩:∃N:Nat,y8=(N:Int):=⟨y8.toNat,by omega⟩
   subst hN
   have BC:Aside0 (N<=2):=⟨by omega⟩
   clear hy_ fJ fA fq Uc HD6
   generalize oG (w6.heap.size+1) [[0,1,2],[0,1,3],[0,2,3],[1,2,3]]=Qp at*
   go_wp2
   go_loopw [11,7] (fun iv ev wr=>∃(i:Nat) (hs:List fj),iv= .int .i64 (i:Int)/\i<=N/\Aside0 (Dc w wr w.heap.size A n c (1400+301*i) ev hs (.slice (some ⟨w6.heap.size,0,none⟩) 4 4) [0,1,2,3])/\Aside0 (hs.length<=4+i)) (fun iv _ _=>N -(intOf iv).toNat)
   case atStart=>exact ⟨0,Qp,rfl,Nat.zero_le _,⟨kW.out.up (by decide)⟩,⟨by have:=MT.out;omega⟩⟩
   case round=>
    clear kW MT
    obtain ⟨i,hs,rfl,hi,HD,zN⟩:=hrel
    obtain ⟨E7,d7,e7⟩:=Kd.cX HD.out.dR.own
    subst e7
    by_cases h1:i<N
    ·have gp:=Aside0.mk h1
     have gd:decide ((i:Int)<(N:Int))=true:=decide_eq_true (by omega)
     have gn:decide (i<N)=true:=decide_eq_true h1
     have fy:Aside0 (wrap64 ((i:Int)+1)=((i+1:Nat):Int)):=⟨eD (by have:=BC.out;omega)⟩
     have HZ:Aside0 (Calls Try.prog 42 #[.pointer (some ⟨w.heap.size,0,none⟩),.int .i64 5,.int .i64 2] wr (LI w wr w.heap.size A n c (1400+301*i+300))):=⟨xy 5 2 (by decide) (by decide) (by decide) Ac.out (by have:=BC.out;omega) HD.out.dR.dN HD.out.dR.cur⟩
     clear h1 hi
     go_wp2_with (first|(go_at_call 42;go_loud ((with_reducible refine HZ.out.mono ?_);rintro e w9 ⟨B,d,r,rfl,vZ,fJ,fA,fq,ZU⟩;have rH:=Aside0.mk vZ;have HAp:=Aside0.mk (ZM HD.out.aj vZ.ne ZU);have sV:=Aside0.mk (HD.out.step fq fJ fA);have ZV:=Aside0.mk (TW (w:=w) (W:=w9) (B,r.length,d) fA.size);have HC9:=Aside0.mk (Kd.bQ (a5m sV.out.dR.own).2 (aK (Below.refl _ _) (.cells #[jQ (B,r.length,d)] 22)));clear vZ fJ fA fq ZU))|((with_reducible refine cK (b:= .append) (xs:= #[.tmp 58,.tmp 59]) rfl ?_);at_builtin;go_loud (refine Kd.qN kH (w0:=w) w.heap.size rfl _ _ 23 22 (.slice none 0 0) 24 rfl Try.underlying23 rZ rfl (by decide) (by omega) (.slice (some ⟨w9.heap.size,0,none⟩) 1 1) [(B,r.length,d)] hs E7 hs.length d7 (fun _=>True) (fun _=>False) rfl rfl ZV.out HC9.out (fun _ _ hk=>hk) (fun _ hk=>hk.elim) (fun _ _=>trivial) (aK sV.out.dR.dN _) (aK sV.out.dR.dN _).size (by have:=zN.out;have:=BC.out;have:=gp.out;simp;omega) ?_;intro ve we ho hb hg hat;have Gw:=Aside0.mk (a2K sV.out rH.out HAp.out (by have:=zN.out;have:=BC.out;have:=gp.out;omega) ho hb hg);clear ho hb hg hat)))
     go_roundw
     case rel=>exact ⟨i+1,_,by first|(rw [fy.out];done)|rfl|(simp;done),gp.out,⟨Gw.out.up (by omega)⟩,⟨by rw [List.length_append];have:=zN.out;simp;omega⟩⟩
     case measure=>(try rw [fy.out]);have:=gp.out;simp [intOf];omega
    ·have gd:decide ((i:Int)<(N:Int))=false:=decide_eq_false (by omega)
     have gn:decide (i<N)=false:=decide_eq_false h1
     have HL6:Aside0 (hs.length<=6):=⟨by have:=zN.out;have:=BC.out;omega⟩
     have Jx:Aside0 (Dc w wr w.heap.size A n c 2500 (.slice E7 hs.length d7) hs (.slice (some ⟨w6.heap.size,0,none⟩) 4 4) [0,1,2,3]):=⟨HD.out.up (by have:=BC.out;omega)⟩
     clear h1 hi HD
     go_upto_if 63 with (first|(go_at_call 43;go_loud ((with_reducible refine (kg 3 (by decide) Ac.out (by omega) Jx.out.dR.dN Jx.out.dR.cur).mono ?_);rintro e lO ⟨IX,rfl,_,fJ,fA,fq⟩;have Gw:=Aside0.mk (Jx.out.step fq fJ fA);clear fJ fA fq)))
     obtain ⟨b63,b2D⟩:∃b,(IX==0)=b:=⟨_,rfl⟩
     rw [b2D]
     clear b2D Jx
     cases b63 with
     |true=>
      go_wp2_with (first|((with_reducible refine cK (b:= .append) (xs:= #[.tmp 64,.tmp 66]) rfl ?_);at_builtin;go_loud (refine Kd.fB kH (w0:=w) w.heap.size rfl _ _ 23 22 (.slice none 0 0) 24 rfl Try.underlying23 rZ rfl (by decide) (by omega) (.slice E7 hs.length d7) hs (some ⟨lO.heap.size,0,none⟩,2,2) [jQ (some ⟨lO.heap.size,0,none⟩,2,2)] (fun _=>True) (fun _=>False) rfl (by first|rfl|(go_simp;done)|(go_simp;rfl)) rfl (fun _ hk=>hk.elim) (fun _ _=>trivial) (Kd.cF Gw.out.dR.own _) (aK Gw.out.dR.dN _) (aK Gw.out.dR.dN _).size (by have:=HL6.out;omega) ?_;intro ve we ho hb hg hat;have b9l:=Aside0.mk (b2o Gw.out (r:=[3,4]) rfl (by decide) (by decide) (by decide) (by have:=HL6.out;omega) ho hb hg);clear ho hb hg hat)))
      go_meet
      case rel=>exact ⟨_,_,⟨(Rg b9l.out (aK (Below.refl _ _) _) (Ri we [0,1,2,3,4] (by decide)) (by decide)).up (by decide)⟩⟩
     |false=>
      go_wp2
      go_meet
      case rel=>exact ⟨_,_,⟨Gw.out.up (by decide)⟩⟩
  |false=>
   have Ad:=Aside0.mk (HD6.out.up (k':=3000) (by decide))
   go_wp2
   go_meet
   case rel=>exact ⟨hs,l,Ad⟩
 case rest=>
 obtain ⟨hs2,l2,Ad⟩:=hcut
 generalize wc=w7 at*
 clear HD6
 obtain ⟨E7,d7,e7⟩:=Kd.cX Ad.out.dR.own
 subst e7
 obtain ⟨B8,d8,e8⟩:=Kd.cX Ad.out.aj.own
 subst e8
 by_cases EI:m=1
 ·subst EI
  go_upto_region 25 with (first|(go_at_call 43;go_loud ((with_reducible refine (kg 5 (by decide) Ac.out (by omega) Ad.out.dR.dN Ad.out.dR.cur).mono ?_);rintro e w8 ⟨x8,rfl,_,fJ,fA,fq⟩;have kW:=Aside0.mk (Ad.out.step fq fJ fA);clear fJ fA fq Ad)))
  by_cases hx0:x8=0
  ·subst hx0
   go_wp2_with (first|(go_at_call 43;go_loud ((with_reducible refine (kg 8 (by decide) Ac.out (by omega) kW.out.dR.dN kW.out.dR.cur).mono ?_);rintro e w9 ⟨x9,rfl,_,fJ,fA,fq⟩;have sV:=Aside0.mk (kW.out.step fq fJ fA);clear fJ fA fq))|((with_reducible refine cK (b:= .append) (xs:= #[.tmp 76,.tmp 80]) rfl ?_);at_builtin;go_loud (refine Kd.fB (Kd.int .i64) (w0:=w) w.heap.size rfl _ _ 22 3 (.int .i64 0) 8 rfl Try.underlying22 info3 rfl (by decide) (by omega) (.slice B8 l2.length d8) l2 (x9 - 1) [.int .i64 (x9 - 1)] (fun _=>True) (fun _=>False) rfl (by first|rfl|(go_simp;done)|(go_simp;rfl)) rfl (fun _ hk=>hk.elim) (fun _ _=>trivial) sV.out.aj.own sV.out.dR.dN sV.out.dR.dN.size (by have:=sV.out.aj.len;omega) ?_;intro v1 wa uo hb1 hg1 nB;obtain ⟨B9,m9,d9,e9,ZW⟩:=b2r sV.out uo (by rw [List.length_append];have:=sV.out.aj.len;simp;omega) hb1 hg1;subst e9;have BD:=Aside0.mk ZW;clear uo hb1 hg1 nB ZW)))
   refine bodyPost_ret (results_tmp2 rfl _ _ _) rfl ?_
   exact BD.out
  ·have x0:(x8==0)=false:=by simp [hx0]
   have x0d:decide (x8=0)=false:=decide_eq_false hx0
   by_cases hx1:x8=1
   ·subst hx1
    obtain ⟨e,B9,c9,r9,e9,hq1,_,hrow,hap⟩:=NV kW.out (show 0<hs2.length from kW.out.ne)
    subst e9
    have p1:(0:Int)<(hs2.length:Int):=by have:=kW.out.ne;omega
    have EG:0<hs2.length:=kW.out.ne
    have he:e<w8.heap.size:=World.block_lt_of_cell? w8 ⟨e,0,none⟩ hq1
    have rH:=Aside0.mk hrow
    have sQ:=Aside0.mk (tR w8)
    have jo:=Aside0.mk (aK (Below.refl w8.heap.size w8) (.cells #[] 3))
    have a2N:=Aside0.mk (Kd.bQ hrow.rd.2 jo.out)
    clear hap hrow
    go_wp2_with (first|((with_reducible refine cK (b:= .append) (xs:= #[.tmp 85,.tmp 88]) rfl ?_);at_builtin;go_loud (refine Kd.qN (Kd.int .i64) (w0:=w8) w8.heap.size rfl _ _ 22 3 (.int .i64 0) 8 rfl Try.underlying22 info3 rfl (by decide) (by omega) (.slice (some ⟨w8.heap.size,0,none⟩) 0 0) [] r9 B9 r9.length c9 (fun _=>True) (fun _=>False) rfl rfl sQ.out a2N.out (fun _ _ hk=>hk) (fun _ hk=>hk.elim) (fun _ _=>trivial) jo.out jo.out.size (by have:=rH.out.le;simp;omega) ?_;intro v1 wa uo hb1 hg1 nB;have rT:=Aside0.mk uo;have Ng:=Aside0.mk (kW.out.below hb1);have jc:=Aside0.mk hb1.size;clear uo hb1 hg1 nB))|(go_at_call 43;go_loud ((with_reducible refine (kg 8 (by decide) Ac.out (by omega) Ng.out.dR.dN Ng.out.dR.cur).mono ?_);rintro e w9 ⟨x9,rfl,_,fJ,fA,fq⟩;have ZV:=Aside0.mk (pX rT.out (KI.cur fq Ng.out.dR.cur));have Mx:=Aside0.mk (Nat.le_trans jc.out fq.size);have sV:=Aside0.mk (Ng.out.step fq fJ fA);clear fJ fA fq))|((with_reducible refine cK (b:= .append) (xs:= #[.tmp 89,.tmp 93]) rfl ?_);at_builtin;go_loud (refine Kd.fB (Kd.int .i64) (w0:=w9) w8.heap.size rfl _ _ 22 3 (.int .i64 0) 8 rfl Try.underlying22 info3 rfl (by decide) (by omega) v1 ([]++r9) (x9 - 1) [.int .i64 (x9 - 1)] (fun _=>True) (fun _=>False) rfl (by first|rfl|(go_simp;done)|(go_simp;rfl)) rfl (fun _ hk=>hk.elim) (fun _ _=>trivial) ZV.out (Below.refl _ _) Mx.out (by have:=rH.out.le;simp;omega) ?_;intro v2 wb wG hb2 hg2 VD;have Rl:([]++r9++[x9 - 1]).length<=100:=(by have:=rH.out.le;simp;omega);generalize b9m:([]++r9++[x9 - 1])=r2 at wG Rl;clear b9m;obtain ⟨B2,d2,e2⟩:=Kd.cX wG;obtain ⟨m2,hm2⟩:∃m,r2.length=m:=⟨_,rfl⟩;rw [hm2] at e2;subst e2;have Jx:=Aside0.mk (kW.out.under sV.out hb2);obtain ⟨_,_,_,hqb,hfb,_⟩:=Gt Jx.out.dR EG;have BD:=Aside0.mk (TY Jx.out hm2 Rl (Kd.gG wG kW.out.dR.dN.size));clear wG hb2 hg2 VD Rl hm2)))
    refine bodyPost_ret (results_tmp2 rfl _ _ _) rfl ?_
    exact BD.out
   ·have x1:(x8==1)=false:=by simp [hx1]
    have x1d:decide (x8=1)=false:=decide_eq_false hx1
    by_cases hx2:x8=2
    ·subst hx2
     obtain ⟨e,B9,c9,r9,e9,_⟩:=NV kW.out (show 0<hs2.length from kW.out.ne)
     subst e9
     obtain ⟨p,hp⟩:∃p:Nat,hs2.length=p+1:=⟨hs2.length - 1,by have:=kW.out.ne;omega⟩
     have p1:(1:Int)<=(hs2.length:Int):=by omega
     have EG:1<=hs2.length:=by omega
     have HP:=Aside0.mk hp
     have hpd:p+1<=d7:=by have:=(a5m kW.out.dR.own).1;omega
     by_cases hd:d7=1
     ·subst hd
      have BD:=Aside0.mk (a2M kW.out hp)
      clear hpd
      go_wp2
      refine bodyPost_ret (results_tmp2 rfl _ _ _) rfl ?_
      exact BD.out
     ·have BD:=Aside0.mk (a7B kW.out hp)
      have hd1:¬d7 - 1=0:=by omega
      have Mg:(d7 - 1==0)=false:=by simp;omega
      have hd3:¬d7<=1:=by omega
      go_wp2
      refine bodyPost_ret (results_tmp2 rfl _ _ _) rfl ?_
      exact BD.out
    ·have x2:(x8==2)=false:=by simp [hx2]
     have x2d:decide (x8=2)=false:=decide_eq_false hx2
     by_cases hx3:x8=3
     ·subst hx3
      obtain ⟨e,B9,c9,r9,e9,hq1,hfz,_⟩:=NV kW.out (show 0<hs2.length from kW.out.ne)
      subst e9
      have p1:(0:Int)<(hs2.length:Int):=by have:=kW.out.ne;omega
      have EG:0<hs2.length:=kW.out.ne
      have he:e<w8.heap.size:=World.block_lt_of_cell? w8 ⟨e,0,none⟩ hq1
      have Jx:=Aside0.mk (kW.out.below (aK (Below.refl w8.heap.size w8) (.cells #[] 3)))
      have BD:=Aside0.mk (TY Jx.out (r:=[]) (m:=0) rfl (by decide) (Kd.gG (tR w8) kW.out.dR.dN.size))
      have hsw:(w8.alloc (.cells #[] 3)).setCell ⟨e,0,none⟩ (.slice (some ⟨w8.heap.size,0,none⟩) 0 0)=(w8.setCell ⟨e,0,none⟩ (.slice (some ⟨w8.heap.size,0,none⟩) 0 0)).alloc (.cells #[] 3):=by go_simp
      rw [hsw] at BD
      go_wp2
      refine bodyPost_ret (results_tmp2 rfl _ _ _) rfl ?_
      exact BD.out
     ·have x3:(x8==3)=false:=by simp [hx3]
      have x3d:decide (x8=3)=false:=decide_eq_false hx3
      by_cases zw:x8=4
      ·subst zw
       go_wp2_with (first|(go_at_call 43;go_loud ((with_reducible refine (kg 3 (by decide) Ac.out (by omega) kW.out.dR.dN kW.out.dR.cur).mono ?_);rintro e w9 ⟨x9,rfl,_,fJ,fA,fq⟩;have sV:=Aside0.mk (kW.out.step fq fJ fA);have ZV:=Aside0.mk (Ri w9 [x9] (by simp));have HL9:=Aside0.mk (aK (Below.refl w9.heap.size w9) (.cells #[.int .i64 x9] 3));have HC9:=Aside0.mk (Kd.bQ (vk sV.out.aj.own).2 HL9.out);clear fJ fA fq))|((with_reducible refine cK (b:= .append) (xs:= #[.tmp 109,.tmp 110]) rfl ?_);at_builtin;go_loud (refine Kd.qN (Kd.int .i64) (w0:=w9) w9.heap.size rfl _ _ 22 3 (.int .i64 0) 8 rfl Try.underlying22 info3 rfl (by decide) (by omega) (.slice (some ⟨w9.heap.size,0,none⟩) 1 1) [x9] l2 B8 l2.length d8 (fun _=>True) (fun _=>False) rfl rfl ZV.out HC9.out (fun _ _ hk=>hk) (fun _ hk=>hk.elim) (fun _ _=>trivial) HL9.out HL9.out.size (by have:=sV.out.aj.len;simp;omega) ?_;intro v1 wa uo hb1 hg1 nB;obtain ⟨B9,m9,d9,e9,ZW⟩:=Rj sV.out uo (by rw [List.length_append];have:=sV.out.aj.len;simp;omega) hb1;subst e9;have BD:=Aside0.mk ZW;clear uo hb1 hg1 nB ZW)))
       refine bodyPost_ret (results_tmp2 rfl _ _ _) rfl ?_
       exact BD.out
      ·have x4:(x8==4)=false:=by simp [zw]
       have x4d:decide (x8=4)=false:=decide_eq_false zw
       go_wp2
       refine bodyPost_ret (results_tmp2 rfl _ _ _) rfl ?_
       exact Aa kW.out
 ·have m1:(m==1)=false:=by simp [EI]
  have m1d:decide (m=1)=false:=decide_eq_false EI
  by_cases hm2:m=2
  ·subst hm2
   go_upto_region 37 with (first|(go_at_call 43;go_loud ((with_reducible refine (kg 3 (by decide) Ac.out (by omega) Ad.out.dR.dN Ad.out.dR.cur).mono ?_);rintro e w8 ⟨x8,rfl,_,fJ,fA,fq⟩;have kW:=Aside0.mk (Ad.out.step fq fJ fA);clear fJ fA fq Ad)))
   by_cases hx0:x8=0
   ·subst hx0
    go_wp2
    refine bodyPost_ret (results_tmp2 rfl _ _ _) rfl ?_
    exact Aa (l:=[]) (Rg kW.out (aK (Below.refl _ _) _) (tR w8) (by decide))
   ·have x0:(x8==0)=false:=by simp [hx0]
    have x0d:decide (x8=0)=false:=decide_eq_false hx0
    by_cases hx1:x8=1
    ·subst hx1
     go_wp2
     go_loopw [7] (fun ev wr=>∃hs:List fj,lenOf ev=hs.length/\Aside0 (Dc w wr w.heap.size A n c 3001 ev hs (.slice B8 l2.length d8) l2)) (fun ev _=>8 - lenOf ev)
     case atStart=>exact ⟨hs2,rfl,kW⟩
     case round=>
      clear kW
      obtain ⟨hs,hlen,HD⟩:=hrel
      obtain ⟨E9,d9,e9⟩:=Kd.cX HD.out.dR.own
      subst e9
      clear hlen
      by_cases h8:hs.length<8
      ·have MT:=Aside0.mk h8
       have gd:decide ((hs.length:Int)<8)=true:=decide_eq_true (by omega)
       have gn:decide (hs.length<8)=true:=decide_eq_true h8
       obtain ⟨e,B9,c9,r9,e9,hq1,_,hrow,hap⟩:=NV HD.out (show 0<hs.length from HD.out.ne)
       subst e9
       have p1:(0:Int)<(hs.length:Int):=by have:=HD.out.ne;omega
       have EG:0<hs.length:=HD.out.ne
       have rH:=Aside0.mk hrow
       have HAp:=Aside0.mk hap
       clear h8 hrow hap
       go_wp2_with (first|((with_reducible refine cK (b:= .append) (xs:= #[.tmp 124,.tmp 128]) rfl ?_);at_builtin;go_loud (refine Kd.fB kH (w0:=w) w.heap.size rfl _ _ 23 22 (.slice none 0 0) 24 rfl Try.underlying23 rZ rfl (by decide) (by omega) (.slice (some ⟨e,0,none⟩) hs.length d9) hs (B9,r9.length,c9) [jQ (B9,r9.length,c9)] (fun _=>True) (fun _=>False) rfl (by first|rfl|(go_simp;done)|(go_simp;rfl)) rfl (fun _ hk=>hk.elim) (fun _ _=>trivial) HD.out.dR.own HD.out.dR.dN HD.out.dR.dN.size (by have:=MT.out;omega) ?_;intro ve we ho hb hg hat;have Ng:=Aside0.mk (b2p HD.out rH.out HAp.out (by have:=MT.out;omega) ho hb hg);clear ho hb hg hat hq1)))
       go_roundw
       case rel=>exact ⟨_,ZN Ng.out.dR.own,Ng⟩
       case measure=>have h1:=ZN Ng.out.dR.own;have h2:=MT.out;rw [h1,List.length_append];show 8 -(hs.length+1)<8 - hs.length;omega
      ·have gd:decide ((hs.length:Int)<8)=false:=decide_eq_false (by omega)
       have gn:decide (hs.length<8)=false:=decide_eq_false h8
       clear h8
       go_wp2
       refine bodyPost_ret (results_tmp2 rfl _ _ _) rfl ?_
       exact Aa HD.out
    ·have x1:(x8==1)=false:=by simp [hx1]
     have x1d:decide (x8=1)=false:=decide_eq_false hx1
     by_cases hx2:x8=2
     ·subst hx2
      have Uc:=Aside0.mk (ZL kW.out [0,1,2,3,4,5] [[0,1,2],[2,3],[3,4,5],[0,5],[1,4]] (by decide) (by decide) (by decide) (by decide))
      go_wp2
      refine bodyPost_ret (results_tmp2 rfl _ _ _) rfl ?_
      exact Aa (hs:=oG (w8.heap.size+1) [[0,1,2],[2,3],[3,4,5],[0,5],[1,4]]) (l:=[0,1,2,3,4,5]) (d:=5) (d8:=6) Uc.out
     ·have x2:(x8==2)=false:=by simp [hx2]
      have x2d:decide (x8=2)=false:=decide_eq_false hx2
      go_wp2
      refine bodyPost_ret (results_tmp2 rfl _ _ _) rfl ?_
      exact Aa kW.out
  ·have m2:(m==2)=false:=by simp [hm2]
   have m2d:decide (m=2)=false:=decide_eq_false hm2
   go_wp2
   refine bodyPost_ret (results_tmp2 rfl _ _ _) rfl ?_
   exact Aa Ad.out
theorem a2O {x:Int} (h:(Lit.int .u8 x).wf=true):0<=x/\x<=255:=by
 unfold Lit.wf at h
 rw [Bool.and_eq_true] at h
 exact ⟨of_decide_eq_true h.1,of_decide_eq_true h.2⟩
set_option maxRecDepth 100000 in
theorem Rm (A:Option Addr) (n c:Nat) (w:World) (hn:¬n<=1048576):
 Calls Try.prog 4 #[.slice A n c] w fun e w'=>e= .returned (.bool true)/\Below w.heap.size w w':=by
 have PE:decide ((n:Int)>1048576)=true:=decide_eq_true (by omega)
 have hn2:decide (1048576<n)=true:=decide_eq_true (by omega)
 have jo:=Aside0.mk (Below.refl w.heap.size w)
 go_enter Try.func4,Try.ntmps4
 go_wp2
 go_ret
 exact ⟨rfl,jo.out⟩
theorem Rx {A0:Option Addr} {c0:Nat} {l0:List Int} {w:World} (fE:Kd.C (Kd.int .u8) w A0 l0.length l0) (hc0:l0.length<=c0) (g0:l0.length<=maxLen/\∀x,x∈l0->(Lit.int .u8 x).wf=true):
 Calls Try.prog 4 #[.slice A0 l0.length c0] w fun e w'=>e= .returned (.bool true)/\Below w.heap.size w w':=by
 by_cases hn:l0.length<=1048576
 ·refine QZ A0 l0.length c0 w hn (fun W hW=>?_)
  refine (Gv hn hc0 ⟨l0,rfl,Kd.bQ fE hW,fun i hi=>?_⟩).mono (fun e w' h=>h)
  have hg:l0.getD i 0=l0[i]:=by simp [hi]
  rw [hg]
  exact a2O (g0.2 _ (List.getElem_mem hi))
 ·exact Rm A0 l0.length c0 w hn
end Go.Proofs.Ytnhknojfpjheoaa.PT
namespace Go.Proofs.Ytnhknojfpjheoaa.fnCover
open Go.ChangeShapes Go.WideShapes Go.ChangeAt Go.RowKit
open Go.ChangeMaps (open_string shut_string)
open Go.Proofs.Ytnhknojfpjheoaa.Opens Go.Proofs.YtnhknojfpjheoaaW.PrintWords
set_option linter.all false
theorem own:ownKnob Try.prog.godebug=none:=by kernel_rfl
theorem laidOut:laidOutB Try.prog=true:=by kernel_rfl
def G5 (v:Int):Prop:=(Lit.int .u8 v).wf=true
theorem b2F:Opens Try.prog (Kd.int .u8) 5 G5:=Opens.int Try.underlying5 (by kernel_rfl)
def G39 (v:(List Int)):Prop:=v.length<=maxLen/\∀x,x∈v->G5 x
theorem a7D:Opens Try.prog (Kd.slice 5 (Kd.int .u8)) 39 G39:=Opens.slice Try.underlying39 (by kernel_rfl) b2F
set_option maxRecDepth 100000 in
theorem lifted (os:Os) (started:os.Started) (H:Type) (enc:TypeId×Value->H):
 ReturnsInHanded {} Try.checked os 4 .any (Rows.fnCoverSpec.pre6 enc Try.prog Try.f4 Rows.fnCoverRow.domain false) (Rows.fnCoverSpec.post enc Try.prog Try.f4 false true false false):=by
 refine returnsInHanded_of_change_sized (C:=Try.checked) own started (by kernel_rfl) Try.func4
  (ChangeSpec.witness6 (enc:=enc) (C:=Try.checked) false ⟨#[],#[.slice none 0 0],[]⟩ 8 (by kernel_rfl) (by kernel_rfl) (by kernel_rfl) (by kernel_rfl)) ?_
 intro W base args ds gs before a5t hW hcnd hsz0 _
 have hval:∀(j:Nat) t v,Try.f4.params[j]? =some t->args[j]? =some v->Value.okWide Try.prog W .any base t v:=a5t
 have hW':=hW
 obtain ⟨p,q,hA0,hV,rfl,hfz,RV⟩:=hW
 have hA:DataW.TrodAll enc Try.prog W 0 (fun _=>true) true Try.f4.params.toList args.toList ds p:=hA0
 rw [Try.params4] at hA hval
 obtain ⟨v0,vs0,d0,ds0,p0,q0,hargs,rfl,rfl,h0,r0⟩:=trodAll_cons hA
 obtain ⟨rfl,rfl,rfl⟩:=trodAll_nil r0
 obtain rfl:args= #[v0]:=by cases args;simp_all
 obtain ⟨rfl,rfl⟩:=trodVars_none hV
 have k0:=h0
 have lt0:∀x∈p0,x.block<W.heap.size:=by obtain ⟨m,hm⟩:=k0;exact DataW.trod_lt m _ _ _ hm
 obtain ⟨a0,b9n,b9o,rfl⟩:=okWide_slice Try.underlying39 (hval 0 39 v0 rfl rfl)
 obtain ⟨fu0,Zw⟩:=h0
 obtain ⟨x0,hK0,gg0⟩:=(a7D).2 enc W true fu0 _ _ Zw
 obtain ⟨A0,c0,e0,hc0,fE⟩:=hK0
 obtain ⟨rfl,rfl,rfl⟩:a0=A0/\b9n=x0.length/\b9o=c0:=by simpa [Value.cells] using e0
 clear hA0 a5t
 refine (Go.Proofs.Ytnhknojfpjheoaa.PT.Rx (w:=W) (A0:=_) (c0:=_) (l0:=x0) (fE:=fE) (hc0:=hc0) gg0).mono fun e W' ⟨he,dN⟩=>?_
 subst he
 exact ⟨_,rfl,_,_,_,[],_,[],hW',trodAll_mk1 (shut_bool Try.underlying4 _),(trodAll_cons_mk (Below.trod laidOut (by kernel_rfl) (of_decide_eq_true (by kernel_rfl)) k0 dN lt0) trodAll_mk0),rfl,dN.frame _,fun h=>by cases h⟩
theorem over:Rows.fnCoverRow.holds Try.pinned (OpenSpec.ofChange Rows.fnCoverSpec):=
 OpenClaim.holds_of_wide 4 Try.f4 rfl rfl rfl rfl rfl rfl rfl ⟨rfl,rfl,rfl,rfl,rfl⟩ rfl rfl rfl rfl rfl (by kernel_rfl) Try.func4 (by kernel_rfl)
  (of_decide_eq_true (by kernel_rfl)) (by unfold Func.isWrapper;first|(rw [if_pos (by decide+kernel)];kernel_rfl)|(rw [if_neg (by decide+kernel)];exact ⟨rfl,rfl⟩))
  (fun os started H enc _=>lifted os started H enc)
theorem proved:Rows.FnCoverSaid:=over
#print axioms proved
end Go.Proofs.Ytnhknojfpjheoaa.fnCover
