/-
  Part 8 of the proof of this: The law FnExactCoverOf answers true at every argument.
-/
import Derived.Test.YtnhknojfpjheoaaKCoverOf2
import Derived.Test.YtnhknojfpjheoaaKCoverOf5
import Derived.Test.YtnhknojfpjheoaaKCoverOf7
namespace Go.Proofs.Ytnhknojfpjheoaa.PT
open Go.RowKit Go.Proofs.Ytnhknojfpjheoaa.P Go.Proofs.YtnhknojfpjheoaaW.PrintWords Go.Proofs.YtnhknojfpjheoaaW.PrintLast Go.Proofs.Ytnhknojfpjheoaa.EvKit Go.Proofs.Ytnhknojfpjheoaa.Num Go.Proofs.Ytnhknojfpjheoaa.Lp
set_option linter.all false
def gK (ch:List cq) (n k j:Nat):Rat:=if j=n then (((ch.getD k z49).f2:Int):Rat) else if (j:Int)∈(ch.getD k z49).f0 then 1 else 0
abbrev qp (x:Rat):Int×Int:=(x.num,(x.den:Int))
theorem a4E {W W1:World} {base:Nat} {v:Value} {xs:List (Nat×Nat×Nat)} (h:Kd.R uw 27 W base (fun _=>True) v xs) (hm:∀k:Nat,(∃cells:Array Value,W.heap[k]? =some (.cells cells 27 (0,0)))->W1.heap[k]? =W.heap[k]?):Kd.R uw 27 W1 base (fun _=>True) v xs:=by
 have h':Kd.R uw 27 W base (fun k=>v.ownBlock=some k) v xs:=⟨fun k hk=>hk,h.2.oW (fun _ _ hp=>hp)⟩
 refine Kd.dD (Kd.uX h' (fun k hk=>hm k ?_)) (fun _ _=>trivial)
 obtain ⟨_,inner,ho,_⟩:=h
 exact oX ho k hk
theorem Qq {W:World} {base g k l:Nat} {v u u':Value} {xs:List (Nat×Nat×Nat)} {cs:Array Value} (h:Kd.R uw 27 W base (fun _=>True) v xs) (hr:W.heap[g]? =some (.cells cs 26 (0,0))):Kd.R uw 27 ((W.setCell ⟨g,k,none⟩ u).setCell ⟨g,l,none⟩ u') base (fun _=>True) v xs:=by
 refine a4E h (fun m ⟨cells,hl⟩=>?_)
 have hne:m≠g:=Ue hl hr (by decide)
 exact (bn (bn hl hne) hne).trans hl.symm
theorem WV (W:World) (p p':Addr) (v v':Value):((W.setCell p v).setCell p' v').heap.size=W.heap.size:=by
 have h1:((W.setCell p v).setCell p' v').heap.size=(W.setCell p v).heap.size:=Array.size_modify
 have h2:(W.setCell p v).heap.size=W.heap.size:=Array.size_modify
 exact h1.trans h2
theorem Gd {W W1:World} {base g n:Nat} {v:Value} {xs:List (Nat×Nat×Nat)} {q:Nat->Int×Int} (h:gw W g n q) (hR:Kd.R uw 27 W base (fun _=>True) v xs) (hg:W.grownBy W1 v.ownBlock):gw W1 g n q:=
 h.move (hg.block g h.lt (fun e=>by
  obtain ⟨_,inner,ho,_⟩:=hR
  obtain ⟨cells,hk⟩:=oX ho g e.symm
  obtain ⟨cs,hc,_⟩:=h
  rw [hc] at hk;simp only [Option.some.injEq,Obj.cells.injEq] at hk
  exact absurd hk.2.1 (by decide)))
structure GOk (n c:Nat) (R:Nat->Nat->Rat):Prop where
 sz:∀i j,i<n->j<=n->Sz 2822400 2822400 (R i j)
 f:iP R c c (n - c)<n->∀r,r<n->r≠c->Sz 2822400 2822400 (jE R (iP R c c (n - c)) c r c/jE R (iP R c c (n - c)) c c c)
 pr:iP R c c (n - c)<n->∀r j,r<n->r≠c->j<=n->Sz 4741632000 4741632000 (jE R (iP R c c (n - c)) c r c/jE R (iP R c c (n - c)) c c c*jE R (iP R c c (n - c)) c c j)
structure a7U (n:Nat) (R:Nat->Nat->Rat):Prop where
 sz:∀i j,i<n->j<=n->Sz 2822400 2822400 (R i j)
 ne:∀c,c<n->R c c≠0
def AW (w:World) (n:Nat) (o:Option (Nat->Nat->Rat)) (e:Ending) (w':World):Prop:=
 ∃v0:Value,e= .returned (.tuple #[v0,.bool o.isSome])/\Kd.R eY 26 w' w.heap.size (fun _=>True) v0 (match o with|none=>[]|some R=>(List.range n).map (fun c=>(⟨(R c n/R c c).num,((R c n/R c c).den:Int)⟩:bM)))/\Below w.heap.size w w'
theorem Nz {R:Nat->Nat->Rat} {c:Nat}:∀(d p q:Nat),p<=q->q<=p+d->(∀i,p<=i->i<q->R i c=0)->(q=p+d∨R q c≠0)->iP R c p d=q
 |0,p,q,h1,h2,_,_=>by simp only [iP];omega
 |d+1,p,q,h1,h2,h3,h4=>by
  simp only [iP]
  by_cases e:q=p
  ·subst e
   rcases h4 with h4|h4
   ·omega
   ·rw [if_neg h4]
  ·rw [if_pos (h3 p (Nat.le_refl _) (by omega))]
   exact Nz d (p+1) q (by omega) (by omega) (fun i hi hi2=>h3 i (by omega) hi2) (h4.imp (by omega) id)
theorem a4F {n c:Nat} {R0 R:Nat->Nat->Rat} (h:fJ n R0 c=some R) (hc:c<n) (hp:¬iP R c c (n - c)<n):fJ n R0 n=none:=by
 have h1:fJ n R0 (c+1)=none:=by
  show (fJ n R0 c).bind _=none
  rw [h];show (if _ then _ else _)=none;rw [if_neg hp]
 have:=Ks (d:=n -(c+1)) h1
 rwa [show c+1+(n -(c+1))=n by omega] at this
theorem a4G {n c:Nat} {R0 R:Nat->Nat->Rat} (h:fJ n R0 c=some R) (hp:iP R c c (n - c)<n):fJ n R0 (c+1)=some (eW (jE R (iP R c c (n - c)) c) c):=by
 show (fJ n R0 c).bind _=_
 rw [h];show (if _ then _ else _)=_;rw [if_pos hp]
structure GS (w:World) (gR n:Nat) (W:World) (g cp:Nat->Nat) (R:Nat->Nat->Rat):Prop where
 out:lV W gR n g cp
 row:∀k,k<n->gw W (g k) n (fun j=>qp (R k j))
 lo:∀k,k<n->w.heap.size<=g k
 inj:∀k l,k<n->l<n->g k=g l->k=l
 NA:w.heap.size<=gR
 kE:Below w.heap.size w W
section
variable {w W W1:World} {gR n:Nat} {g cp:Nat->Nat} {R:Nat->Nat->Rat}
theorem GS.below (h:GS w gR n W g cp R) (hb:Below W.heap.size W W1):GS w gR n W1 g cp R:=
 ⟨h.out.below hb,fun k hk=>(h.row k hk).below hb,h.lo,h.inj,h.NA,ah h.kE hb⟩
theorem GS.congr {R':Nat->Nat->Rat} (h:GS w gR n W g cp R) (e:∀k j,k<n->j<=n->R' k j=R k j):GS w gR n W g cp R':=
 ⟨h.out,fun k hk=>(h.row k hk).congr (fun j hj=>by rw [e k j hk hj]),h.lo,h.inj,h.NA,h.kE⟩
theorem GS.put (h:GS w gR n W g cp R) {i j:Nat} (hi:i<n) (hj:j<=n) (x:Rat):GS w gR n ((W.setCell ⟨g i,j*2,none⟩ (.int .i64 x.num)).setCell ⟨g i,j*2+1,none⟩ (.int .i64 (x.den:Int))) g cp (fun k l=>if k=i/\l=j then x else R k l):=by
 refine ⟨(h.out.other (fun e=>h.out.ne (h.row i hi) e.symm)).other (fun e=>h.out.ne (h.row i hi) e.symm),fun k hk=>?_,h.lo,h.inj,h.NA,bC (bC h.kE (h.lo i hi)) (h.lo i hi)⟩
 by_cases e:k=i
 ·subst e
  refine ((h.row k hk).put hj (qp x)).congr (fun l hl=>?_)
  show qp (if k=k/\l=j then x else R k l)=if l=j then qp x else qp (R k l)
  by_cases e2:l=j
  ·rw [if_pos ⟨rfl,e2⟩,if_pos e2]
  ·rw [if_neg (fun h=>e2 h.2),if_neg e2]
 ·refine (((h.row k hk).other (fun e2=>e (h.inj k i hk hi e2))).other (fun e2=>e (h.inj k i hk hi e2))).congr (fun l hl=>?_)
  show qp (if k=i/\l=j then x else R k l)=qp (R k l)
  rw [if_neg (fun h=>e h.1)]
theorem GS.far (h:GS w gR n W g cp R) {x:Nat} (h1:gR≠x) (h2:∀l,l<n->g l≠x) (h3:w.heap.size<=x) (k:Nat) (v:Value):GS w gR n (W.setCell ⟨x,k,none⟩ v) g cp R:=
 ⟨h.out.other h1,fun l hl=>(h.row l hl).other (h2 l hl),h.lo,h.inj,h.NA,bC h.kE h3⟩
theorem GS.swap (h:GS w gR n W g cp R) {p c:Nat} (hp:p<n) (hc:c<n):GS w gR n ((W.setCell ⟨gR,p,none⟩ (.slice (some ⟨g c,0,none⟩) (n+1) (cp c))).setCell ⟨gR,c,none⟩ (.slice (some ⟨g p,0,none⟩) (n+1) (cp p))) (fun k=>g (fO p c k)) (fun k=>cp (fO p c k)) (jE R p c):=by
 have hlt:∀k,k<n->fO p c k<n:=fun k hk=>by unfold fO;split;exact hp;split;exact hc;exact hk
 have hsi:∀k l,fO p c k=fO p c l->k=l:=fun k l e=>by unfold fO at e;(repeat' split at e)<;>omega
 have hne:∀k,k<n->g k≠gR:=fun k hk=>h.out.ne (h.row k hk)
 refine ⟨?_,fun k hk=>((h.row _ (hlt k hk)).other (hne _ (hlt k hk))).other (hne _ (hlt k hk)),fun k hk=>h.lo _ (hlt k hk),fun k l hk hl e=>hsi k l (h.inj _ _ (hlt k hk) (hlt l hl) e),h.NA,bC (bC h.kE h.NA) h.NA⟩
 obtain ⟨cs,h1,h2⟩:=(h.out.put hp (g c) (cp c)).put hc (g p) (cp p)
 refine ⟨cs,h1,fun k hk=>?_⟩
 rw [h2 k hk]
 show some (Value.slice (some ⟨if k=c then g p else if k=p then g c else g k,0,none⟩) (n+1) (if k=c then cp p else if k=p then cp c else cp k))=some (Value.slice (some ⟨g (fO p c k),0,none⟩) (n+1) (cp (fO p c k)))
 unfold fO
 by_cases e:k=c
 ·rw [if_pos e,if_pos e,if_pos e]
 ·rw [if_neg e,if_neg e,if_neg e]
  by_cases e2:k=p
  ·rw [if_pos e2,if_pos e2,if_pos e2]
  ·rw [if_neg e2,if_neg e2,if_neg e2]
end
theorem ZT (w:World):Kd.R uw 27 (w.alloc (.cells #[] 27)) w.heap.size (fun _=>True) (.slice (some ⟨w.heap.size,0,none⟩) 0 0) []:=
 ⟨fun _ _=>trivial,[],⟨rfl,.inr ⟨w.heap.size,0,#[],rfl,Nat.le_refl _,di w _,Nat.le_refl _,by unfold maxLen;omega,rfl,rfl⟩⟩,cT.none _ _⟩
theorem ZU (w:World):Kd.R eY 26 (w.alloc (.cells #[] 26)) w.heap.size (fun _=>True) (.slice (some ⟨w.heap.size,0,none⟩) 0 0) []:=
 ⟨fun _ _=>trivial,[],⟨rfl,.inr ⟨w.heap.size,0,#[],rfl,Nat.le_refl _,di w _,Nat.le_refl _,by unfold maxLen;omega,rfl,rfl⟩⟩,cT.none _ _⟩
theorem ZV {W:World} {base:Nat} {v:Value} {xs:List (Nat×Nat×Nat)} (h:Kd.R uw 27 W base (fun _=>True) v xs):∃B m d,v= .slice B m d:=by
 obtain ⟨B,d,e⟩:=Kd.eJ h
 exact ⟨B,_,d,e⟩
set_option maxHeartbeats 2000000 in
set_option maxRecDepth 100000 in
theorem Tf (A:Option Addr) (c0 n:Nat) (ch:List cq) (w:World) (hC:Kd.C iZ w A ch.length ch) (hc:ch.length<=c0) (hn:ch.length=n) (hn1:0<n) (se:n<=7)
 (hS:∀c R,c<n->fJ n (gK ch n) c=some R->GOk n c R) (hE:∀R,fJ n (gK ch n) n=some R->a7U n R)
 (hat:∀d,d∈ch->d.f0.length<=1048576/\∀x,x∈d.f0->0<=x/\x<(n:Int)):
 Calls Try.prog 48 #[.int .i64 (n:Int),.slice A ch.length c0] w (AW w n (fJ n (gK ch n) n)):=by
 have hu:=Try.underlying49
 have HC:=Aside0.mk hC
 have HN:=Aside0.mk hn
 have HAt:=Aside0.mk hat
 have HSz:=Aside0.mk hS
 have HEn:=Aside0.mk hE
 have HZ:Aside0 (∀W,Calls Try.prog 24 #[.int .i64 ((n:Int)+1)] W fun e w'=>∃g c,e= .returned (.slice (some ⟨g,0,none⟩) (n+1) c)/\W.heap.size<=g/\gw w' g n (fun _=>(0,1))/\Below W.heap.size W w'):=⟨a4D n (by omega)⟩
 have HB:=Aside0.mk (Below.refl w.heap.size w)
 have hw1:IntKind.i64.wrap ((n:Int)+1)=((n+1:Nat):Int):=by rw [cZ,cO (by omega) (by omega)];rfl
 rw [hn]
 rw [hn] at hc
 clear hC hat hn hS hE
 go_enter Try.func48,Try.ntmps48
 go_wp2
 have eE:=Aside0.mk (ZT w)
 have kO:Aside0 (Below w.heap.size w (w.alloc (.cells #[] 27))):=⟨bA (Below.refl _ _) _⟩
 generalize w.alloc (.cells #[] 27)=w0 at*
 go_loopw [6,23] (fun rv iv wr=>∃(i:Nat) (g cp:Nat->Nat),iv= .int .i64 (i:Int)/\i<=n/\Aside0 (Kd.R uw 27 wr w.heap.size (fun _=>True) rv ((List.range i).map (fun k=>(g k,n+1,cp k))))/\Aside0 (∀k,k<i->gw wr (g k) n (fun j=>qp (gK ch n k j))/\w.heap.size<=g k)/\Aside0 (∀k l,k<i->l<i->g k=g l->k=l)/\Aside0 (Below w.heap.size w wr)) (fun _ iv _=>n -(intOf iv).toNat)
 case atStart=>exact ⟨0,fun _=>0,fun _=>0,rfl,by omega,eE,⟨fun k hk=>by omega⟩,⟨fun k l hk=>by omega⟩,kO⟩
 case round=>
  clear eE kO
  obtain ⟨i,g,cp,rfl,hi,HO,Kt,Tg,cr⟩:=hrel
  by_cases hin:i<n
  ·have Qr:=Aside0.mk hin
   have hic:i<ch.length:=by rw [HN.out];exact hin
   obtain ⟨ad,A1,c1,e,hx0,hx1,hx2,zW,qq⟩:=Mi HC.out (i:Int) (by omega) (by omega)
   cases e
   have hd:rE ch (i:Int)=ch.getD i z49:=rfl
   have hmem:ch.getD i z49∈ch:=by
    have:ch.getD i z49=ch[i]:=by simp [List.getD_eq_getElem?_getD,hic]
    rw [this];exact List.getElem_mem hic
   have xg:=HAt.out _ hmem
   have a7V:∀j,gK ch n i j=if j=n then (((ch.getD i z49).f2:Int):Rat) else if (j:Int)∈(ch.getD i z49).f0 then 1 else 0:=fun j=>rfl
   rw [hd] at hx0 hx1 hx2 zW qq
   rw [Int.toNat_natCast] at hx0 hx1 hx2
   generalize ch.getD i z49=dd at*
   obtain ⟨iE,up,bd⟩:=dd
   dsimp only at*
   replace hx0:=(cr.out.cell (World.block_lt_of_cell? w _ hx0)).trans hx0
   replace hx1:=(cr.out.cell (World.block_lt_of_cell? w _ hx1)).trans hx1
   replace hx2:=(cr.out.cell (World.block_lt_of_cell? w _ hx2)).trans hx2
   have nW:=Aside0.mk qq
   have a7W:=Aside0.mk xg
   have b5d:=Aside0.mk a7V
   have g0:(0:Int)<=(i:Int):=by omega
   have g1:(i:Int)<(n:Int):=by omega
   have Ge:decide ((i:Int)<(n:Int))=true:=decide_eq_true g1
   have yy:decide (i<n)=true:=decide_eq_true hin
   have ru:Aside0 (wrap64 ((i:Int)+1)=((i+1:Nat):Int)):=⟨eR (by omega)⟩
   clear hin hi hic hmem xg a7V qq zW hd
   go_wp2_with (first|(go_at_call 24;(with_reducible refine (HZ.out _).mono ?_);rintro e w1 ⟨gz,cz,rfl,hgz,hrz,hbz⟩;have hba:Below wr.heap.size wr w1:=ah (bA (Below.refl _ _) _) hbz;have eL:=Aside0.mk (ah cr.out hba);have wT:=Aside0.mk (Kd.lX HO.out hba);have sN:Aside0 (∀k,k<i->gw w1 (g k) n (fun j=>qp (gK ch n k j))/\w.heap.size<=g k/\g k≠gz):=⟨fun k hk=>⟨(Kt.out k hk).1.below hba,(Kt.out k hk).2,by have h1:=(Kt.out k hk).1.lt;rw [oQ] at hgz;omega⟩⟩;have zX:=Aside0.mk (ai (di wr (.cells #[.slice A1 iE.length c1,.bool up,.int .i64 bd] 49)) hbz);have tV:=Aside0.mk hrz;have NB:Aside0 (w.heap.size<=gz/\wr.heap.size<gz):=⟨by rw [oQ] at hgz;have:=cr.out.size;omega⟩;have WW:=(af zX.out 0).trans rfl;clear hba hbz hgz hrz))
   have wR:Aside0 (wr.heap.size<w1.heap.size/\w.heap.size<=wr.heap.size):=⟨aZ zX.out,cr.out.size⟩
   clear HO Kt cr hx0 hx1 hx2
   generalize wr.heap.size=g8 at*
   go_loopw [33] (fun kv wr=>∃k:Nat,kv= .int .i64 (k:Int)/\k<=iE.length/\Aside0 (gw wr gz n (fun j=>if (j:Int)∈iE.take k/\j<n then (1,1) else (0,1)))/\Aside0 (Kd.R uw 27 wr w.heap.size (fun _=>True) u6 ((List.range i).map (fun k=>(g k,n+1,cp k))))/\Aside0 (∀k,k<i->gw wr (g k) n (fun j=>qp (gK ch n k j))/\w.heap.size<=g k/\g k≠gz)/\Aside0 (wr.heap[g8]? =some (.cells #[.slice A1 iE.length c1,.bool up,.int .i64 bd] 49 (0,0)))/\Aside0 (Below w.heap.size w wr)) (fun kv _=>iE.length -(intOf kv).toNat)
   case atStart=>exact ⟨0,rfl,by omega,⟨tV.out.congr (fun j _=>by rw [if_neg (by simp)])⟩,wT,sN,zX,eL⟩
   case round=>
    clear tV wT sN zX eL WW
    obtain ⟨k,rfl,hk,tV,wT,sN,zX,eL⟩:=hrel
    by_cases Ku:k<iE.length
    ·have HKl:=Aside0.mk Ku
     obtain ⟨WX,e,hy⟩:=Kd.gq nW.out (k:Int) (by omega) (by omega)
     cases e
     have hxk:rd iE (k:Int)=iE[k]:=qy Ku
     rw [hxk,Int.toNat_natCast] at hy
     obtain ⟨xn,hxn⟩:∃xn:Nat,iE[k]=(xn:Int)/\xn<n:=⟨(iE[k]).toNat,by have:=a7W.out.2 _ (List.getElem_mem Ku);omega⟩
     have Qs:wr.cell? (WX.add k)=some (.int .i64 (xn:Int)):=by rw [<-hxn.1];exact (eL.out.cell (World.block_lt_of_cell? w _ hy)).trans hy
     have ZW:Aside0 (gw ((wr.setCell ⟨gz,xn*2,none⟩ (.int .i64 1)).setCell ⟨gz,xn*2+1,none⟩ (.int .i64 1)) gz n (fun j=>if (j:Int)∈iE.take (k+1)/\j<n then (1,1) else (0,1))):=⟨(tV.out.put (by omega) (1,1)).congr (fun j hj=>by
      rw [List.take_succ_eq_append_getElem Ku,hxn.1]
      by_cases e:j=xn
      ·rw [if_pos e,if_pos ⟨by rw [e];simp,by omega⟩]
      ·rw [if_neg e]
       have:((j:Int)∈List.take k iE++[(xn:Int)])↔(j:Int)∈List.take k iE:=by
        rw [List.mem_append,List.mem_singleton]
        exact ⟨fun h=>h.resolve_right (by omega),fun h=> .inl h⟩
       by_cases e2:(j:Int)∈List.take k iE/\j<n
       ·rw [if_pos e2,if_pos ⟨this.2 e2.1,e2.2⟩]
       ·rw [if_neg e2,if_neg (fun h=>e2 ⟨this.1 h.1,h.2⟩)])⟩
     have hr1:=(tV.out.at (show xn<=n by omega)).1
     have hr2:=(tV.out.at (show xn<=n by omega)).2
     have hr3:=tV.out.frozen (xn*2)
     have hr4:=tV.out.frozen (xn*2+1)
     have g2:(0:Int)<=(k:Int):=by omega
     have g3:(k:Int)<(iE.length:Int):=by omega
     have g3d:decide ((k:Int)<(iE.length:Int))=true:=decide_eq_true g3
     have Kq:decide (k<iE.length)=true:=decide_eq_true Ku
     have g4:(0:Int)<=(xn:Int):=by omega
     have g5:(xn:Int)<((n+1:Nat):Int):=by omega
     have g6:(xn:Int)<(n:Int)+1:=by omega
     have HKk:Aside0 (wrap64 ((k:Int)+1)=((k+1:Nat):Int)):=⟨eR (by have:=a7W.out.1;omega)⟩
     have zY:Aside0 (Kd.R uw 27 ((wr.setCell ⟨gz,xn*2,none⟩ (.int .i64 1)).setCell ⟨gz,xn*2+1,none⟩ (.int .i64 1)) w.heap.size (fun _=>True) u6 ((List.range i).map (fun k=>(g k,n+1,cp k)))):=⟨by
      obtain ⟨cs,hcs,b5e⟩:=tV.out
      exact Qq wT.out hcs⟩
     have Th:Aside0 (∀k,k<i->gw ((wr.setCell ⟨gz,xn*2,none⟩ (.int .i64 1)).setCell ⟨gz,xn*2+1,none⟩ (.int .i64 1)) (g k) n (fun j=>qp (gK ch n k j))/\w.heap.size<=g k/\g k≠gz):=⟨fun k hk=>⟨((sN.out k hk).1.other (sN.out k hk).2.2).other (sN.out k hk).2.2,(sN.out k hk).2⟩⟩
     have HX2:=Aside0.mk (bn (k:=xn*2+1) (v:= .int .i64 1) (bn (k:=xn*2) (v:= .int .i64 1) zX.out (show g8≠gz by have:=NB.out;omega)) (show g8≠gz by have:=NB.out;omega))
     have lT:Aside0 (Below w.heap.size w ((wr.setCell ⟨gz,xn*2,none⟩ (.int .i64 1)).setCell ⟨gz,xn*2+1,none⟩ (.int .i64 1))):=⟨bC (bC eL.out NB.out.1) NB.out.1⟩
     clear Ku hk hxk hy hxn tV wT sN zX eL
     go_wp2
     go_roundw
     case rel=>exact ⟨k+1,by first|(rw [HKk.out];done)|rfl|(simp;done),HKl.out,ZW,zY,Th,HX2,lT⟩
     case measure=>(try rw [HKk.out]);have:=HKl.out;simp [intOf];omega
    ·have a8a:k=iE.length:=by omega
     have g3d:decide ((k:Int)<(iE.length:Int))=false:=decide_eq_false (by omega)
     have Kq:decide (k<iE.length)=false:=decide_eq_false Ku
     have hr1:=(tV.out.at (Nat.le_refl n)).1
     have hr2:=(tV.out.at (Nat.le_refl n)).2
     have hr3:=tV.out.frozen (n*2)
     have hr4:=tV.out.frozen (n*2+1)
     have hq2:=(af zX.out 2).trans rfl
     have g4:(0:Int)<=(n:Int):=by omega
     have g6:(n:Int)<(n:Int)+1:=by omega
     have ZW:Aside0 (gw ((wr.setCell ⟨gz,n*2,none⟩ (.int .i64 bd)).setCell ⟨gz,n*2+1,none⟩ (.int .i64 1)) gz n (fun j=>qp (gK ch n i j))):=⟨(tV.out.put (Nat.le_refl n) (bd,1)).congr (fun j hj=>by
      rw [b5d.out]
      by_cases e:j=n
      ·rw [if_pos e,if_pos e];rfl
      ·rw [if_neg e,if_neg e,a8a,List.take_length]
       by_cases e2:(j:Int)∈iE
       ·rw [if_pos e2,if_pos ⟨e2,by omega⟩];rfl
       ·rw [if_neg e2,if_neg (fun h=>e2 h.1)];rfl)⟩
     have zY:Aside0 (Kd.R uw 27 ((wr.setCell ⟨gz,n*2,none⟩ (.int .i64 bd)).setCell ⟨gz,n*2+1,none⟩ (.int .i64 1)) w.heap.size (fun _=>True) u6 ((List.range i).map (fun k=>(g k,n+1,cp k)))):=⟨by
      obtain ⟨cs,hcs,b5e⟩:=tV.out
      exact Qq wT.out hcs⟩
     have Th:Aside0 (∀k,k<i->gw ((wr.setCell ⟨gz,n*2,none⟩ (.int .i64 bd)).setCell ⟨gz,n*2+1,none⟩ (.int .i64 1)) (g k) n (fun j=>qp (gK ch n k j))/\w.heap.size<=g k/\g k≠gz):=⟨fun k hk=>⟨((sN.out k hk).1.other (sN.out k hk).2.2).other (sN.out k hk).2.2,(sN.out k hk).2⟩⟩
     have lT:Aside0 (Below w.heap.size w ((wr.setCell ⟨gz,n*2,none⟩ (.int .i64 bd)).setCell ⟨gz,n*2+1,none⟩ (.int .i64 1))):=⟨bC (bC eL.out NB.out.1) NB.out.1⟩
     have HHx:Aside0 ((wr.setCell ⟨gz,n*2,none⟩ (.int .i64 bd)).setCell ⟨gz,n*2+1,none⟩ (.int .i64 1)=(wr.setCell ⟨gz,n*2,none⟩ (.int .i64 bd)).setCell ⟨gz,n*2+1,none⟩ (.int .i64 1)):=⟨rfl⟩
     clear a8a Ku hk tV wT sN zX eL
     go_wp2_with (first|((with_reducible refine gu (b:= .append) (xs:= #[.tmp 48,.tmp 50]) rfl ?_);at_builtin;refine Kd.nE uw (w0:=w) w.heap.size rfl _ _ 89 27 (.slice none 0 0) 24 rfl Try.underlying89 (by kernel_rfl) rfl (by decide) (by omega) u6 ((List.range i).map (fun k=>(g k,n+1,cp k))) (gz,n+1,cz) [.slice (some ⟨gz,0,none⟩) (n+1) cz] (fun _=>True) (fun _=>False) rfl (by first|rfl|exact congrArg (fun n=>Value.slice (some ⟨n,0,none⟩) 1 1) (WV _ _ _ _ _).symm|(go_simp;done)|(go_simp;rfl)) rfl (fun _ hk=>hk.elim) (fun _ _=>trivial) zY.out lT.out lT.out.size (by rw [List.length_map,List.length_range];have:=Qr.out;omega) ?_;intro v1 w3 vR hb3 hg3 zA;obtain ⟨B3,m3,d3,rfl⟩:=ZV vR;have HO3:=Aside0.mk vR;have HB3:=Aside0.mk hb3;have a8b:=Aside0.mk (Gd ZW.out zY.out hg3);have NC:Aside0 (∀k,k<i->gw w3 (g k) n (fun j=>qp (gK ch n k j))/\w.heap.size<=g k/\g k≠gz):=⟨fun k hk=>⟨Gd (Th.out k hk).1 zY.out hg3,(Th.out k hk).2⟩⟩;clear vR hb3 hg3 zA))
     have a2r:(List.range (i+1)).map (fun k=>((if k=i then gz else g k:Nat),n+1,(if k=i then cz else cp k:Nat)))=(List.range i).map (fun k=>(g k,n+1,cp k))++[(gz,n+1,cz)]:=by
      rw [List.range_succ,List.map_append,List.map_singleton,if_pos rfl,if_pos rfl]
      congr 1
      refine List.map_congr_left (fun k hk=>?_)
      have:=List.mem_range.1 hk
      rw [if_neg (by omega),if_neg (by omega)]
     have ND:Aside0 (Kd.R uw 27 w3 w.heap.size (fun _=>True) (.slice B3 m3 d3) ((List.range (i+1)).map (fun k=>((if k=i then gz else g k:Nat),n+1,(if k=i then cz else cp k:Nat))))):=⟨by rw [a2r];exact HO3.out⟩
     have b5f:Aside0 (∀k,k<i+1->gw w3 (if k=i then gz else g k) n (fun j=>qp (gK ch n k j))/\w.heap.size<=(if k=i then gz else g k)):=⟨fun k hk=>by
      by_cases e:k=i
      ·rw [if_pos e,e];exact ⟨a8b.out,NB.out.1⟩
      ·rw [if_neg e];exact ⟨(NC.out k (by omega)).1,(NC.out k (by omega)).2.1⟩⟩
     have b1p:Aside0 (∀k l,k<i+1->l<i+1->(if k=i then gz else g k)=(if l=i then gz else g l)->k=l):=⟨fun k l hk hl h=>by
      by_cases e:k=i
      ·by_cases e2:l=i
       ·omega
       ·rw [if_pos e,if_neg e2] at h;exact absurd h.symm (NC.out l (by omega)).2.2
      ·by_cases e2:l=i
       ·rw [if_neg e,if_pos e2] at h;exact absurd h (NC.out k (by omega)).2.2
       ·rw [if_neg e,if_neg e2] at h;exact Tg.out k l (by omega) (by omega) h⟩
     clear a2r HO3 NC a8b
     go_roundw
     case rel=>exact ⟨i+1,_,_,by first|(rw [ru.out];done)|rfl|(simp;done),Qr.out,ND,b5f,b1p,HB3⟩
     case measure=>(try rw [ru.out]);have:=Qr.out;simp [intOf];omega
  ·have Jd:i=n:=by omega
   have Ge:decide ((i:Int)<(n:Int))=false:=decide_eq_false (by omega)
   have yy:decide (i<n)=false:=decide_eq_false hin
   rw [Jd] at HO Kt Tg
   clear Jd hin hi
   obtain ⟨gR,cR,rfl,hgR,hOB⟩:=a4C hn1 HO.out
   have HOB:=Aside0.mk hOB
   have HGR:=Aside0.mk hgR
   clear hOB hgR HO
   have NF:Aside0 (GS w gR n wr g cp (gK ch n)):=⟨HOB.out,fun k hk=>(Kt.out k hk).1,fun k hk=>(Kt.out k hk).2,Tg.out,HGR.out,cr.out⟩
   clear HOB Kt Tg HGR cr
   go_wp2
   go_loopw [12] (fun cv wr=>∃(c:Nat) (R:Nat->Nat->Rat) (g cp:Nat->Nat),cv= .int .i64 (c:Int)/\c<=n/\Aside0 (fJ n (gK ch n) c=some R)/\Aside0 (GS w gR n wr g cp R)) (fun cv _=>n -(intOf cv).toNat)
   case atStart=>exact ⟨0,_,g,cp,rfl,by omega,⟨rfl⟩,NF⟩
   case round=>
    clear NF
    obtain ⟨c,R,g,cp,rfl,CE,HR,HG⟩:=hrel
    by_cases hc:c<n
    ·have kX:=Aside0.mk hc
     have HOk:=Aside0.mk (HSz.out c R hc HR.out)
     have c0':(0:Int)<=(c:Int):=by omega
     have c1':(c:Int)<(n:Int):=by omega
     have c1d:decide ((c:Int)<(n:Int))=true:=decide_eq_true c1'
     have c1n:decide (c<n)=true:=decide_eq_true hc
     have c2':(c:Int)<(n:Int)+1:=by omega
     have wU:Aside0 (wrap64 ((c:Int)+1)=((c+1:Nat):Int)):=⟨eR (by omega)⟩
     clear hc CE
     go_wp2
     go_loopw [13] (fun pv wr=>∃p:Nat,pv= .int .i64 (p:Int)/\p<=n/\Aside0 (c<=p/\∀i,c<=i->i<p->R i c=0)/\Aside0 (GS w gR n wr g cp R)) (fun pv _=>n -(intOf pv).toNat)
     case atStart=>exact ⟨c,rfl,by have:=kX.out;omega,⟨Nat.le_refl _,fun i h1 h2=>by omega⟩,HG⟩
     case round=>
      clear HG
      obtain ⟨p,rfl,NG,HP,HG⟩:=hrel
      by_cases hp:p<n
      ·have NH:=Aside0.mk hp
       have p0:(0:Int)<=(p:Int):=by omega
       have p1:(p:Int)<(n:Int):=by omega
       have p1d:decide ((p:Int)<(n:Int))=true:=decide_eq_true p1
       have p1n:decide (p<n)=true:=decide_eq_true hp
       have p2:((p:Int)==(n:Int))=false:=beq_eq_false_iff_ne.mpr (by omega)
       have p2n:(p==n)=false:=beq_eq_false_iff_ne.mpr (by omega)
       have hx1:=HG.out.out.at hp
       have hx2:=((HG.out.row p hp).at (Nat.le_of_lt kX.out)).1
       have PF:Aside0 (wrap64 ((p:Int)+1)=((p+1:Nat):Int)):=⟨eR (by omega)⟩
       by_cases hz:R p c=0
       ·have e1:((R p c).num==0)=true:=by rw [Lp.sign_zero.2 hz];rfl
        have vP:Aside0 (c<=p+1/\∀i,c<=i->i<p+1->R i c=0):=⟨by have:=HP.out.1;omega,fun i h1 h2=>by
         by_cases e:i=p
         ·rw [e];exact hz
         ·exact HP.out.2 i h1 (by omega)⟩
        clear hz hp NG p2 p2n
        go_wp2
        go_roundw
        case rel=>exact ⟨p+1,by first|(rw [PF.out];done)|rfl|(simp;done),NH.out,vP,HG⟩
        case measure=>(try rw [PF.out]);have:=NH.out;simp [intOf];omega
       ·have e1:((R p c).num==0)=false:=beq_eq_false_iff_ne.mpr (fun h=>hz (Lp.sign_zero.1 h))
        have WY:iP R c c (n - c)=p:=Nz (n - c) c p HP.out.1 (by omega) HP.out.2 (.inr hz)
        have Qt:=Aside0.mk WY
        have hx3:=HG.out.out.at kX.out
        have nY:=HG.out.out.frozen p
        have FR:(wr.setCell ⟨gR,p,none⟩ (.slice (some ⟨g c,0,none⟩) (n+1) (cp c))).cell? ⟨gR,c,none⟩=some (if c=p then .slice (some ⟨g c,0,none⟩) (n+1) (cp c) else .slice (some ⟨g c,0,none⟩) (n+1) (cp c)):=by
         have:=(HG.out.out.put hp (g c) (cp c)).at kX.out
         rw [this]
         by_cases e:c=p
         ·rw [if_pos e,if_pos e,if_pos e]
         ·rw [if_neg e,if_neg e,if_neg e]
        rw [ite_self] at FR
        have hf2:=(HG.out.out.put hp (g c) (cp c)).frozen c
        have Qv:=Aside0.mk (HG.out.swap hp kX.out)
        clear hz hp NG WY HP
        go_wp2
        generalize (wr.setCell ⟨gR,p,none⟩ (.slice (some ⟨g c,0,none⟩) (n+1) (cp c))).setCell ⟨gR,c,none⟩ (.slice (some ⟨g p,0,none⟩) (n+1) (cp p))=w5 at*
        have hok:=HOk.out
        have HGJ:=Aside0.mk (a4G HR.out (by rw [Qt.out];exact NH.out))
        rw [Qt.out] at HGJ
        have zV:Aside0 (∀r,r<n->r≠c->Sz 2822400 2822400 (jE R p c r c/jE R p c c c)):=⟨by have:=hok.f;rw [Qt.out] at this;exact this NH.out⟩
        have Nw:Aside0 (∀r j,r<n->r≠c->j<=n->Sz 4741632000 4741632000 (jE R p c r c/jE R p c c c*jE R p c c j)):=⟨by have:=hok.pr;rw [Qt.out] at this;exact this NH.out⟩
        have Qo:Aside0 (∀i j,i<n->j<=n->Sz 2822400 2822400 (jE R p c i j)):=⟨fun i j hi hj=>hok.sz _ j (by unfold fO;have:=NH.out;have:=kX.out;(repeat' split)<;>omega) hj⟩
        have CW:Aside0 (jE R p c c c≠0):=⟨by
         have h:=Gc R c (n - c) c (by rw [Qt.out];have:=NH.out;have:=kX.out;omega)
         rw [Qt.out] at h
         show R (fO p c c) c≠0
         unfold fO;rw [if_pos rfl];exact h⟩
        clear hok hx1 hx2 hx3 FR nY hf2 HG HOk
        generalize (fun k=>g (fO p c k))=g1 at*
        generalize (fun k=>cp (fO p c k))=oT at*
        generalize jE R p c=R1 at*
        have wS:Aside0 (GS w gR n w5 g1 oT (fun k l=>if k<0 then eW R1 c k l else R1 k l)):=⟨Qv.out.congr (fun k l _ _=>by rw [if_neg (by omega)])⟩
        clear Qv
        go_loopw [95] (fun rv wr=>∃r:Nat,rv= .int .i64 (r:Int)/\r<=n/\Aside0 (GS w gR n wr g1 oT (fun k l=>if k<r then eW R1 c k l else R1 k l))) (fun rv _=>n -(intOf rv).toNat)
        case atStart=>exact ⟨0,rfl,by omega,wS⟩
        case round=>
         clear wS
         obtain ⟨r,rfl,hrn,HG⟩:=hrel
         by_cases hr:r<n
         ·have ux:=Aside0.mk hr
          have r0:(0:Int)<=(r:Int):=by omega
          have r1:(r:Int)<(n:Int):=by omega
          have r1d:decide ((r:Int)<(n:Int))=true:=decide_eq_true r1
          have r1n:decide (r<n)=true:=decide_eq_true hr
          have mS:Aside0 (wrap64 ((r:Int)+1)=((r+1:Nat):Int)):=⟨eR (by omega)⟩
          have hx1:=HG.out.out.at hr
          have hv1:∀l,(if r<r then eW R1 c r l else R1 r l)=R1 r l:=fun l=>if_neg (by omega)
          have hx2:=((HG.out.row r hr).at (Nat.le_of_lt kX.out)).1
          simp only [hv1] at hx2
          by_cases hrc:r=c
          ·have Qv:Aside0 (GS w gR n wr g1 oT (fun k l=>if k<r+1 then eW R1 c k l else R1 k l)):=⟨HG.out.congr (fun k l _ _=>by
            by_cases e:k=r
            ·rw [if_pos (by omega),if_neg (by omega)];unfold eW;rw [if_pos (by omega)]
            ·by_cases e2:k<r
             ·rw [if_pos (by omega),if_pos e2]
             ·rw [if_neg (by omega),if_neg e2])⟩
           have e0:((r:Int)==(c:Int))=true:=by rw [hrc];simp
           have e0n:(r==c)=true:=by rw [hrc];simp
           have NI:=Aside0.mk hrc
           clear hrc hr hrn HG hv1
           go_wp2
           go_roundw
           case rel=>exact ⟨r+1,by first|(rw [mS.out];done)|rfl|(simp;done)|(rw [NI.out];first|rfl|(simp;done)),ux.out,Qv⟩
           case measure=>(try rw [mS.out]);have:=ux.out;simp [intOf];omega
          ·have e0:((r:Int)==(c:Int))=false:=beq_eq_false_iff_ne.mpr (by omega)
           have e0n:(r==c)=false:=beq_eq_false_iff_ne.mpr hrc
           have NI:=Aside0.mk hrc
           by_cases hz:R1 r c=0
           ·have e1:((R1 r c).num==0)=true:=by rw [Lp.sign_zero.2 hz];rfl
            have Qv:Aside0 (GS w gR n wr g1 oT (fun k l=>if k<r+1 then eW R1 c k l else R1 k l)):=⟨HG.out.congr (fun k l _ _=>by
             by_cases e:k=r
             ·rw [if_pos (by omega),if_neg (by omega),e];unfold eW
              split
              ·rfl
              ·rw [hz];grind
             ·by_cases e2:k<r
              ·rw [if_pos (by omega),if_pos e2]
              ·rw [if_neg (by omega),if_neg e2])⟩
            clear hrc hr hrn HG hv1 hz
            go_wp2
            go_roundw
            case rel=>exact ⟨r+1,by first|(rw [mS.out];done)|rfl|(simp;done),ux.out,Qv⟩
            case measure=>(try rw [mS.out]);have:=ux.out;simp [intOf];omega
           ·have e1:((R1 r c).num==0)=false:=beq_eq_false_iff_ne.mpr (fun h=>hz (Lp.sign_zero.1 h))
            have hcc:∀l,(if c<r then eW R1 c c l else R1 c l)=R1 c l:=fun l=>by
             by_cases e:c<r
             ·rw [if_pos e];unfold eW;rw [if_pos (Or.inl rfl)]
             ·rw [if_neg e]
            have HVc:=Aside0.mk hcc
            have HVr:=Aside0.mk hv1
            have WZ:=Aside0.mk (fun W=>Qp W (Qo.out r c hr (Nat.le_of_lt kX.out)) (Qo.out c c kX.out (Nat.le_of_lt kX.out)) (by omega) (by omega) CW.out)
            have HS:Aside0 (∀W,GS w gR n W g1 oT (fun k l=>if k<r then eW R1 c k l else R1 k l)->W.cell? ⟨gR,r,none⟩=some (.slice (some ⟨g1 r,0,none⟩) (n+1) (oT r))/\W.cell? ⟨g1 r,c*2,none⟩=some (.int .i64 (R1 r c).num)/\W.cell? ⟨g1 r,c*2+1,none⟩=some (.int .i64 ((R1 r c).den:Int))/\W.cell? ⟨gR,c,none⟩=some (.slice (some ⟨g1 c,0,none⟩) (n+1) (oT c))/\W.cell? ⟨g1 c,c*2,none⟩=some (.int .i64 (R1 c c).num)/\W.cell? ⟨g1 c,c*2+1,none⟩=some (.int .i64 ((R1 c c).den:Int))):=⟨fun W h=>by
             have a1:=(h.row r hr).at (Nat.le_of_lt kX.out)
             have a2:=(h.row c kX.out).at (Nat.le_of_lt kX.out)
             simp only [hv1] at a1
             simp only [hcc] at a2
             exact ⟨h.out.at hr,a1.1,a1.2,h.out.at kX.out,a2.1,a2.2⟩⟩
            clear hrc hr hrn hz hv1 hcc
            go_wp2
            clear hx1 hx2
            go_cut [16] from 112 to 126 (fun s_ wx=>∃g16,s_= .pointer (some ⟨g16,0,none⟩)/\Aside0 (GS w gR n wx g1 oT (fun k l=>if k<r then eW R1 c k l else R1 k l))/\Aside0 (wx.heap[g16]? =some (.cells #[.int .i64 (R1 r c/R1 c c).num,.int .i64 ((R1 r c/R1 c c).den:Int)] 26 (0,0)))/\Aside0 (w.heap.size<=g16/\∀k,k<n->g1 k≠g16))
            case first=>
             have yz:Aside0 (w.heap.size<=wr.heap.size/\gR<wr.heap.size/\∀k,k<n->g1 k<wr.heap.size):=⟨HG.out.kE.size,HG.out.out.lt,fun k hk=>(HG.out.row k hk).lt⟩
             have HSd:=Aside0.mk (HS.out _ (HG.out.below (bB (Below.refl _ _))))
             have HSa:=Aside0.mk (fun o=>HS.out _ (HG.out.below (bA (bB (Below.refl _ _)) o)))
             go_region_held3 (fun w'=>w'.cell? ⟨gR,r,none⟩=some (.slice (some ⟨g1 r,0,none⟩) (n+1) (oT r))/\w'.cell? ⟨g1 r,c*2,none⟩=some (.int .i64 (R1 r c).num)/\w'.cell? ⟨g1 r,c*2+1,none⟩=some (.int .i64 ((R1 r c).den:Int))/\w'.cell? ⟨gR,c,none⟩=some (.slice (some ⟨g1 c,0,none⟩) (n+1) (oT c))/\w'.cell? ⟨g1 c,c*2,none⟩=some (.int .i64 (R1 c c).num)/\w'.cell? ⟨g1 c,c*2+1,none⟩=some (.int .i64 ((R1 c c).den:Int))) (first|(with_reducible exact CR.out)|(with_reducible exact b5g.out _)|(with_reducible exact b5h.out _ _)|(with_reducible exact b5i.out _ _ _ _)|exact HSd.out|exact HSa.out _) (first|(go_at_call 62;(with_reducible refine (WZ.out _).mono ?_);rintro e w1 ⟨rfl,hb1⟩;(first|(have zQ:Aside0 (w1.heap[wr.heap.size]? =some (.cells #[.int .i64 0,.int .i64 0] 26 (0,0))):=⟨ai (di wr.drew (.cells #[.int .i64 0,.int .i64 0] 26)) hb1⟩;have hz0:w1.cell? ⟨wr.heap.size,0,none⟩=some (.int .i64 0):=(af zQ.out 0).trans rfl;have hz1:w1.cell? ⟨wr.heap.size,1,none⟩=some (.int .i64 0):=(af zQ.out 1).trans rfl;have hz2:=aa zQ.out 0;have hz3:=aa zQ.out 1;have hb2:Below wr.heap.size wr w1:=ah (bA (bB (Below.refl _ _)) _) hb1)|(have hb2:Below wr.heap.size wr w1:=ah (bB (Below.refl _ _)) hb1));have NJ:=Aside0.mk (HG.out.below hb2);have CR:=Aside0.mk (HS.out _ NJ.out);have b5g:=Aside0.mk (fun o=>HS.out _ (NJ.out.below (bA (Below.refl _ _) o)));have HGp:Aside0 (∀k v,GS w gR n (w1.setCell ⟨wr.heap.size,k,none⟩ v) g1 oT (fun k l=>if k<r then eW R1 c k l else R1 k l)):=⟨fun k v=>NJ.out.far (Nat.ne_of_lt yz.out.2.1) (fun l hl=>Nat.ne_of_lt (yz.out.2.2 l hl)) yz.out.1 k v⟩;have b5h:=Aside0.mk (fun k v=>HS.out _ (HGp.out k v));have b5i:=Aside0.mk (fun k v k' v'=>HS.out _ ((HGp.out k v).far (Nat.ne_of_lt yz.out.2.1) (fun l hl=>Nat.ne_of_lt (yz.out.2.2 l hl)) yz.out.1 k' v'));have HWt:Aside0 (wr.heap.size<=w1.heap.size):=⟨hb2.size⟩;clear hb2 hb1))
             all_goals
              go_wp2_with fail
              go_meet
              case rel=>first|exact ⟨_,rfl,⟨NJ.out.below (bA (Below.refl _ _) _)⟩,⟨di _ _⟩,⟨by have h1:=yz.out.1;have h2:=HWt.out;omega,fun k hk=>by have h1:=yz.out.2.2 k hk;have h2:=HWt.out;omega⟩⟩|exact ⟨_,rfl,⟨(HGp.out 0 _).far (Nat.ne_of_lt yz.out.2.1) (fun l hl=>Nat.ne_of_lt (yz.out.2.2 l hl)) yz.out.1 1 _⟩,⟨aK (aK zQ.out 0 (.int .i64 (R1 r c/R1 c c).num) (cs':= #[.int .i64 (R1 r c/R1 c c).num,.int .i64 0]) rfl) 1 (.int .i64 ((R1 r c/R1 c c).den:Int)) (cs':= #[.int .i64 (R1 r c/R1 c c).num,.int .i64 ((R1 r c/R1 c c).den:Int)]) rfl⟩,⟨yz.out.1,fun k hk=>Nat.ne_of_lt (yz.out.2.2 k hk)⟩⟩
            case rest=>
            obtain ⟨g16,rfl,HG6,HX6,HN6⟩:=hcut
            clear HG HS WZ
            generalize wc=w6 at*
            have HF:=Aside0.mk (zV.out r ux.out NI.out)
            have HJ0:Aside0 (GS w gR n w6 g1 oT (fun k l=>if k<r then eW R1 c k l else if k=r/\l<c then eW R1 c r l else R1 k l)):=⟨HG6.out.congr (fun k l _ _=>by
             by_cases e:k<r
             ·rw [if_pos e,if_pos e]
             ·rw [if_neg e,if_neg e]
              by_cases e2:k=r/\l<c
              ·rw [if_pos e2,e2.1];unfold eW;rw [if_pos (Or.inr e2.2)]
              ·rw [if_neg e2])⟩
            clear HG6
            go_wp2
            go_loopw [17] (fun jv wr=>∃j:Nat,jv= .int .i64 (j:Int)/\c<=j/\j<=n+1/\Aside0 (GS w gR n wr g1 oT (fun k l=>if k<r then eW R1 c k l else if k=r/\l<j then eW R1 c r l else R1 k l))/\Aside0 (wr.heap[g16]? =some (.cells #[.int .i64 (R1 r c/R1 c c).num,.int .i64 ((R1 r c/R1 c c).den:Int)] 26 (0,0)))) (fun jv _=>n+1 -(intOf jv).toNat)
            case atStart=>exact ⟨c,rfl,Nat.le_refl _,by have:=kX.out;omega,HJ0,HX6⟩
            case round=>
             clear HJ0 HX6
             obtain ⟨j,rfl,hcj,hjn,HG,HX⟩:=hrel
             by_cases hj:j<=n
             ·have Gf:=Aside0.mk hj
              have HCj:=Aside0.mk hcj
              have j0:(0:Int)<=(j:Int):=by omega
              have j1:(j:Int)<=(n:Int):=by omega
              have j1d:decide ((j:Int)<=(n:Int))=true:=decide_eq_true j1
              have j1n:decide (j<=n)=true:=decide_eq_true hj
              have j2:(j:Int)<(n:Int)+1:=by omega
              have rR:Aside0 (wrap64 ((j:Int)+1)=((j+1:Nat):Int)):=⟨eR (by omega)⟩
              have Xa:(if r<r then eW R1 c r j else if r=r/\j<j then eW R1 c r j else R1 r j)=R1 r j:=by rw [if_neg (by omega),if_neg (by omega)]
              have hcc:(if c<r then eW R1 c c j else if c=r/\j<j then eW R1 c r j else R1 c j)=R1 c j:=by
               by_cases e:c<r
               ·rw [if_pos e];unfold eW;rw [if_pos (Or.inl rfl)]
               ·rw [if_neg e,if_neg (by omega)]
              have HS:Aside0 (∀W,GS w gR n W g1 oT (fun k l=>if k<r then eW R1 c k l else if k=r/\l<j then eW R1 c r l else R1 k l)->W.heap[g16]? =some (.cells #[.int .i64 (R1 r c/R1 c c).num,.int .i64 ((R1 r c/R1 c c).den:Int)] 26 (0,0))->W.cell? ⟨gR,r,none⟩=some (.slice (some ⟨g1 r,0,none⟩) (n+1) (oT r))/\W.cell? ⟨g1 r,j*2,none⟩=some (.int .i64 (R1 r j).num)/\W.cell? ⟨g1 r,j*2+1,none⟩=some (.int .i64 ((R1 r j).den:Int))/\W.cell? ⟨gR,c,none⟩=some (.slice (some ⟨g1 c,0,none⟩) (n+1) (oT c))/\W.cell? ⟨g1 c,j*2,none⟩=some (.int .i64 (R1 c j).num)/\W.cell? ⟨g1 c,j*2+1,none⟩=some (.int .i64 ((R1 c j).den:Int))/\W.cell? ⟨g16,0,none⟩=some (.int .i64 (R1 r c/R1 c c).num)/\W.cell? ⟨g16,1,none⟩=some (.int .i64 ((R1 r c/R1 c c).den:Int))):=⟨fun W h hx=>by
               have a1:W.cell? ⟨g1 r,j*2,none⟩=some (.int .i64 (R1 r j).num)/\W.cell? ⟨g1 r,j*2+1,none⟩=some (.int .i64 ((R1 r j).den:Int)):=by
                have t:=(h.row r ux.out).at hj
                rw [<-Xa];exact t
               have a2:W.cell? ⟨g1 c,j*2,none⟩=some (.int .i64 (R1 c j).num)/\W.cell? ⟨g1 c,j*2+1,none⟩=some (.int .i64 ((R1 c j).den:Int)):=by
                have t:=(h.row c kX.out).at hj
                rw [<-hcc];exact t
               exact ⟨h.out.at ux.out,a1.1,a1.2,h.out.at kX.out,a2.1,a2.2,(af hx 0).trans rfl,(af hx 1).trans rfl⟩⟩
              have WM:=Aside0.mk (fun W=>ZQ W HF.out (Qo.out c j kX.out hj) (by omega) (by omega))
              have Nr:=Aside0.mk (fun W=>ZR W (Qo.out r j ux.out hj) (Nw.out r j ux.out NI.out hj) (by omega) (by omega))
              have HEq:Aside0 (∀W,GS w gR n W g1 oT (fun k l=>if k=r/\l=j then R1 r j - R1 r c/R1 c c*R1 c j else if k<r then eW R1 c k l else if k=r/\l<j then eW R1 c r l else R1 k l)->GS w gR n W g1 oT (fun k l=>if k<r then eW R1 c k l else if k=r/\l<j+1 then eW R1 c r l else R1 k l)):=⟨fun W h=>h.congr (fun k l _ _=>by
               by_cases e:k=r/\l=j
               ·rw [if_pos e,if_neg (by omega),if_pos (by omega)];unfold eW;rw [if_neg (by have:=NI.out;omega),e.2]
               ·rw [if_neg e]
                by_cases e1:k<r
                ·rw [if_pos e1,if_pos e1]
                ·rw [if_neg e1,if_neg e1]
                 by_cases e2:k=r/\l<j
                 ·rw [if_pos e2,if_pos (by omega)]
                 ·rw [if_neg e2,if_neg (by omega)])⟩
              clear hj hcj hjn Xa hcc
              go_wp2
              have HG':=Aside0.mk (HG.out.below (bB (Below.refl _ _)))
              have Qw:=Aside0.mk (aj HX.out)
              clear HG HX
              obtain ⟨h1,h2,h3,h4,h5,h6,h7,h8⟩:=HS.out _ HG'.out Qw.out
              refine eX (n:=24) (S:=fun w'=>w'.cell? ⟨gR,r,none⟩=some (.slice (some ⟨g1 r,0,none⟩) (n+1) (oT r))/\w'.cell? ⟨g1 r,j*2,none⟩=some (.int .i64 (R1 r j).num)/\w'.cell? ⟨g1 r,j*2+1,none⟩=some (.int .i64 ((R1 r j).den:Int))/\w'.cell? ⟨gR,c,none⟩=some (.slice (some ⟨g1 c,0,none⟩) (n+1) (oT c))/\w'.cell? ⟨g1 c,j*2,none⟩=some (.int .i64 (R1 c j).num)/\w'.cell? ⟨g1 c,j*2+1,none⟩=some (.int .i64 ((R1 c j).den:Int))/\w'.cell? ⟨g16,0,none⟩=some (.int .i64 (R1 r c/R1 c c).num)/\w'.cell? ⟨g16,1,none⟩=some (.int .i64 ((R1 r c/R1 c c).den:Int))) (ds:=[23]) #[false,false,false,false,false,false,false,false,false,false,false,false,false,false,false,false,false,false,false,false,false,false,false,false] (by kernel_rfl) rfl rfl ⟨h1,h2,h3,h4,h5,h6,h7,h8⟩ (fun hHeld=>?_)
              generalize wr.drew=w7 at*
              refine aX (i:=0) (N:=some 133) ?_
              refine aX (i:=1) (N:=some 134) ?_
              refine aX (i:=2) (N:=some 135) ?_
              refine dy (i:=3) (N:=some 136) (v:=?_) (a':=?_) #[true,true,true,true,false,false,false,false,false,false,false,false,false,false,false,false,false,false,false,false,false,false,false,false] rfl rfl (by kernel_rfl) (fun _ _ _ h=>h) (Or.inl ⟨by rfl,?_⟩) hHeld ?_ ?_
              rotate_left
              ·rintro w' ⟨s0,s1,s2,s3,s4,s5,s6,s7⟩
               go_simp
               with_reducible rfl
              rotate_left
              ·exact eG
              refine aX (i:=4) (N:=some 137) ?_
              refine aX (i:=5) (N:=some 138) ?_
              refine aX (i:=6) (N:=some 139) ?_
              refine aX (i:=7) (N:=some 140) ?_
              refine dy (i:=8) (N:=some 141) (v:=?_) (a':=?_) #[true,true,true,true,true,true,true,true,true,false,false,false,false,false,false,false,false,false,false,false,false,false,false,false] rfl rfl (by kernel_rfl) (fun _ _ _ h=>h) (Or.inl ⟨by rfl,?_⟩) hHeld ?_ ?_
              rotate_left
              ·rintro w' ⟨s0,s1,s2,s3,s4,s5,s6,s7⟩
               go_simp
               with_reducible rfl
              rotate_left
              ·exact eG
              refine aX (i:=9) (N:=some 142) ?_
              refine aX (i:=10) (N:=some 143) ?_
              refine dy (i:=11) (N:=some 144) (v:=?_) (a':=?_) #[true,true,true,true,true,true,true,true,true,true,true,true,false,false,false,false,false,false,false,false,false,false,false,false] rfl rfl (by kernel_rfl) (fun _ _ _ h=>h) (Or.inl ⟨by rfl,?_⟩) hHeld ?_ ?_
              rotate_left
              ·rintro w' ⟨s0,s1,s2,s3,s4,s5,s6,s7⟩
               go_simp
               with_reducible rfl
              rotate_left
              ·exact eG
              refine dy (i:=12) (N:=some 145) (v:=?_) (a':=?_) #[true,true,true,true,true,true,true,true,true,true,true,true,true,false,false,false,false,false,false,false,false,false,false,false] rfl rfl (by kernel_rfl) (fun _ _ _ h=>h) (Or.inl ⟨by rfl,?_⟩) hHeld ?_ ?_
              rotate_left
              ·rintro w' ⟨s0,s1,s2,s3,s4,s5,s6,s7⟩
               go_simp
               with_reducible rfl
              rotate_left
              ·exact eG
              refine aX (i:=13) (N:=some 146) ?_
              refine aX (i:=14) (N:=some 147) ?_
              refine aX (i:=15) (N:=some 148) ?_
              refine dy (i:=16) (N:=some 149) (v:=?_) (a':=?_) #[true,true,true,true,true,true,true,true,true,true,true,true,true,true,true,true,true,false,false,false,false,false,false,false] rfl rfl (by kernel_rfl) (fun _ _ _ h=>h) (Or.inl ⟨by rfl,?_⟩) hHeld ?_ ?_
              rotate_left
              ·rintro w' ⟨s0,s1,s2,s3,s4,s5,s6,s7⟩
               go_simp
               with_reducible rfl
              rotate_left
              ·exact eG
              refine aX (i:=17) (N:=some 150) ?_
              refine aX (i:=18) (N:=some 151) ?_
              refine dy (i:=19) (N:=some 152) (v:=?_) (a':=?_) #[true,true,true,true,true,true,true,true,true,true,true,true,true,true,true,true,true,true,true,true,false,false,false,false] rfl rfl (by kernel_rfl) (fun _ _ _ h=>h) (Or.inl ⟨by rfl,?_⟩) hHeld ?_ ?_
              rotate_left
              ·rintro w' ⟨s0,s1,s2,s3,s4,s5,s6,s7⟩
               go_simp
               with_reducible rfl
              rotate_left
              ·exact eG
              refine fA (i:=20) (N:=some 153) #[true,true,true,true,true,true,true,true,true,true,true,true,true,true,true,true,true,true,true,true,true,false,false,false] rfl rfl (by kernel_rfl) (by decide) (fun K hK=>?_)
              refine rD 64 #[V (R1 r c/R1 c c),V (R1 c j)] (by rfl) rfl ?_ ?_
              ·go_simp
              refine (WM.out _).mono ?_
              rintro e w8 ⟨rfl,lU⟩
              have Kv:=Aside0.mk (HG'.out.below lU)
              have pn:=Aside0.mk (ai Qw.out lU)
              clear lU HG' Qw h1 h2 h3 h4 h5 h6 h7 h8 WM
              refine ⟨_,rfl,?_⟩
              refine hK.out _ _ (HS.out _ Kv.out pn.out) (fun hHeld=>?_)
              clear hK K hHeld
              refine eF (a':=?_) ?_ ?_
              rotate_left
              ·show Act.put _ (some 153) _=_
               simp only [Act.put,List.setIfInBounds_toArray,List.set_cons_zero,List.set_cons_succ,cZ,dX]
               rfl
              refine fA (i:=21) (N:=some 154) #[true,true,true,true,true,true,true,true,true,true,true,true,true,true,true,true,true,true,true,true,true,true,false,false] rfl rfl (by kernel_rfl) (by decide) (fun K hK=>?_)
              refine rD 63 #[V (R1 r j),V (R1 r c/R1 c c*R1 c j)] (by rfl) rfl ?_ ?_
              ·go_simp
              refine (Nr.out _).mono ?_
              rintro e w9 ⟨rfl,Gg⟩
              have zN:=Aside0.mk (Kv.out.below Gg)
              have Kw:=Aside0.mk (ai pn.out Gg)
              clear Gg Kv pn Nr
              refine ⟨_,rfl,?_⟩
              refine hK.out _ _ (HS.out _ zN.out Kw.out) (fun hHeld=>?_)
              clear hK K hHeld
              refine eF (a':=?_) ?_ ?_
              rotate_left
              ·show Act.put _ (some 154) _=_
               simp only [Act.put,List.setIfInBounds_toArray,List.set_cons_zero,List.set_cons_succ,cZ,dX]
               rfl
              refine aX (i:=22) (N:=some 155) ?_
              refine pP (i:=23) (N:=none) #[true,true,true,true,true,true,true,true,true,true,true,true,true,true,true,true,true,true,true,true,true,true,true,true] rfl rfl (by kernel_rfl) (by decide) (fun K hK=>?_)
              obtain ⟨h1,h2,h3,h4,h5,h6,h7,h8⟩:=HS.out _ zN.out Kw.out
              have nY:=(zN.out.row r ux.out).frozen (j*2)
              have hf2:=(zN.out.row r ux.out).frozen (j*2+1)
              refine kY (w1:=?_) (by rfl) rfl ?_ ?_
              rotate_left
              ·go_simp
               rfl
              refine hK.out _ _ ?_
              clear hK K
              refine fV (by kernel_rfl) ?_
              have HGA:Aside0 (GS w gR n ((w9.setCell ⟨g1 r,j*2,none⟩ (.int .i64 (R1 r j - R1 r c/R1 c c*R1 c j).num)).setCell ⟨g1 r,j*2+1,none⟩ (.int .i64 ((R1 r j - R1 r c/R1 c c*R1 c j).den:Int))) g1 oT (fun k l=>if k<r then eW R1 c k l else if k=r/\l<j+1 then eW R1 c r l else R1 k l)):=⟨HEq.out _ (zN.out.put ux.out Gf.out (R1 r j - R1 r c/R1 c c*R1 c j))⟩
              have HXA:Aside0 (((w9.setCell ⟨g1 r,j*2,none⟩ (.int .i64 (R1 r j - R1 r c/R1 c c*R1 c j).num)).setCell ⟨g1 r,j*2+1,none⟩ (.int .i64 ((R1 r j - R1 r c/R1 c c*R1 c j).den:Int))).heap[g16]? =some (.cells #[.int .i64 (R1 r c/R1 c c).num,.int .i64 ((R1 r c/R1 c c).den:Int)] 26 (0,0))):=⟨bn (bn Kw.out (Ne.symm (HN6.out.2 r ux.out))) (Ne.symm (HN6.out.2 r ux.out))⟩
              clear zN Kw h1 h2 h3 h4 h5 h6 h7 h8 nY hf2 HS HEq
              generalize ((w9.setCell ⟨g1 r,j*2,none⟩ (.int .i64 (R1 r j - R1 r c/R1 c c*R1 c j).num)).setCell ⟨g1 r,j*2+1,none⟩ (.int .i64 ((R1 r j - R1 r c/R1 c c*R1 c j).den:Int)))=wA at*
              go_wp2
              go_roundw
              case rel=>exact ⟨j+1,by first|(rw [rR.out];done)|rfl|(simp;done),by have:=HCj.out;omega,by have:=Gf.out;omega,HGA,HXA⟩
              case measure=>(try rw [rR.out]);have:=Gf.out;simp [intOf];omega
             ·have Ns:j=n+1:=by omega
              have j1d:decide ((j:Int)<=(n:Int))=false:=decide_eq_false (by omega)
              have j1n:decide (j<=n)=false:=decide_eq_false hj
              have HGB:Aside0 (GS w gR n wr g1 oT (fun k l=>if k<r+1 then eW R1 c k l else R1 k l)):=⟨HG.out.congr (fun k l _ hl=>by
               by_cases e:k<r
               ·rw [if_pos (by omega),if_pos e]
               ·rw [if_neg e]
                by_cases e1:k=r
                ·rw [if_pos (by omega),if_pos (by omega),e1]
                ·rw [if_neg (by omega),if_neg (by omega)])⟩
              clear HG HX Ns hj hcj hjn
              go_wp2
              go_roundw
              case rel=>exact ⟨r+1,by first|(rw [mS.out];done)|rfl|(simp;done),ux.out,HGB⟩
              case measure=>(try rw [mS.out]);have:=ux.out;simp [intOf];omega
         ·have hr1:r=n:=by omega
          have r1d:decide ((r:Int)<(n:Int))=false:=decide_eq_false (by omega)
          have r1n:decide (r<n)=false:=decide_eq_false hr
          have HGB:Aside0 (GS w gR n wr g1 oT (eW R1 c)):=⟨HG.out.congr (fun k l hk _=>by rw [if_pos (by omega)])⟩
          clear hr1 hr hrn HG
          go_wp2
          go_roundw
          case rel=>exact ⟨c+1,_,g1,oT,by first|(rw [wU.out];done)|rfl|(simp;done),kX.out,HGJ,HGB⟩
          case measure=>(try rw [wU.out]);have:=kX.out;simp [intOf];omega
      ·have Xb:p=n:=by omega
       have WY:iP R c c (n - c)=n:=Nz (n - c) c n (by have:=kX.out;omega) (by have:=kX.out;omega) (fun i h1 h2=>HP.out.2 i h1 (by omega)) (.inl (by have:=kX.out;omega))
       have hno:=a4F HR.out kX.out (by rw [WY];omega)
       have p1d:decide ((p:Int)<(n:Int))=false:=decide_eq_false (by omega)
       have p1n:decide (p<n)=false:=decide_eq_false hp
       have p2:((p:Int)==(n:Int))=true:=by rw [Xb];simp
       have p2n:(p==n)=true:=by rw [Xb];simp
       have HNo:Aside0 (AW w n (fJ n (gK ch n) n) (.returned (.tuple #[.slice none 0 0,.bool false])) wr):=⟨by
        rw [hno]
        exact ⟨_,rfl,⟨fun _ _=>trivial,[],⟨rfl,.inl ⟨rfl,rfl⟩⟩,cT.none _ _⟩,HG.out.kE⟩⟩
       clear Xb WY hno hp NG HG HP
       go_wp2
       refine bodyPost_ret (results_tmp2 rfl _ _ _) rfl ?_
       exact HNo.out
    ·have hc1:c=n:=by omega
     have c1d:decide ((c:Int)<(n:Int))=false:=decide_eq_false (by omega)
     have c1n:decide (c<n)=false:=decide_eq_false hc
     rw [hc1] at HR
     clear hc1 hc CE
     go_wp2
     obtain ⟨wz,hwz⟩:∃wz,wz=wr:=⟨_,rfl⟩
     subst hwz
     have HEd:=Aside0.mk (HEn.out R HR.out)
     have HX0:=Aside0.mk (ZU wz)
     have kO:Aside0 (Below wz.heap.size wz (wz.alloc (.cells #[] 26))):=⟨bA (Below.refl _ _) _⟩
     generalize wz.alloc (.cells #[] 26)=wl at*
     go_loopw [18,19] (fun xv cv wr=>∃c:Nat,cv= .int .i64 (c:Int)/\c<=n/\Aside0 (Kd.R eY 26 wr wz.heap.size (fun _=>True) xv ((List.range c).map (fun c=>(⟨(R c n/R c c).num,((R c n/R c c).den:Int)⟩:bM))))/\Aside0 (Below wz.heap.size wz wr)) (fun _ cv _=>n -(intOf cv).toNat)
     case atStart=>exact ⟨0,rfl,by omega,HX0,kO⟩
     case round=>
      clear HX0 kO
      obtain ⟨c,rfl,CE,HX,HBq⟩:=hrel
      by_cases hc:c<n
      ·have kX:=Aside0.mk hc
       have c0':(0:Int)<=(c:Int):=by omega
       have c1':(c:Int)<(n:Int):=by omega
       have c1d:decide ((c:Int)<(n:Int))=true:=decide_eq_true c1'
       have c1n:decide (c<n)=true:=decide_eq_true hc
       have c2':(c:Int)<(n:Int)+1:=by omega
       have c3':(n:Int)<(n:Int)+1:=by omega
       have c4':(0:Int)<=(n:Int):=by omega
       have wU:Aside0 (wrap64 ((c:Int)+1)=((c+1:Nat):Int)):=⟨eR (by omega)⟩
       have HS:Aside0 (∀W,Below wz.heap.size wz W->W.cell? ⟨gR,c,none⟩=some (.slice (some ⟨g c,0,none⟩) (n+1) (cp c))/\W.cell? ⟨g c,n*2,none⟩=some (.int .i64 (R c n).num)/\W.cell? ⟨g c,n*2+1,none⟩=some (.int .i64 ((R c n).den:Int))/\W.cell? ⟨g c,c*2,none⟩=some (.int .i64 (R c c).num)/\W.cell? ⟨g c,c*2+1,none⟩=some (.int .i64 ((R c c).den:Int))):=⟨fun W hb=>by
        have h:=HG.out.below hb
        have a1:=(h.row c kX.out).at (Nat.le_refl n)
        have a2:=(h.row c kX.out).at (Nat.le_of_lt kX.out)
        exact ⟨h.out.at kX.out,a1.1,a1.2,a2.1,a2.2⟩⟩
       have WZ:=Aside0.mk (fun W=>Qp W (HEd.out.sz c n hc (Nat.le_refl _)) (HEd.out.sz c c hc (Nat.le_of_lt hc)) (by omega) (by omega) (HEd.out.ne c hc))
       clear hc CE
       go_wp2
       have Qw:=Aside0.mk (Kd.lX HX.out (bB (Below.refl _ _)))
       have WJ:=Aside0.mk (bB HBq.out)
       clear HX HBq
       obtain ⟨h1,h2,h3,h4,h5⟩:=HS.out _ WJ.out
       refine eX (n:=19) (S:=fun w'=>w'.cell? ⟨gR,c,none⟩=some (.slice (some ⟨g c,0,none⟩) (n+1) (cp c))/\w'.cell? ⟨g c,n*2,none⟩=some (.int .i64 (R c n).num)/\w'.cell? ⟨g c,n*2+1,none⟩=some (.int .i64 ((R c n).den:Int))/\w'.cell? ⟨g c,c*2,none⟩=some (.int .i64 (R c c).num)/\w'.cell? ⟨g c,c*2+1,none⟩=some (.int .i64 ((R c c).den:Int))) (ds:=[]) #[false,false,false,false,false,false,false,false,false,false,false,false,false,false,false,false,false,false,false] (by kernel_rfl) rfl rfl ⟨h1,h2,h3,h4,h5⟩ (fun hHeld=>?_)
       generalize wr.drew=w7 at*
       refine aX (i:=0) (N:=some 163) ?_
       refine aX (i:=1) (N:=some 164) ?_
       refine aX (i:=2) (N:=some 165) ?_
       refine aX (i:=3) (N:=some 166) ?_
       refine dy (i:=4) (N:=some 167) (v:=?_) (a':=?_) #[true,true,true,true,true,false,false,false,false,false,false,false,false,false,false,false,false,false,false] rfl rfl (by kernel_rfl) (fun _ _ _ h=>h) (Or.inl ⟨by rfl,?_⟩) hHeld ?_ ?_
       rotate_left
       ·rintro w' ⟨s0,s1,s2,s3,s4⟩
        go_simp
        with_reducible rfl
       rotate_left
       ·exact eG
       refine aX (i:=5) (N:=some 168) ?_
       refine aX (i:=6) (N:=some 169) ?_
       refine dy (i:=7) (N:=some 170) (v:=?_) (a':=?_) #[true,true,true,true,true,true,true,true,false,false,false,false,false,false,false,false,false,false,false] rfl rfl (by kernel_rfl) (fun _ _ _ h=>h) (Or.inl ⟨by rfl,?_⟩) hHeld ?_ ?_
       rotate_left
       ·rintro w' ⟨s0,s1,s2,s3,s4⟩
        go_simp
        with_reducible rfl
       rotate_left
       ·exact eG
       refine aX (i:=8) (N:=some 171) ?_
       refine aX (i:=9) (N:=some 172) ?_
       refine aX (i:=10) (N:=some 173) ?_
       refine dy (i:=11) (N:=some 174) (v:=?_) (a':=?_) #[true,true,true,true,true,true,true,true,true,true,true,true,false,false,false,false,false,false,false] rfl rfl (by kernel_rfl) (fun _ _ _ h=>h) (Or.inl ⟨by rfl,?_⟩) hHeld ?_ ?_
       rotate_left
       ·rintro w' ⟨s0,s1,s2,s3,s4⟩
        go_simp
        with_reducible rfl
       rotate_left
       ·exact eG
       refine aX (i:=12) (N:=some 175) ?_
       refine aX (i:=13) (N:=some 176) ?_
       refine dy (i:=14) (N:=some 177) (v:=?_) (a':=?_) #[true,true,true,true,true,true,true,true,true,true,true,true,true,true,true,false,false,false,false] rfl rfl (by kernel_rfl) (fun _ _ _ h=>h) (Or.inl ⟨by rfl,?_⟩) hHeld ?_ ?_
       rotate_left
       ·rintro w' ⟨s0,s1,s2,s3,s4⟩
        go_simp
        with_reducible rfl
       rotate_left
       ·exact eG
       refine fA (i:=15) (N:=some 178) #[true,true,true,true,true,true,true,true,true,true,true,true,true,true,true,true,false,false,false] rfl rfl (by kernel_rfl) (by decide) (fun K hK=>?_)
       refine rD 62 #[V (R c n),V (R c c)] (by rfl) rfl ?_ ?_
       ·go_simp
       refine (WZ.out _).mono ?_
       rintro e w8 ⟨rfl,lU⟩
       have pn:=Aside0.mk (Kd.lX Qw.out lU)
       have uo:=Aside0.mk (ah WJ.out lU)
       clear lU Qw WJ h1 h2 h3 h4 h5 WZ
       refine ⟨_,rfl,?_⟩
       refine hK.out _ _ (HS.out _ uo.out) (fun hHeld=>?_)
       clear hK K hHeld
       refine eF (a':=?_) ?_ ?_
       rotate_left
       ·show Act.put _ (some 178) _=_
        simp only [Act.put,List.setIfInBounds_toArray,List.set_cons_zero,List.set_cons_succ,cZ,dX]
        rfl
       refine fA (i:=16) (N:=some 179) #[true,true,true,true,true,true,true,true,true,true,true,true,true,true,true,true,true,false,false] rfl rfl (by kernel_rfl) (by decide) (fun K hK=>?_)
       refine tE (w1:=?_) (v:=?_) (by rfl) rfl ?_ ?_
       rotate_left 2
       ·go_simp
        constructor
        ·rfl
        ·rfl
       refine hK.out _ _ (HS.out _ (bA uo.out _)) (fun hHeld=>?_)
       clear hK K hHeld
       refine eF (a':=?_) ?_ ?_
       rotate_left
       ·show Act.put _ (some 179) _=_
        simp only [Act.put,List.setIfInBounds_toArray,List.set_cons_zero,List.set_cons_succ,cZ,dX]
        rfl
       refine fA (i:=17) (N:=some 180) #[true,true,true,true,true,true,true,true,true,true,true,true,true,true,true,true,true,true,false] rfl rfl (by kernel_rfl) (by decide) (fun K hK=>?_)
       refine Kd.La eY (w0:=wz) wz.heap.size (by rfl) (.tmp 163) (.tmp 179) 27 26 (.agg #[.int .i64 0,.int .i64 0]) 16 rfl Try.underlying27 UA rfl (by decide) (by omega) u18 ((List.range c).map (fun c=>(⟨(R c n/R c c).num,((R c n/R c c).den:Int)⟩:bM))) (⟨(R c n/R c c).num,((R c n/R c c).den:Int)⟩:bM) [.int .i64 (R c n/R c c).num,.int .i64 ((R c n/R c c).den:Int)] (fun _=>True) (fun _=>False) rfl rfl (uQ _ _ _ _) (fun _ hk=>hk.elim) (fun _ _=>trivial) pn.out uo.out uo.out.size (by rw [List.length_map,List.length_range];have:=kX.out;omega) ?_
       intro v9 w9 Qx Gg hg9 b5j
       obtain ⟨A9,c9,rfl⟩:=Kd.eJ Qx
       have Kw:Aside0 (Kd.R eY 26 w9 wz.heap.size (fun _=>True) (.slice A9 ((List.range c).map (fun c=>(⟨(R c n/R c c).num,((R c n/R c c).den:Int)⟩:bM))++[(⟨(R c n/R c c).num,((R c n/R c c).den:Int)⟩:bM)]).length c9) ((List.range (c+1)).map (fun c=>(⟨(R c n/R c c).num,((R c n/R c c).den:Int)⟩:bM)))):=⟨by rw [List.range_succ,List.map_append,List.map_singleton];exact Qx⟩
       have Fq:=Aside0.mk Gg
       generalize ((List.range c).map (fun c=>(⟨(R c n/R c c).num,((R c n/R c c).den:Int)⟩:bM))++[(⟨(R c n/R c c).num,((R c n/R c c).den:Int)⟩:bM)]).length=m9 at*
       clear Qx Gg hg9 b5j pn uo
       refine hK.out _ _ (HS.out _ Fq.out) (fun hHeld=>?_)
       clear hK K hHeld
       refine eF (a':=?_) ?_ ?_
       rotate_left
       ·show Act.put _ (some 180) _=_
        simp only [Act.put,List.setIfInBounds_toArray,List.set_cons_zero,List.set_cons_succ,cZ,dX]
        rfl
       refine fA (i:=18) (N:=some 18) #[true,true,true,true,true,true,true,true,true,true,true,true,true,true,true,true,true,true,true] rfl rfl (by kernel_rfl) (by decide) (fun K hK=>?_)
       refine tE (w1:=?_) (v:=?_) (by rfl) rfl ?_ ?_
       rotate_left 2
       ·go_simp
        constructor
        ·rfl
        ·rfl
       refine hK.out _ _ (HS.out _ Fq.out) (fun hHeld=>?_)
       clear hK K hHeld
       refine eF (a':=?_) ?_ ?_
       rotate_left
       ·show Act.put _ (some 18) _=_
        simp only [Act.put,List.setIfInBounds_toArray,List.set_cons_zero,List.set_cons_succ,cZ,dX]
        rfl
       refine fV (by kernel_rfl) ?_
       go_wp2
       go_roundw
       case rel=>exact ⟨c+1,by first|(rw [wU.out];done)|rfl|(simp;done),kX.out,Kw,Fq⟩
       case measure=>(try rw [wU.out]);have:=kX.out;simp [intOf];omega
      ·have hc1:c=n:=by omega
       have c1d:decide ((c:Int)<(n:Int))=false:=decide_eq_false (by omega)
       have c1n:decide (c<n)=false:=decide_eq_false hc
       rw [hc1] at HX
       have HPs:Aside0 (AW w n (fJ n (gK ch n) n) (.returned (.tuple #[u18,.bool true])) wr):=⟨by
        rw [HR.out]
        exact ⟨_,rfl,Kd.kL HX.out HG.out.kE.size,ah HG.out.kE HBq.out⟩⟩
       clear hc1 hc CE HX HBq
       go_wp2
       refine bodyPost_ret (results_tmp2 rfl _ _ _) rfl ?_
       exact HPs.out
end Go.Proofs.Ytnhknojfpjheoaa.PT
set_option linter.unusedVariables false
set_option linter.unusedSimpArgs false
namespace Go.Proofs.Ytnhknojfpjheoaa.Lp
def fact:Nat->Nat
 |0=>1
 |n+1=>(n+1)*fact n
theorem Ky {a b:Nat} (h:a<=b):fact a<=fact b:=by
 induction h with
 |refl=>exact Nat.le_refl _
 |step _ ih=>exact Nat.le_trans ih (by simp only [fact];exact Nat.le_mul_of_pos_left _ (by omega))
def cnt:Nat->(Nat->Bool)->Nat
 |0,_=>0
 |n+1,W=>cnt n W+(if W n then 1 else 0)
theorem AX:∀{n:Nat} {W V:Nat->Bool},(∀j,j<n->W j=V j)->cnt n W=cnt n V
 |0,_,_,_=>rfl
 |n+1,W,V,h=>by simp only [cnt];rw [AX (fun j hj=>h j (by omega)),h n (by omega)]
theorem wV:∀(n a:Nat) (W:Nat->Bool),cnt (a+n) W=cnt a W+cnt n (fun k=>W (a+k))
 |0,a,W=>rfl
 |n+1,a,W=>by
  show cnt (a+n) W+_=_
  rw [wV n a W]
  show cnt a W+cnt n (fun k=>W (a+k))+(if W (a+n) then 1 else 0)=cnt a W+(cnt n (fun k=>W (a+k))+(if W (a+n) then 1 else 0))
  omega
theorem NK {n j:Nat} (W:Nat->Bool) (hj:j<n+1):cnt (n+1) W=cnt n (fun k=>W (if k<j then k else k+1))+(if W j then 1 else 0):=by
 have h1:n+1=j+(1+(n - j)):=by omega
 have h2:n=j+(n - j):=by omega
 have e1:cnt (n+1) W=cnt j W+((if W j then 1 else 0)+cnt (n - j) (fun k=>W (j+(1+k)))):=by
  rw [h1,wV,wV]
  show cnt j W+((0+if W (j+0) then 1 else 0)+_)=_
  rw [Nat.zero_add];rfl
 have e2:cnt n (fun k=>W (if k<j then k else k+1))=cnt j W+cnt (n - j) (fun k=>W (j+(1+k))):=by
  conv=>lhs;rw [h2]
  rw [wV]
  rw [AX (n:=j) (V:=W) (fun k hk=>by rw [if_pos hk])]
  rw [AX (n:=n - j) (V:=fun k=>W (j+(1+k))) (fun k hk=>by
   show W (if j+k<j then _ else _)=_
   rw [if_neg (by omega)];congr 1;omega)]
 omega
theorem Bd.mono {a b:Nat} {q:Rat} (h:Bd a q) (hab:a<=b):Bd b q:=by
 obtain ⟨z,e,hz⟩:=h;exact ⟨z,e,by omega⟩
theorem Bd.b5k {b n:Nat} {W:Nat->Bool} {f:Nat->Rat} (h:∀j,j<n->Bd (if W j then b else 0) (f j)):Bd (cnt n W*b) (S n f):=by
 induction n with
 |zero=>simp only [S];exact Bd.zero _
 |succ n ih=>
  have:=(ih (fun j hj=>h j (by omega))).add (h n (by omega))
  simp only [S,cnt]
  refine this.mono ?_
  split
  ·rw [Nat.add_mul];omega
  ·simp
theorem Bd.mul {a b:Nat} {p q:Rat} (h:Bd a p) (h':Bd b q):Bd (a*b) (p*q):=by
 obtain ⟨x,rfl,hx⟩:=h
 obtain ⟨y,rfl,hy⟩:=h'
 exact ⟨x*y,by rw [Rat.intCast_mul],by rw [Int.natAbs_mul];exact Nat.mul_le_mul hx hy⟩
theorem Sg.bd {x:Rat} (h:Sg x):Bd 1 x:=by
 rcases h with h|h
 ·exact ⟨1,by rw [h];rfl,by decide⟩
 ·exact ⟨-1,by rw [h];rfl,by decide⟩
def Nar (n:Nat) (v:Nat->Rat):Prop:=∃i0,∀i,i<n->i≠i0->v i=0
theorem Lf {n c:Nat} {M:Nat->Nat->Rat} (hc:c<n) (h:∀i,i<n->M i c=0):er n M=0:=by
 rw [<-AB M hc]
 refine mm n (fun i j hi hj=>?_)
 unfold upd;split
 ·next e=>rw [e];exact h i hi
 ·rfl
theorem NL:∀(n:Nat) (M:Nat->Nat->Rat) (W:Nat->Bool),(∀i j,i<n->j<n->Bd 1 (M i j))->(∀j,j<n->W j=false->Nar n (fun i=>M i j))->Bd (fact (cnt n W)) (er n M)
 |0,_,_,_,_=>⟨1,rfl,by simp [cnt,fact]⟩
 |n+1,M,W,h1,h2=>by
  have MQ:∀j,j<n+1->∀i k,i<n->k<n->Bd 1 (minor M j i k):=fun j hj i k hi hk=>by
   unfold minor;exact h1 _ _ (by omega) (by split<;>omega)
  have hm2:∀j,j<n+1->∀k,k<n->W (if k<j then k else k+1)=false->Nar n (fun i=>minor M j i k):=fun j hj k hk hw=>by
   obtain ⟨i0,Fv⟩:=h2 _ (by split<;>omega) hw
   by_cases e:i0=0
   ·exact ⟨n,fun i hi _=>Fv (i+1) (by omega) (by omega)⟩
   ·exact ⟨i0 - 1,fun i hi hne=>Fv (i+1) (by omega) (by omega)⟩
  have ih:=fun j (hj:j<n+1)=>NL n (minor M j) (fun k=>W (if k<j then k else k+1)) (MQ j hj) (hm2 j hj)
  have hs:∀j,Bd 1 (jO j):=fun j=>(Nb j).bd
  simp only [er]
  by_cases hx:∃j0,j0<n+1/\W j0=false/\M 0 j0≠0
  ·obtain ⟨j0,hj0,hw,hne⟩:=hx
   obtain ⟨i0,Fv⟩:=h2 j0 hj0 hw
   have hi00:i0=0:=by
    by_cases e:i0=0
    ·exact e
    ·exact absurd (Fv 0 (by omega) (fun h=>e h.symm)) hne
   have e:S (n+1) (fun j=>jO j*M 0 j*er n (minor M j))=S (n+1) (fun j=>if j=j0 then jO j*M 0 j*er n (minor M j) else 0):=by
    refine dw (fun j hj=>?_)
    by_cases ej:j=j0
    ·rw [if_pos ej]
    ·rw [if_neg ej,Lf (c:=if j0<j then j0 else j0 - 1) (by split<;>omega) (fun i hi=>by
      have b5l:(if (if j0<j then j0 else j0 - 1)<j then (if j0<j then j0 else j0 - 1) else (if j0<j then j0 else j0 - 1)+1)=j0:=by
       by_cases e3:j0<j
       ·rw [if_pos e3,if_pos e3]
       ·rw [if_neg e3,if_neg (by omega)];omega
      unfold minor
      rw [b5l]
      exact Fv (i+1) (by omega) (by omega))]
     grind
   rw [e,gl hj0 (fun j=>jO j*M 0 j*er n (minor M j))]
   have hc:cnt n (fun k=>W (if k<j0 then k else k+1))=cnt (n+1) W:=by
    rw [NK W hj0,if_neg (by rw [hw];decide)];omega
   have:=((hs j0).mul (h1 0 j0 (by omega) hj0)).mul (ih j0 hj0)
   rw [hc] at this
   exact this.mono (by omega)
  ·have hno:∀j,j<n+1->W j=false->M 0 j=0:=fun j hj hw=>by
    by_cases e:M 0 j=0
    ·exact e
    ·exact absurd ⟨j,hj,hw,e⟩ hx
   have a6C:Bd (cnt (n+1) W*fact (cnt (n+1) W - 1)) (S (n+1) fun j=>jO j*M 0 j*er n (minor M j)):=by
    refine Bd.b5k (fun j hj=>?_)
    cases hw:W j with
    |false=>rw [hno j hj hw];have:jO j*0*er n (minor M j)=0:=by grind
            rw [this];exact Bd.zero _
    |true=>
     have hc:cnt n (fun k=>W (if k<j then k else k+1))=cnt (n+1) W - 1:=by
      rw [NK W hj,if_pos hw];omega
     have:=((hs j).mul (h1 0 j (by omega) hj)).mul (ih j hj)
     rw [hc] at this
     exact this.mono (by simp)
   refine a6C.mono ?_
   cases cnt (n+1) W with
   |zero=>simp [fact]
   |succ p=>exact Nat.le_refl _
theorem a4H {m n:Nat} (f:Nat->Nat) (h:∀p q,p<m->q<m->f p=f q->p=q):cnt m (fun q=>decide (f q<n))<=n:=by
 have h1:cnt m (fun q=>decide (f q<n))=(((List.range m).filter (fun q=>decide (f q<n))).map f).length:=by
  clear h
  induction m with
  |zero=>rfl
  |succ m ih=>
   rw [List.range_succ,List.filter_append]
   simp only [cnt]
   rw [ih]
   by_cases e:f m<n
   ·simp [e]
   ·simp [e]
 rw [h1]
 have h2:=vI (((List.range m).filter (fun q=>decide (f q<n))).map f) (List.range n) (by
  rw [List.nodup_iff_pairwise_ne,List.pairwise_map]
  have Qa:((List.range m).filter (fun q=>decide (f q<n))).Pairwise (fun a b=>a≠b):=List.Pairwise.filter _ List.nodup_range
  refine List.Pairwise.imp_of_mem ?_ Qa
  intro a b ha hb hne e
  have ha':=List.mem_range.1 (List.mem_filter.1 ha).1
  have hb':=List.mem_range.1 (List.mem_filter.1 hb).1
  exact hne (h a b ha' hb' e)) (fun x hx=>by
  obtain ⟨q,hq,rfl⟩:=List.mem_map.1 hx
  exact List.mem_range.2 (of_decide_eq_true (List.mem_filter.1 hq).2))
 rw [List.length_range] at h2
 exact h2
theorem Ed {m n N R:Nat} {t0:bq} (he:∀i j,i<R->j<N->Bd 1 (t0.cell i j)) (hn:∀j,n<=j->j<N->∃i0,∀i,i<R->i≠i0->t0.cell i j=0) (ρ f:Nat->Nat) (hρ:∀i,i<m->ρ i<R) (hρi:∀i k,i<m->k<m->ρ i=ρ k->i=k) (hf:∀q,q<m->f q<N):
 Bd (fact n) (er m (fun i q=>t0.cell (ρ i) (f q))):=by
 by_cases h:∃p q,p<m/\q<m/\p≠q/\f p=f q
 ·obtain ⟨p,q,hp,hq,hne,e⟩:=h
  rw [Na hp hq hne (fun i _=>by rw [e])];exact Bd.zero _
 ·have hinj:∀p q,p<m->q<m->f p=f q->p=q:=fun p q hp hq e=>by
   by_cases e2:p=q
   ·exact e2
   ·exact absurd ⟨p,q,hp,hq,e2,e⟩ h
  refine (NL m _ (fun q=>decide (f q<n)) (fun i q hi hq=>he _ _ (hρ i hi) (hf q hq)) (fun q hq hw=>?_)).mono (Ky (a4H f hinj))
  have hq2:n<=f q:=by have:=of_decide_eq_false hw;omega
  obtain ⟨i0,Fv⟩:=hn (f q) hq2 (hf q hq)
  by_cases hx:∃k,k<m/\ρ k=i0
  ·obtain ⟨k,hk,e⟩:=hx
   exact ⟨k,fun i hi hne=>Fv _ (hρ i hi) (fun e2=>hne (hρi i k hi hk (e2.trans e.symm)))⟩
  ·exact ⟨m,fun i hi _=>Fv _ (hρ i hi) (fun e2=>hx ⟨i,hi,e2⟩)⟩
section
variable {n m:Nat} {A:Nat->Nat->Rat} {right:Nat->Rat} {s:Rat}
theorem xw:∀j,n<=j->j<n+m->∃i0,∀i,i<m+(n+1)->i≠i0->(init n m A right s).cell i j=0:=by
 intro j h1 h2
 refine ⟨j - n,fun i hi hne=>?_⟩
 simp only [init]
 by_cases h3:i<m
 ·rw [if_pos h3,if_neg (by omega),if_neg (by omega),if_neg (by omega)]
 ·rw [if_neg h3]
  by_cases h4:i=m
  ·rw [if_pos h4,if_neg (by omega)]
  ·rw [if_neg h4,if_neg (by omega)]
theorem ZX {N K:Nat} {t0:bq} (h:sV m N K t0) {i j:Nat} (hi:i<m+K) (hj:j<=N):Bd 1 (t0.cell i j):=by
 obtain ⟨σ,τ,h1,h2,h3⟩:=h
 rcases h3 i j hi hj with e|e
 ·rw [e];exact Bd.zero _
 ·rw [e];exact ((h1 j).mul (h2 i)).bd
theorem Ti {t:bq} (hs:sV m (n+m) (n+1) (init n m A right s)) (v:Valid m (n+m) (n+1) (init n m A right s) t) (hr:wG m (n+m) (n+1) (init n m A right s) t):
 (∀{q:Rat},q=(init n m A right s).D t m->Bd (fact n) q)/\(∀r j,r<m->j<n+m->Bd (fact n) (t.cell r j*(init n m A right s).D t m))/\(∀k j,k<n+1->j<n+m->Bd (fact n) (t.cell (m+k) j*(init n m A right s).D t m)):=by
 have he:∀i j,i<m+(n+1)->j<n+m->Bd 1 ((init n m A right s).cell i j):=fun i j hi hj=>ZX hs hi (by omega)
 refine ⟨fun e=>?_,fun r j hrr hj=>?_,fun k j hk hj=>?_⟩
 ·rw [e]
  exact Ed (m:=m) he xw (fun i=>i) t.basis (fun i hi=>by omega) (fun _ _ _ _ e=>e) (fun q hq=>v.lt q hq)
 ·rw [hr.DY hrr (by omega)]
  have e:er m (upd (fun i r=>(init n m A right s).cell i (t.basis r)) r (fun i=>(init n m A right s).cell i j))=er m (fun i q=>(init n m A right s).cell i (if q=r then j else t.basis q)):=
   mm m (fun i q _ _=>by unfold upd;split<;>rfl)
  rw [e]
  exact Ed (m:=m) he xw (fun i=>i) (fun q=>if q=r then j else t.basis q) (fun i hi=>by omega) (fun _ _ _ _ e=>e) (fun q hq=>by
   show (if q=r then j else t.basis q)<_
   split
   ·exact hj
   ·exact v.lt q hq)
 ·rw [hr.Nc hk (by omega)]
  have e:er (m+1) (mU m (init n m A right s) t k (fun i=>if i<m then (init n m A right s).cell i j else (init n m A right s).cell (m+k) j))=er (m+1) (fun i q=>(init n m A right s).cell (if i<m then i else m+k) (if q<m then t.basis q else j)):=
   mm (m+1) (fun i q hi hq=>by
    unfold mU
    by_cases h1:q<m
    ·simp only [if_pos h1];split<;>rfl
    ·simp only [if_neg h1];split<;>rfl)
  rw [e]
  exact Ed (m:=m+1) he xw (fun i=>if i<m then i else m+k) (fun q=>if q<m then t.basis q else j) (fun i hi=>by
   show (if i<m then i else m+k)<_
   split<;>omega) (fun i l hi hl e=>by
   have e':(if i<m then i else m+k)=(if l<m then l else m+k):=e
   split at e'<;>split at e'<;>omega) (fun q hq=>by
   show (if q<m then t.basis q else j)<_
   split
   ·next h=>exact v.lt q h
   ·exact hj)
end
end Go.Proofs.Ytnhknojfpjheoaa.Lp
namespace Go.Proofs.Ytnhknojfpjheoaa.PT
open Go.RowKit Go.Proofs.Ytnhknojfpjheoaa.P Go.Proofs.YtnhknojfpjheoaaW.PrintWords Go.Proofs.YtnhknojfpjheoaaW.PrintLast Go.Proofs.Ytnhknojfpjheoaa.EvKit Go.Proofs.Ytnhknojfpjheoaa.Num Go.Proofs.Ytnhknojfpjheoaa.Lp
set_option linter.all false
theorem a8j {m:Nat} (h:m<=6):AD m<=240/\AD (m+1)<=1680:=by
 rcases m with _|_|_|_|_|_|_|m<;>first|(constructor<;>decide)|omega
theorem a4I {n:Nat} (h:n<=6):fact n<=720:=Ky h
theorem Qy {q:Rat} {a d:Int} {c:Nat} (h1: -((c:Int):Rat)<=q) (h2:q<=((c:Int):Rat)) (e:q*(d:Rat)=(a:Rat)):a.natAbs<=c*d.natAbs:=by
 have key:∀x y:Int,(x:Rat)<=(y:Rat)->x<=y:=fun x y h=>by exact_mod_cast h
 by_cases hd:0<=d
 ·have hd':(0:Rat)<=(d:Rat):=by exact_mod_cast hd
  have u1:=Rat.mul_le_mul_of_nonneg_right h1 hd'
  have u2:=Rat.mul_le_mul_of_nonneg_right h2 hd'
  rw [e] at u1 u2
  have v1:=key (-(c:Int)*d) a (by rw [Rat.intCast_mul,Rat.intCast_neg];exact u1)
  have v2:=key a ((c:Int)*d) (by rw [Rat.intCast_mul];exact u2)
  have e1:d=(d.natAbs:Int):=by omega
  rw [e1] at v1 v2
  have e2:((c*d.natAbs:Nat):Int)=(c:Int)*(d.natAbs:Int):=Int.natCast_mul _ _
  have e3: -(c:Int)*(d.natAbs:Int)= -((c:Int)*(d.natAbs:Int)):=Int.neg_mul _ _
  omega
 ·have hd':(0:Rat)<=((-d:Int):Rat):=by exact_mod_cast (by omega:(0:Int)<= -d)
  have u1:=Rat.mul_le_mul_of_nonneg_right h1 hd'
  have u2:=Rat.mul_le_mul_of_nonneg_right h2 hd'
  have e':q*((-d:Int):Rat)=((-a:Int):Rat):=by rw [Rat.intCast_neg,Rat.intCast_neg,<-e];grind
  rw [e'] at u1 u2
  have v1:=key (-(c:Int)* -d) (-a) (by rw [Rat.intCast_mul,Rat.intCast_neg];exact u1)
  have v2:=key (-a) ((c:Int)* -d) (by rw [Rat.intCast_mul];exact u2)
  have e1: -d=(d.natAbs:Int):=by omega
  rw [e1] at v1 v2
  have e2:((c*d.natAbs:Nat):Int)=(c:Int)*(d.natAbs:Int):=Int.natCast_mul _ _
  have e3: -(c:Int)*(d.natAbs:Int)= -((c:Int)*(d.natAbs:Int)):=Int.neg_mul _ _
  omega
section
variable {n m:Nat} {A:Nat->Nat->Rat}
abbrev AY (n m:Nat) (A:Nat->Nat->Rat):bq:=init n m A (fun _=>((-1:Int):Rat)) ((1:Int):Rat)
structure zB (n m:Nat) (A:Nat->Nat->Rat) (T:bq):Prop extends DInv m (n+m) (n+1) (AY n m A) T where
 rep:wG m (n+m) (n+1) (AY n m A) T
 D:(AY n m A).D T m≠0
theorem Gh:((1:Int):Rat)=1:=rfl
theorem Xc:((-1:Int):Rat)= -1:=rfl
theorem Xd (hA:∀i j,i<m->j<n->A i j=0∨A i j= -1):sV m (n+m) (n+1) (AY n m A):=
 zy (a:= -1) (ρ:= -1) (.inr rfl) (.inr rfl) hA (fun _ _=> .inr rfl) (.inl rfl)
theorem Kz:zB n m A (AY n m A):=by
 refine ⟨⟨rN,fun j hj=>?_⟩,DZ,by rw [Nd];grind⟩
 by_cases h:j<n
 ·refine gU.2 (.inr ⟨0,by omega,fun i hi=>by omega,?_⟩)
  show 0<(AY n m A).cell (m+0) j
  simp only [init]
  rw [if_neg (by omega),if_pos (by omega),if_pos h,Gh];grind
 ·refine gU.2 (.inl (fun k hk=>?_))
  show (AY n m A).cell (m+k) j=0
  simp only [init]
  rw [if_neg (by omega)]
  by_cases e:m+k=m
  ·rw [if_pos e,if_neg h]
  ·rw [if_neg e,if_neg (by omega)]
theorem ZY {T T':bq} (h:zB n m A T) (s:Nonempty (DStep m (n+m) (n+1) T T')):zB n m A T':=by
 obtain ⟨s⟩:=s
 have hv:=s.inv h.toDInv
 obtain ⟨r,c,hr,hc,rhs,neg,best,rfl⟩:=s
 have hp:T.cell r c≠0:=by grind
 refine ⟨hv,h.rep.pivot hr hc hp,?_⟩
 rw [Iz h.rep hr hc]
 have:=h.D
 exact fun e=>by rcases Rat.mul_eq_zero.1 e with e|e;exact hp e;exact this e
theorem NM (hA:∀i j,i<m->j<n->A i j=0∨A i j= -1) (hm:m<=6) {T:bq} (h:zB n m A T):kZ 240 1680 m (n+m) (n+1) T:=by
 obtain ⟨d,hd,hs⟩:=small (Xd hA) h.lt h.rep h.D
 have hb:=a8j hm
 refine ⟨⟨d,hs.ne,Nat.le_trans hs.den hb.1,fun r hr j hj=>?_,fun k hk j hj=>?_,fun k hk=>?_⟩,by decide,by decide,by decide,by decide⟩
 ·obtain ⟨a,h1,h2⟩:=hs.row r hr j hj;exact ⟨a,h1,by omega⟩
 ·obtain ⟨a,h1,h2⟩:=hs.cost k hk j (by omega);exact ⟨a,h1,by omega⟩
 ·obtain ⟨a,h1,h2⟩:=hs.cost k hk (n+m) (Nat.le_refl _);exact ⟨a,h1,by omega⟩
theorem ZZ (hA:∀i j,i<m->j<n->A i j=0∨A i j= -1) (hm:m<=6):Road 240 1680 (2^(n+m)) m (n+m) (n+1) (fun T T'=>Nonempty (DStep m (n+m) (n+1) T T')) (zB n m A) (AY n m A):=
 ⟨Kz,fun T T' h s=>ZY h s,fun T h=>NM hA hm h,fun seq h0 hs=>Vy SI seq (by rw [h0];exact Kz.toDInv) hs⟩
theorem a0a (hA:∀i j,i<m->j<n->A i j=0∨A i j= -1) (hin:∀i,i<m->∃j,j<n/\A i j= -1) {T:bq} (h:zB n m A T) {r:Nat} (hr:r<m) (hneg:T.cell r (n+m)<0):∃c,c<n+m/\T.cell r c<0:=by
 by_cases hx:∃c,c<n+m/\T.cell r c<0
 ·exact hx
 ·exfalso
  have hf:AE n m A (fun _=>((-1:Int):Rat)) (fun _=>1):=⟨fun j _=>by show (0:Rat)<=1;grind,fun i hi=>by
   obtain ⟨j,hj,e⟩:=hin i hi
   have h1:=sD hj (f:=fun j=> -1*(A i j*1)) (fun l hl=>by
    show 0<= -1*(A i l*1)
    rcases hA i l hi hl with e|e<;>rw [e]<;>grind)
   rw [pV] at h1
   have h2: -1*(A i j*1)<= -1*S n (fun j=>A i j*1):=h1
   rw [e] at h2
   show S n (fun j=>A i j*1)<=((-1:Int):Rat)
   rw [Xc];grind⟩
  have h2:=(h.ur 1 (ext n A (fun _=>((-1:Int):Rat)) (fun _=>1))).1 (fun i hi=>SJ hi) r hr
  have h3:0<=S (n+m) (fun j=>T.cell r j*ext n A (fun _=>((-1:Int):Rat)) (fun _=>1) j):=pE (fun j hj=>by
   refine Rat.mul_nonneg ?_ (Fy hf j hj)
   by_cases e:T.cell r j<0
   ·exact absurd ⟨j,hj,e⟩ hx
   ·grind)
  unfold bq.F at h2
  grind
theorem a0b {T:bq} (h:zB n m A T) (hp:∀r,r<m->¬T.cell r (n+m)<0):Nf n m A (fun _=>((-1:Int):Rat)) ((1:Int):Rat) (T.X m (n+m)):=
 Qc h.toValid h.SF (fun r hr=>by have:=hp r hr;grind)
abbrev Je (n m:Nat) (A:Nat->Nat->Rat):bq:=init n m A (fun _=>((1:Int):Rat)) ((-1:Int):Rat)
structure xx (n m:Nat) (A:Nat->Nat->Rat) (T:bq):Prop extends PInv m (n+m) (n+1) (Je n m A) T where
 rep:wG m (n+m) (n+1) (Je n m A) T
 D:(Je n m A).D T m≠0
theorem KA (hA:∀i j,i<m->j<n->A i j=0∨A i j=1):sV m (n+m) (n+1) (Je n m A):=
 zy (a:=1) (ρ:=1) (.inl rfl) (.inl rfl) hA (fun _ _=> .inr rfl) (.inr rfl)
theorem KB:xx n m A (Je n m A):=by
 refine ⟨⟨rN,fun r hr=>?_⟩,DZ,by rw [Nd];grind⟩
 simp only [init]
 rw [if_pos hr,if_neg (by omega),if_pos trivial,Gh];grind
theorem a0c {T T':bq} (h:xx n m A T) (s:Nonempty (lM m (n+m) (n+1) T T')):xx n m A T':=by
 obtain ⟨s⟩:=s
 have hv:=s.inv h.toPInv
 obtain ⟨r,c,hr,hc,neg,first,pos,best,rfl⟩:=s
 have hp:T.cell r c≠0:=by grind
 refine ⟨hv,h.rep.pivot hr hc hp,?_⟩
 rw [Iz h.rep hr hc]
 have:=h.D
 exact fun e=>by rcases Rat.mul_eq_zero.1 e with e|e;exact hp e;exact this e
theorem b1q (hA:∀i j,i<m->j<n->A i j=0∨A i j=1) (hin:∀j,j<n->∃i,i<m/\A i j=1) {T:bq} (h:xx n m A T):∀j,j<n+m->0<=T.X m (n+m) j/\T.X m (n+m) j<=1:=by
 have hX:∀j,0<=T.X m (n+m) j:=fun j=>pE (fun r hr'=>by
  split
  ·exact h.DW r hr'
  ·grind)
 have hF:∀i,i<m->S n (fun j=>A i j*T.X m (n+m) j)+T.X m (n+m) (n+i)=1:=fun i hi=>by
  have:=(h.ur 1 _).2 (fun i hi=>h.toValid.MV hi) i hi
  rw [qT 1 _ hi,Gh] at this;grind
 have Xe:∀i,i<m->∀j,j<n->0<=A i j*T.X m (n+m) j:=fun i hi j hj=>Rat.mul_nonneg (by rcases hA i j hi hj with e|e<;>rw [e]<;>grind) (hX j)
 intro j hj
 refine ⟨hX j,?_⟩
 by_cases hjn:j<n
 ·obtain ⟨i,hi,e⟩:=hin j hjn
  have h1:=sD hjn (Xe i hi)
  rw [e] at h1
  have:=hF i hi
  have:=hX (n+i)
  grind
 ·have h1:=hF (j - n) (by omega)
  have e:n+(j - n)=j:=by omega
  rw [e] at h1
  have:=pE (Xe (j - n) (by omega))
  grind
theorem a8k {k:Nat} {f:Nat->Rat} (h:∀j,j<k->f j<=1):S k f<=((k:Int):Rat):=by
 induction k with
 |zero=>simp only [S];exact Rat.le_refl
 |succ k ih=>
  have h1:=ih (fun j hj=>h j (by omega))
  have h2:=h k (by omega)
  simp only [S]
  have e:(((k+1:Nat):Int):Rat)=((k:Int):Rat)+1:=by
   rw [Int.natCast_add,Rat.intCast_add];rfl
  rw [e];grind
theorem NP (hA:∀i j,i<m->j<n->A i j=0∨A i j=1) (hin:∀j,j<n->∃i,i<m/\A i j=1) (hn:n<=6) {T:bq} (h:xx n m A T):kZ 720 720 m (n+m) (n+1) T:=by
 obtain ⟨d,hd,hs⟩:=small (KA hA) h.lt h.rep h.D
 obtain ⟨w1,w2,w3⟩:=Ti (KA hA) h.toValid h.rep
 have hf:=a4I hn
 have hX:=b1q hA hin h
 have hdd:d.natAbs<=720:=by
  obtain ⟨z,e,hz⟩:=w1 hd
  have:d=z:=xo e
  omega
 refine ⟨⟨d,hs.ne,hdd,fun r hr j hj=>?_,fun k hk j hj=>?_,fun k hk=>?_⟩,by decide,by decide,by decide,by decide⟩
 ·by_cases e:j<n+m
  ·obtain ⟨z,e1,hz⟩:=w2 r j hr e
   exact ⟨z,by rw [hd];exact e1,by omega⟩
  ·have e2:j=n+m:=by omega
   subst e2
   obtain ⟨a,h1,h2⟩:=hs.row r hr (n+m) (Nat.le_refl _)
   have hx:=hX (T.basis r) (h.lt r hr)
   rw [Ay h.toValid hr] at hx
   have:=Qy (c:=1) (by have:=hx.1;show -((1:Int):Rat)<=_;rw [Gh];grind) (by show _<=((1:Int):Rat);rw [Gh];exact hx.2) h1
   exact ⟨a,h1,by omega⟩
 ·obtain ⟨z,e1,hz⟩:=w3 k j hk hj
  exact ⟨z,by rw [hd];exact e1,by omega⟩
 ·obtain ⟨a,h1,h2⟩:=hs.cost k hk (n+m) (Nat.le_refl _)
  have hc:=h.toValid.MW hk
  rw [h.cost 1 _ (fun i hi=>h.toValid.MV hi) k hk,AG _ hk] at hc
  have hq: -((6:Nat):Int)<=T.cell (m+k) (n+m)/\T.cell (m+k) (n+m)<=(((6:Nat):Int):Rat):=by
   have e6:(((6:Nat):Int):Rat)=6:=rfl
   unfold fM at hc
   by_cases e:k=0
   ·rw [if_pos e,Xc] at hc
    have u1:=pE (n:=n) (f:=T.X m (n+m)) (fun j hj=>(hX j (by omega)).1)
    have u2:=a8k (k:=n) (f:=T.X m (n+m)) (fun j hj=>(hX j (by omega)).2)
    have u3:((n:Int):Rat)<=6:=by
     have:((n:Int):Rat)<=((6:Int):Rat):=by exact_mod_cast hn
     exact this
    constructor
    ·rw [e6];grind
    ·rw [e6];grind
   ·rw [if_neg e] at hc
    have u1:=hX (k - 1) (by omega)
    constructor
    ·rw [e6];grind
    ·rw [e6];grind
  have:=Qy (c:=6) hq.1 hq.2 h1
  exact ⟨a,h1,by omega⟩
theorem a0d (hA:∀i j,i<m->j<n->A i j=0∨A i j=1) (hin:∀j,j<n->∃i,i<m/\A i j=1) (hn:n<=6):Road 720 720 (2^(n+m)) m (n+m) (n+1) (fun T T'=>Nonempty (lM m (n+m) (n+1) T T')) (xx n m A) (Je n m A):=
 ⟨KB,fun T T' h s=>a0c h s,fun T h=>NP hA hin hn h,fun seq h0 hs=>Pf seq (by rw [h0];exact KB.toPInv) hs⟩
theorem a4J (hA:∀i j,i<m->j<n->A i j=0∨A i j=1) (hin:∀j,j<n->∃i,i<m/\A i j=1) {T:bq} (h:xx n m A T) {c:Nat} (hc:c<n+m) (hneg:eD (n+1) (T.cost m c)):∃r,r<m/\0<T.cell r c:=by
 by_cases hx:∃r,r<m/\0<T.cell r c
 ·exact hx
 ·exfalso
  have hnb:¬iO m T c:=rM h.toValid (fun hz=>vH hz hneg)
  have hd:∀j,0<=T.dir m c j:=fun j=>by
   unfold bq.dir
   split
   ·grind
   ·refine pE (fun r hr=>?_)
    split
    ·by_cases e:0<T.cell r c
     ·exact absurd ⟨r,hr,e⟩ hx
     ·grind
    ·grind
  have hF:∀i,i<m->S n (fun j=>A i j*T.dir m c j)+T.dir m c (n+i)=0:=fun i hi=>by
   have:=(h.ur 0 _).2 (yu h.toValid hc hnb) i hi
   rw [qT 0 _ hi] at this;grind
  have Xe:∀i,i<m->∀j,j<n->0<=A i j*T.dir m c j:=fun i hi j hj=>Rat.mul_nonneg (by rcases hA i j hi hj with e|e<;>rw [e]<;>grind) (hd j)
  have h1:=DV T m c
  by_cases CE:c<n
  ·obtain ⟨i,hi,e⟩:=hin c CE
   have h2:=sD CE (Xe i hi)
   rw [e,h1] at h2
   have:=hF i hi
   have:=hd (n+i)
   grind
  ·have h2:=hF (c - n) (by omega)
   have e:n+(c - n)=c:=by omega
   rw [e,h1] at h2
   have:=pE (Xe (c - n) (by omega))
   grind
theorem a0e {T:bq} (h:xx n m A T) (hc:∀c,c<n+m->¬eD (n+1) (T.cost m c)):Nf n m A (fun _=>((1:Int):Rat)) ((-1:Int):Rat) (T.X m (n+m)):=
 Qc h.toValid hc h.DW
end
theorem a8l {m N K:Nat} {t0 T:bq} (v:Valid m N K t0 T) (j:Nat):xq T N m j=T.X m N j:=by
 have key:∀r,r<=m->xq T N r j=S r (fun q=>if T.basis q=j then T.cell q N else 0):=by
  intro r
  induction r with
  |zero=>intro _;rfl
  |succ r ih=>
   intro hr
   simp only [xq,S]
   by_cases e:T.basis r=j
   ·rw [if_pos e,if_pos e,jL (fun q hq=>if_neg (fun e2=>by have:=v.inj (r:=q) (r':=r) (by omega) (by omega) (e2.trans e.symm);omega))];grind
   ·rw [if_neg e,if_neg e,ih (by omega)];grind
 exact key m (Nat.le_refl _)
theorem b5m {m N:Nat} {T:bq} (n:Nat):sm T N n m=S n (T.X m N):=by
 have key:∀r,sm T N n r=S r (fun q=>if T.basis q<n then T.cell q N else 0):=by
  intro r
  induction r with
  |zero=>rfl
  |succ r ih=>
   simp only [sm,S]
   split
   ·rw [ih]
   ·rw [ih];grind
 rw [key m]
 unfold bq.X
 show _=S n (fun j=>S m (fun r=>if T.basis r=j then T.cell r N else 0))
 rw [Fu]
 refine dw (fun q hq=>?_)
 by_cases e:T.basis q<n
 ·rw [if_pos e]
  have:S n (fun j=>if T.basis q=j then T.cell q N else 0)=S n (fun j=>if j=T.basis q then T.cell q N else 0):=dw (fun j _=>by
   by_cases e2:T.basis q=j
   ·rw [if_pos e2,if_pos e2.symm]
   ·rw [if_neg e2,if_neg (fun h=>e2 h.symm)])
  rw [this,gl e (fun _=>T.cell q N)]
 ·rw [if_neg e,jL (fun j hj=>if_neg (fun e2=>e (by omega)))]
theorem a2v {D C m N K n:Nat} {T:bq} (h:kZ D C m N K T) (hm:m<=7):∀r,r<=m->Ok (sm T N n r):=by
 obtain ⟨d,hd,hdD,hrow,_⟩:=h.ex
 have hD:=h.d1
 have key:∀r,r<=m->∃a:Int,sm T N n r*(d:Rat)=(a:Rat)/\a.natAbs<=r*D:=by
  intro r
  induction r with
  |zero=>intro _;exact ⟨0,by simp only [sm];grind,by simp⟩
  |succ r ih=>
   intro hr
   obtain ⟨a,h1,h2⟩:=ih (by omega)
   simp only [sm]
   have e1:(r+1)*D=r*D+D:=Nat.succ_mul _ _
   split
   ·obtain ⟨b,h3,h4⟩:=hrow r (by omega) N (Nat.le_refl _)
    exact ⟨a+b,by rw [Rat.intCast_add,<-h1,<-h3];grind,by omega⟩
   ·exact ⟨a,h1,by omega⟩
 intro r hr
 obtain ⟨a,h1,h2⟩:=key r hr
 have h3:r*D<=7*1000:=Nat.mul_le_mul (by omega) hD
 exact Qu.ok (Qu.FA hd (a:=7000) (b:=1000) (by omega) (by omega) h1) (by omega) (by omega)
theorem Qz {D C m N K:Nat} {T:bq} (h:kZ D C m N K T):∀r,r<m->Ok (T.cell r N):=fun r hr=>h.WL (by omega) (Nat.le_refl _)
section
variable {n:Nat} {M:Nat->Nat->Rat}
abbrev Xf (n:Nat) (M:Nat->Nat->Rat):bq:=init n n M (fun i=>M i n) 1
structure zZ (n:Nat) (M R:Nat->Nat->Rat) (c:Nat) (T:bq) (π:Nat->Nat) (p:Nat->Rat):Prop where
 v:Valid n (n+n) (n+1) (Xf n M) T
 rep:wG n (n+n) (n+1) (Xf n M) T
 D:(Xf n M).D T n≠0
 lt:∀i,i<n->π i<n
 inj:∀i k,i<n->k<n->π i=π k->i=k
 Xg:∀r,r<n->∃i,i<n/\π i=r
 eO:∀i,i<c->i<n->T.basis (π i)=i
 free:∀i,c<=i->i<n->n<=T.basis (π i)
 eq:∀i j,i<n->j<=n->R i j=p i*T.cell (π i) (if j=n then n+n else j)
 one:∀i,c<=i->p i=1
 pq:∀i,i<n->Qu 1680 1680 (p i)/\p i≠0
theorem b5n {m:Nat} (h:m<=7):AD m<=1680:=by
 rcases m with _|_|_|_|_|_|_|_|m<;>first|decide|omega
theorem a0f (hM:∀i j,i<n->j<=n->M i j=0∨M i j=1):sV n (n+n) (n+1) (Xf n M):=
 zy (a:=1) (ρ:=1) (.inl rfl) (.inl rfl) (fun i j hi hj=>hM i j hi (by omega)) (fun i hi=>hM i n hi (Nat.le_refl _)) (.inl rfl)
theorem a8m:Qu 1680 1680 1:=⟨1,1,by decide,by grind,by decide,by decide⟩
theorem a0g:zZ n M M 0 (Xf n M) (fun i=>i) (fun _=>1):=by
 refine ⟨rN,DZ,by rw [Nd];grind,fun i hi=>hi,fun _ _ _ _ e=>e,fun r hr=>⟨r,hr,rfl⟩,fun i hi=>by omega,fun i _ hi=>by show n<=n+i;omega,fun i j hi hj=>?_,fun _ _=>rfl,fun _ _=>⟨a8m,by grind⟩⟩
 simp only [init]
 rw [if_pos hi]
 by_cases e:j=n
 ·subst e;rw [if_pos rfl,if_neg (by omega),if_pos rfl];grind
 ·rw [if_neg e,if_pos (by omega)];grind
theorem sO {p c k:Nat} (hp:p<n) (hc:c<n) (hk:k<n):fO p c k<n:=by unfold fO;split;exact hp;split;exact hc;exact hk
theorem a0h {p c k l:Nat} (e:fO p c k=fO p c l):k=l:=by unfold fO at e;(repeat' split at e)<;>omega
theorem a0i (p c k:Nat):fO p c (fO p c k)=k:=by unfold fO;(repeat' split)<;>omega
theorem a0j {p c k:Nat} (hcp:c<=p) (hk:k<c):fO p c k=k:=by unfold fO;rw [if_neg (by omega),if_neg (by omega)]
theorem KC {p c k:Nat} (hcp:c<=p) (hk:c<=k):c<=fO p c k:=by unfold fO;(repeat' split)<;>omega
theorem zZ.swap {R:Nat->Nat->Rat} {c q:Nat} {T:bq} {π:Nat->Nat} {p:Nat->Rat} (h:zZ n M R c T π p) (hc:c<n) (hq:q<n) (hcq:c<=q):zZ n M (jE R q c) c T (fun i=>π (fO q c i)) (fun i=>p (fO q c i)):=by
 refine ⟨h.v,h.rep,h.D,fun i hi=>h.lt _ (sO hq hc hi),fun i k hi hk e=>a0h (h.inj _ _ (sO hq hc hi) (sO hq hc hk) e),fun r hr=>?_,fun i hi hin=>?_,fun i hi hin=>h.free _ (KC hcq hi) (sO hq hc hin),fun i j hi hj=>h.eq _ j (sO hq hc hi) hj,fun i hi=>h.one _ (KC hcq hi),fun i hi=>h.pq _ (sO hq hc hi)⟩
 ·obtain ⟨i,hi,e⟩:=h.Xg r hr
  exact ⟨fO q c i,sO hq hc hi,by show π (fO q c (fO q c i))=r;rw [a0i];exact e⟩
 ·show T.basis (π (fO q c i))=i
  rw [a0j hcq hi];exact h.eO i hi hin
theorem zZ.sm {R:Nat->Nat->Rat} {c:Nat} {T:bq} {π:Nat->Nat} {p:Nat->Rat} (h:zZ n M R c T π p) (hM:∀i j,i<n->j<=n->M i j=0∨M i j=1) (hn:n<=7):
 ∃d:Int,d≠0/\d.natAbs<=1680/\∀r,r<n->∀j,j<=n+n->∃a:Int,T.cell r j*(d:Rat)=(a:Rat)/\a.natAbs<=1680:=by
 obtain ⟨d,hd,hs⟩:=small (a0f hM) h.v.lt h.rep h.D
 have hb:=b5n hn
 exact ⟨d,hs.ne,Nat.le_trans hs.den hb,fun r hr j hj=>by obtain ⟨a,h1,h2⟩:=hs.row r hr j hj;exact ⟨a,h1,by omega⟩⟩
theorem Xh {j:Nat} (hj:j<=n):(if j=n then n+n else j)<=n+n:=by split<;>omega
theorem zZ.elim {R:Nat->Nat->Rat} {c:Nat} {T:bq} {π:Nat->Nat} {p:Nat->Rat} (h:zZ n M R c T π p) (hM:∀i j,i<n->j<=n->M i j=0∨M i j=1) (hn:n<=7) (hc:c<n) (hne:R c c≠0):
 zZ n M (eW R c) (c+1) (T.pivot (π c) c) π (fun i=>if i=c then T.cell (π c) c else p i):=by
 have hpc:=h.one c (Nat.le_refl _)
 have QA:∀j,j<=n->R c j=T.cell (π c) (if j=n then n+n else j):=fun j hj=>by rw [h.eq c j hc hj,hpc];grind
 have a8o:R c c=T.cell (π c) c:=by rw [QA c (by omega),if_neg (by omega)]
 have hp:T.cell (π c) c≠0:=by rw [<-a8o];exact hne
 have hlc:=h.lt c hc
 obtain ⟨d,hd,hdb,hrow⟩:=h.sm hM hn
 refine ⟨h.v.pivot hlc (by omega) hp,h.rep.pivot hlc (by omega) hp,?_,h.lt,h.inj,h.Xg,fun i hi hin=>?_,fun i hi hin=>?_,fun i j hi hj=>?_,fun i hi=>?_,fun i hi=>?_⟩
 ·rw [Iz h.rep hlc (by omega)]
  exact fun e=>by rcases Rat.mul_eq_zero.1 e with e|e;exact hp e;exact h.D e
 ·show (if π i=π c then c else T.basis (π i))=i
  by_cases e:i=c
  ·rw [e,if_pos rfl]
  ·rw [if_neg (fun e2=>e (h.inj i c hin hc e2))];exact h.eO i (by omega) hin
 ·show n<=(if π i=π c then c else T.basis (π i))
  rw [if_neg (fun e2=>by have:=h.inj i c hin hc e2;omega)];exact h.free i (by omega) hin
 ·show eW R c i j=(if i=c then T.cell (π c) c else p i)*(if π i=π c then _ else _)
  unfold eW
  by_cases e:i=c
  ·rw [if_pos (Or.inl e),if_pos e,e,if_pos rfl,QA j hj];grind
  ·rw [if_neg e,if_neg (fun e2=>e (h.inj i c hi hc e2))]
   by_cases hjc:j<c
   ·rw [if_pos (Or.inr hjc),h.eq i j hi hj,if_neg (by omega)]
    have h0:T.cell (π c) j=0:=by
     have:=h.v.unit (π j) (h.lt j (by omega)) (π c) (by omega)
     rw [h.eO j hjc (by omega)] at this
     rw [this,if_neg (fun e2=>by have:=h.inj c j hc (by omega) e2;omega)]
    rw [h0];grind
   ·rw [if_neg (by omega),h.eq i j hi hj,h.eq i c hi (by omega),if_neg (show ¬c=n by omega),a8o,QA j hj]
    grind
 ·show (if i=c then _ else p i)=1
  rw [if_neg (by omega)];exact h.one i (by omega)
 ·show Qu 1680 1680 (if i=c then _ else p i)/\(if i=c then _ else p i)≠0
  by_cases e:i=c
  ·rw [if_pos e]
   obtain ⟨a,h1,h2⟩:=hrow (π c) hlc c (by omega)
   exact ⟨Qu.FA hd h2 hdb h1,hp⟩
  ·rw [if_neg e];exact h.pq i hi
theorem zZ.sz {R:Nat->Nat->Rat} {c:Nat} {T:bq} {π:Nat->Nat} {p:Nat->Rat} (h:zZ n M R c T π p) (hM:∀i j,i<n->j<=n->M i j=0∨M i j=1) (hn:n<=7):∀i j,i<n->j<=n->Sz 2822400 2822400 (R i j):=by
 intro i j hi hj
 obtain ⟨d,hd,hdb,hrow⟩:=h.sm hM hn
 obtain ⟨a,h1,h2⟩:=hrow (π i) (h.lt i hi) _ (Xh hj)
 rw [h.eq i j hi hj]
 exact Qu.sz ((h.pq i hi).1.mul (Qu.FA hd h2 hdb h1))
theorem AZ (hM:∀i j,i<n->j<=n->M i j=0∨M i j=1) (hn:n<=7):∀c R,c<=n->fJ n M c=some R->∃T π p,zZ n M R c T π p
 |0,R,_,h=>by obtain rfl:=Option.some.inj h;exact ⟨_,_,_,a0g⟩
 |c+1,R,hc,h=>by
  simp only [fJ] at h
  obtain ⟨R0,h0,h1⟩:=Option.bind_eq_some_iff.1 h
  obtain ⟨T,π,p,hi⟩:=AZ hM hn c R0 (by omega) h0
  by_cases hp:iP R0 c c (n - c)<n
  ·rw [if_pos hp] at h1
   obtain rfl:=Option.some.inj h1
   have hle:=(Nx R0 c (n - c) c).1
   have hne:=Gc R0 c (n - c) c (by omega)
   have hs:=hi.swap (by omega) hp hle
   refine ⟨_,_,_,hs.elim hM hn (by omega) ?_⟩
   show R0 (fO _ c c) c≠0
   have:fO (iP R0 c c (n - c)) c c=iP R0 c c (n - c):=by unfold fO;rw [if_pos rfl]
   rw [this];exact hne
  ·rw [if_neg hp] at h1;exact absurd h1 (by simp)
theorem b1r (hM:∀i j,i<n->j<=n->M i j=0∨M i j=1) (hn:n<=7) (c:Nat) (R:Nat->Nat->Rat) (hc:c<n) (h:fJ n M c=some R):GOk n c R:=by
 obtain ⟨T,π,p,hi⟩:=AZ hM hn c R (by omega) h
 have key:iP R c c (n - c)<n->∀r,r<n->r≠c->Qu 2822400 2822400 (jE R (iP R c c (n - c)) c r c/jE R (iP R c c (n - c)) c c c)/\∀j,j<=n->Qu 1680 1680 (jE R (iP R c c (n - c)) c c j):=by
  intro hp r hr hrc
  have hle:=(Nx R c (n - c) c).1
  have hne:=Gc R c (n - c) c (by omega)
  have hs:=hi.swap hc hp hle
  have hnc:jE R (iP R c c (n - c)) c c c≠0:=by
   show R (fO _ c c) c≠0
   have:fO (iP R c c (n - c)) c c=iP R c c (n - c):=by unfold fO;rw [if_pos rfl]
   rw [this];exact hne
  generalize jE R (iP R c c (n - c)) c=R1 at*
  generalize (fun i=>π (fO (iP R c c (n - c)) c i))=π1 at*
  generalize (fun i=>p (fO (iP R c c (n - c)) c i))=p1 at*
  obtain ⟨d,hd,hdb,hrow⟩:=hs.sm hM hn
  have QA:∀j,j<=n->R1 c j=T.cell (π1 c) (if j=n then n+n else j):=fun j hj=>by rw [hs.eq c j hc hj,hs.one c (Nat.le_refl _)];grind
  refine ⟨?_,fun j hj=>?_⟩
  ·obtain ⟨a,h1,h2⟩:=hrow (π1 r) (hs.lt r hr) c (by omega)
   obtain ⟨b,h3,h4⟩:=hrow (π1 c) (hs.lt c hc) c (by omega)
   have e1:R1 c c=T.cell (π1 c) c:=by rw [QA c (by omega),if_neg (by omega)]
   have e2:R1 r c=p1 r*T.cell (π1 r) c:=by rw [hs.eq r c hr (by omega),if_neg (by omega)]
   rw [e1] at hnc
   have hb0:b≠0:=fun e=>by
    rw [e] at h3
    have:T.cell (π1 c) c*(d:Rat)=0:=h3
    rcases Rat.mul_eq_zero.1 this with e|e
    ·exact hnc e
    ·exact IC hd e
   have hq:Qu 1680 1680 (T.cell (π1 r) c/T.cell (π1 c) c):=⟨a,b,hb0,by rw [<-h3,<-h1];grind,h2,h4⟩
   have e3:R1 r c/R1 c c=p1 r*(T.cell (π1 r) c/T.cell (π1 c) c):=by rw [e1,e2];grind
   rw [e3]
   exact (hs.pq r hr).1.mul hq
  ·obtain ⟨a,h1,h2⟩:=hrow (π1 c) (hs.lt c hc) _ (Xh hj)
   rw [QA j hj]
   exact Qu.FA hd h2 hdb h1
 refine ⟨hi.sz hM hn,fun hp r hr hrc=>Qu.sz (key hp r hr hrc).1,fun hp r j hr hrc hj=>Qu.sz ((key hp r hr hrc).1.mul ((key hp r hr hrc).2 j hj))⟩
theorem a8p (hM:∀i j,i<n->j<=n->M i j=0∨M i j=1) (hn:n<=7) (R:Nat->Nat->Rat) (h:fJ n M n=some R):a7U n R:=by
 obtain ⟨T,π,p,hi⟩:=AZ hM hn n R (Nat.le_refl _) h
 refine ⟨hi.sz hM hn,fun c hc=>?_⟩
 rw [hi.eq c c hc (by omega),if_neg (by omega)]
 have:=hi.v.unit (π c) (hi.lt c hc) (π c) (by have:=hi.lt c hc;omega)
 rw [hi.eO c hc hc,if_pos rfl] at this
 rw [this]
 have:=(hi.pq c hc).2;grind
theorem Xi (hM:∀i j,i<n->j<=n->M i j=0∨M i j=1) (hn:n<=7) (R:Nat->Nat->Rat) (h:fJ n M n=some R):
 (∀k,k<n->S n (fun j=>M k j*(R j n/R j j))=M k n)/\∃d:Int,d≠0/\d.natAbs<=1680/\∀c,c<n->∃a:Int,(R c n/R c c)*(d:Rat)=(a:Rat)/\a.natAbs<=1680:=by
 obtain ⟨T,π,p,hi⟩:=AZ hM hn n R (Nat.le_refl _) h
 have hx:∀c,c<n->R c n/R c c=T.cell (π c) (n+n):=fun c hc=>by
  rw [hi.eq c c hc (by omega),if_neg (by omega),hi.eq c n hc (Nat.le_refl _),if_pos rfl]
  have:=hi.v.unit (π c) (hi.lt c hc) (π c) (by have:=hi.lt c hc;omega)
  rw [hi.eO c hc hc,if_pos rfl] at this
  rw [this]
  have:=(hi.pq c hc).2;grind
 have hX:∀c,c<n->T.X n (n+n) c=T.cell (π c) (n+n):=fun c hc=>by
  have:=Ay hi.v (hi.lt c hc)
  rw [hi.eO c hc hc] at this;exact this
 refine ⟨fun k hk=>?_,?_⟩
 ·rw [dw (g:=fun j=>M k j*T.X n (n+n) j) (fun j hj=>by rw [hx j hj,hX j hj])]
  refine (Ea hi.v).2 k hk (fun hb=>?_)
  obtain ⟨r,hr,e⟩:=hb
  obtain ⟨i,KD,rfl⟩:=hi.Xg r hr
  rw [hi.eO i KD KD] at e;omega
 ·obtain ⟨d,hd,hdb,hrow⟩:=hi.sm hM hn
  exact ⟨d,hd,hdb,fun c hc=>by rw [hx c hc];exact hrow (π c) (hi.lt c hc) _ (Nat.le_refl _)⟩
theorem QB (R:Nat->Nat->Rat) (c:Nat):∀d p,¬iP R c p d<p+d->∀i,p<=i->i<p+d->R i c=0
 |0,p,_,i,h1,h2=>by omega
 |d+1,p,h,i,h1,h2=>by
  simp only [iP] at h
  by_cases e:R p c=0
  ·rw [if_pos e] at h
   by_cases e2:i=p
   ·rw [e2];exact e
   ·exact QB R c d (p+1) (by omega) i (by omega) (by omega)
  ·rw [if_neg e] at h;omega
theorem QD (hM:∀i j,i<n->j<=n->M i j=0∨M i j=1) (hn:n<=7):∀c,c<=n->fJ n M c=none->∃z:Nat->Rat,(∃j,j<n/\z j≠0)/\∀k,k<n->S n (fun j=>M k j*z j)=0
 |0,_,h=>by simp [fJ] at h
 |c+1,hc,h=>by
  cases h0:fJ n M c with
  |none=>exact QD hM hn c (by omega) h0
  |some R=>
   simp only [fJ] at h
   rw [h0] at h
   have hp:¬iP R c c (n - c)<n:=fun hp=>by
    have h':(if iP R c c (n - c)<n then some (eW (jE R (iP R c c (n - c)) c) c) else none)=none:=h
    rw [if_pos hp] at h';exact absurd h' (by simp)
   have hz:=QB R c (n - c) c (by omega)
   obtain ⟨T,π,p,hi⟩:=AZ hM hn c R (by omega) h0
   have hnb:¬iO n T c:=fun ⟨r,hr,e⟩=>by
    obtain ⟨i,KD,rfl⟩:=hi.Xg r hr
    by_cases hic:i<c
    ·rw [hi.eO i hic KD] at e;omega
    ·have:=hi.free i (by omega) KD;omega
   refine ⟨T.dir n c,⟨c,by omega,by rw [DV];grind⟩,fun k hk=>?_⟩
   have h1:=(hi.v.ur 0 _).2 (yu hi.v (by omega) hnb) k hk
   rw [qT 0 _ hk] at h1
   have h2:T.dir n c (n+k)=0:=by
    unfold bq.dir
    rw [if_neg (by omega)]
    refine jL (fun r hr=>?_)
    split
    ·next e=>
     obtain ⟨i,KD,rfl⟩:=hi.Xg r hr
     have hci:c<=i:=by
      by_cases hic:i<c
      ·rw [hi.eO i hic KD] at e;omega
      ·omega
     have h3:=hz i hci (by omega)
     rw [hi.eq i c KD (by omega),if_neg (by omega),hi.one i hci] at h3
     grind
    ·rfl
   rw [h2] at h1
   have h4:S n (fun j=>M k j*T.dir n c j)+0 - M k n*0=0:=h1
   grind
end
def jF (a:Int) (d:cq):Bool:=decide (d.f0.length<=1048576)&&d.f0.all (fun x=>decide (0<=x)&&decide (x<a))&&(decide (d.f2=0)||decide (d.f2=1))
theorem rS {a:Int} {d:cq}:jF a d=true↔d.f0.length<=1048576/\(∀x,x∈d.f0->0<=x/\x<a)/\(d.f2=0∨d.f2=1):=by
 unfold jF
 simp only [Bool.and_eq_true,Bool.or_eq_true,decide_eq_true_eq,List.all_eq_true,and_assoc]
def a8q (o:Option (Nat->Nat->Rat)) (n:Nat):List bM:=match o with|none=>[]|some R=>(List.range n).map (fun c=>(⟨(R c n/R c c).num,((R c n/R c c).den:Int)⟩:bM))
def yA (a:Int) (ch:List cq):Bool:=decide (a=(ch.length:Int))&&decide (0<ch.length)&&decide (ch.length<=7)&&ch.all (jF a)
def Gi (a:Int) (ch:List cq):Option (List bM×Bool):=
 if yA a ch=true then some (a8q (fJ ch.length (gK ch ch.length) ch.length) ch.length,(fJ ch.length (gK ch ch.length) ch.length).isSome) else none
theorem NQ {a:Int} {ch:List cq} (h:ch.all (jF a)=true):∀i j,i<ch.length->j<=ch.length->gK ch ch.length i j=0∨gK ch ch.length i j=1:=by
 intro i j hi hj
 have hd:=rS.1 (List.all_eq_true.1 h _ (List.getElem_mem hi))
 unfold gK
 by_cases e:j=ch.length
 ·rw [if_pos e]
  have:ch.getD i z49=ch[i]:=by simp [List.getD_eq_getElem?_getD,hi]
  rw [this]
  rcases hd.2.2 with h|h
  ·exact .inl (by rw [h];rfl)
  ·exact .inr (by rw [h];rfl)
 ·rw [if_neg e];split
  ·exact .inr rfl
  ·exact .inl rfl
theorem Pg (a:Int) (A:Option Addr) (c:Nat) (ch:List cq) (r1:List bM) (r2:Bool) (w:World) (hC:Kd.C iZ w A ch.length ch) (hc:ch.length<=c) (h:Gi a ch=some (r1,r2)):
 Calls Try.prog 48 #[.int .i64 a,.slice A ch.length c] w fun e w'=>∃oZ:Value,e= .returned (.tuple #[oZ,.bool r2])/\Kd.R eY 26 w' w.heap.size (fun _=>True) oZ r1/\Below w.heap.size w w':=by
 unfold Gi at h
 by_cases hg:yA a ch=true
 ·rw [if_pos hg] at h
  obtain ⟨rfl,rfl⟩:=Prod.mk.inj (Option.some.inj h)
  unfold yA at hg
  simp only [Bool.and_eq_true,decide_eq_true_eq] at hg
  obtain ⟨⟨⟨rfl,h0⟩,h7⟩,hall⟩:=hg
  have hM:=NQ hall
  refine (Tf A c ch.length ch w hC hc rfl h0 h7 (fun c R hc h=>b1r hM h7 c R hc h) (fun R h=>a8p hM h7 R h) (fun d hd=>?_)).mono ?_
  ·have:=rS.1 (List.all_eq_true.1 hall d hd)
   exact ⟨this.1,this.2.1⟩
  ·rintro e w' ⟨v0,rfl,hR,hB⟩
   refine ⟨v0,rfl,?_,hB⟩
   unfold a8q
   cases hg:fJ ch.length (gK ch ch.length) ch.length with
   |none=>rw [hg] at hR;exact hR
   |some R=>rw [hg] at hR;exact hR
 ·rw [if_neg hg] at h;exact absurd h (by simp)
end Go.Proofs.Ytnhknojfpjheoaa.PT
