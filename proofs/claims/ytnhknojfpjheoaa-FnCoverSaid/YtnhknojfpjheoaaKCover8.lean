/-
  Part 8 of the proof of this: The law FnCover answers true at every argument.
-/
import Derived.Test.YtnhknojfpjheoaaKCover2
import Derived.Test.YtnhknojfpjheoaaKCover5
import Derived.Test.YtnhknojfpjheoaaKCover6
import Derived.Test.YtnhknojfpjheoaaKCover7
namespace Go.Proofs.Ytnhknojfpjheoaa.PT
open Go.RowKit Go.Proofs.Ytnhknojfpjheoaa.P Go.Proofs.YtnhknojfpjheoaaW.PrintWords Go.Proofs.YtnhknojfpjheoaaW.PrintLast Go.Proofs.Ytnhknojfpjheoaa.EvKit Go.Proofs.Ytnhknojfpjheoaa.Num Go.Proofs.Ytnhknojfpjheoaa.Lp
set_option linter.all false
theorem a9M {m:Nat} (h:m<=6):Ca m<=240/\Ca (m+1)<=1680:=by
 rcases m with _|_|_|_|_|_|_|m<;>first|(constructor<;>decide)|omega
theorem a6G {n:Nat} (h:n<=6):fact n<=720:=My h
theorem SD {q:Rat} {a d:Int} {c:Nat} (h1: -((c:Int):Rat)<=q) (h2:q<=((c:Int):Rat)) (e:q*(d:Rat)=(a:Rat)):a.natAbs<=c*d.natAbs:=by
 have key:∀x y:Int,(x:Rat)<=(y:Rat)->x<=y:=fun x y h=>by exact_mod_cast h
 by_cases hd:0<=d
 ·have hd':(0:Rat)<=(d:Rat):=by exact_mod_cast hd
  have u1:=Rat.mul_le_mul_of_nonneg_right h1 hd'
  have u2:=Rat.mul_le_mul_of_nonneg_right h2 hd'
  rw [e] at u1 u2
  have v1:=key (-(c:Int)*d) a (by rw [Rat.intCast_mul,Rat.intCast_neg];exact u1)
  have v2:=key a ((c:Int)*d) (by rw [Rat.intCast_mul];exact u2)
  have e1:d=(d.natAbs:Int):=by omega
  rw [e1] at v1 v2
  have e2:((c*d.natAbs:Nat):Int)=(c:Int)*(d.natAbs:Int):=Int.natCast_mul _ _
  have e3: -(c:Int)*(d.natAbs:Int)= -((c:Int)*(d.natAbs:Int)):=Int.neg_mul _ _
  omega
 ·have hd':(0:Rat)<=((-d:Int):Rat):=by exact_mod_cast (by omega:(0:Int)<= -d)
  have u1:=Rat.mul_le_mul_of_nonneg_right h1 hd'
  have u2:=Rat.mul_le_mul_of_nonneg_right h2 hd'
  have e':q*((-d:Int):Rat)=((-a:Int):Rat):=by rw [Rat.intCast_neg,Rat.intCast_neg,<-e];grind
  rw [e'] at u1 u2
  have v1:=key (-(c:Int)* -d) (-a) (by rw [Rat.intCast_mul,Rat.intCast_neg];exact u1)
  have v2:=key (-a) ((c:Int)* -d) (by rw [Rat.intCast_mul];exact u2)
  have e1: -d=(d.natAbs:Int):=by omega
  rw [e1] at v1 v2
  have e2:((c*d.natAbs:Nat):Int)=(c:Int)*(d.natAbs:Int):=Int.natCast_mul _ _
  have e3: -(c:Int)*(d.natAbs:Int)= -((c:Int)*(d.natAbs:Int)):=Int.neg_mul _ _
  omega
section
variable {n m:Nat} {A:Nat->Nat->Rat}
abbrev ym (n m:Nat) (A:Nat->Nat->Rat):bw:=init n m A (fun _=>((-1:Int):Rat)) ((1:Int):Rat)
structure vv (n m:Nat) (A:Nat->Nat->Rat) (T:bw):Prop extends DInv m (n+m) (n+1) (ym n m A) T where
 rep:xH m (n+m) (n+1) (ym n m A) T
 D:(ym n m A).D T m≠0
theorem vT:((1:Int):Rat)=1:=rfl
theorem Cs:((-1:Int):Rat)= -1:=rfl
theorem Yn (hA:∀i j,i<m->j<n->A i j=0∨A i j= -1):tV m (n+m) (n+1) (ym n m A):=
 AD (a:= -1) (ρ:= -1) (.inr rfl) (.inr rfl) hA (fun _ _=> .inr rfl) (.inl rfl)
theorem Mz:vv n m A (ym n m A):=by
 refine ⟨⟨sx,fun j hj=>?_⟩,FL,by rw [Pe];grind⟩
 by_cases h:j<n
 ·refine gY.2 (.inr ⟨0,by omega,fun i hi=>by omega,?_⟩)
  show 0<(ym n m A).cell (m+0) j
  simp only [init]
  rw [if_neg (by omega),if_pos (by omega),if_pos h,vT];grind
 ·refine gY.2 (.inl (fun k hk=>?_))
  show (ym n m A).cell (m+k) j=0
  simp only [init]
  rw [if_neg (by omega)]
  by_cases e:m+k=m
  ·rw [if_pos e,if_neg h]
  ·rw [if_neg e,if_neg (by omega)]
theorem a1p {T T':bw} (h:vv n m A T) (s:Nonempty (DStep m (n+m) (n+1) T T')):vv n m A T':=by
 obtain ⟨s⟩:=s
 have hv:=s.inv h.toDInv
 obtain ⟨r,c,hr,hc,rhs,neg,best,rfl⟩:=s
 have hp:T.cell r c≠0:=by grind
 refine ⟨hv,h.rep.pivot hr hc hp,?_⟩
 rw [Kt h.rep hr hc]
 have:=h.D
 exact fun e=>by rcases Rat.mul_eq_zero.1 e with e|e;exact hp e;exact this e
theorem FR (hA:∀i j,i<m->j<n->A i j=0∨A i j= -1) (hm:m<=6) {T:bw} (h:vv n m A T):lA 240 1680 m (n+m) (n+1) T:=by
 obtain ⟨d,hd,hs⟩:=small (Yn hA) h.lt h.rep h.D
 have hb:=a9M hm
 refine ⟨⟨d,hs.ne,Nat.le_trans hs.den hb.1,fun r hr j hj=>?_,fun k hk j hj=>?_,fun k hk=>?_⟩,by decide,by decide,by decide,by decide⟩
 ·obtain ⟨a,h1,h2⟩:=hs.row r hr j hj;exact ⟨a,h1,by omega⟩
 ·obtain ⟨a,h1,h2⟩:=hs.cost k hk j (by omega);exact ⟨a,h1,by omega⟩
 ·obtain ⟨a,h1,h2⟩:=hs.cost k hk (n+m) (Nat.le_refl _);exact ⟨a,h1,by omega⟩
theorem a1q (hA:∀i j,i<m->j<n->A i j=0∨A i j= -1) (hm:m<=6):Road 240 1680 (2^(n+m)) m (n+m) (n+1) (fun T T'=>Nonempty (DStep m (n+m) (n+1) T T')) (vv n m A) (ym n m A):=
 ⟨Mz,fun T T' h s=>a1p h s,fun T h=>FR hA hm h,fun seq h0 hs=>WS UG seq (by rw [h0];exact Mz.toDInv) hs⟩
theorem a1r (hA:∀i j,i<m->j<n->A i j=0∨A i j= -1) (hin:∀i,i<m->∃j,j<n/\A i j= -1) {T:bw} (h:vv n m A T) {r:Nat} (hr:r<m) (hneg:T.cell r (n+m)<0):∃c,c<n+m/\T.cell r c<0:=by
 by_cases hx:∃c,c<n+m/\T.cell r c<0
 ·exact hx
 ·exfalso
  have hf:Cb n m A (fun _=>((-1:Int):Rat)) (fun _=>1):=⟨fun j _=>by show (0:Rat)<=1;grind,fun i hi=>by
   obtain ⟨j,hj,e⟩:=hin i hi
   have h1:=tB hj (f:=fun j=> -1*(A i j*1)) (fun l hl=>by
    show 0<= -1*(A i l*1)
    rcases hA i l hi hl with e|e<;>rw [e]<;>grind)
   rw [nv] at h1
   have h2: -1*(A i j*1)<= -1*S n (fun j=>A i j*1):=h1
   rw [e] at h2
   show S n (fun j=>A i j*1)<=((-1:Int):Rat)
   rw [Cs];grind⟩
  have h2:=(h.sN 1 (ext n A (fun _=>((-1:Int):Rat)) (fun _=>1))).1 (fun i hi=>UH hi) r hr
  have h3:0<=S (n+m) (fun j=>T.cell r j*ext n A (fun _=>((-1:Int):Rat)) (fun _=>1) j):=ot (fun j hj=>by
   refine Rat.mul_nonneg ?_ (Hz hf j hj)
   by_cases e:T.cell r j<0
   ·exact absurd ⟨j,hj,e⟩ hx
   ·grind)
  unfold bw.F at h2
  grind
theorem PS {T:bw} (h:vv n m A T) (hp:∀r,r<m->¬T.cell r (n+m)<0):Pf n m A (fun _=>((-1:Int):Rat)) ((1:Int):Rat) (T.X m (n+m)):=
 RY h.toValid h.Pa (fun r hr=>by have:=hp r hr;grind)
abbrev KV (n m:Nat) (A:Nat->Nat->Rat):bw:=init n m A (fun _=>((1:Int):Rat)) ((-1:Int):Rat)
structure yo (n m:Nat) (A:Nat->Nat->Rat) (T:bw):Prop extends PInv m (n+m) (n+1) (KV n m A) T where
 rep:xH m (n+m) (n+1) (KV n m A) T
 D:(KV n m A).D T m≠0
theorem MA (hA:∀i j,i<m->j<n->A i j=0∨A i j=1):tV m (n+m) (n+1) (KV n m A):=
 AD (a:=1) (ρ:=1) (.inl rfl) (.inl rfl) hA (fun _ _=> .inr rfl) (.inr rfl)
theorem MB:yo n m A (KV n m A):=by
 refine ⟨⟨sx,fun r hr=>?_⟩,FL,by rw [Pe];grind⟩
 simp only [init]
 rw [if_pos hr,if_neg (by omega),if_pos trivial,vT];grind
theorem a1s {T T':bw} (h:yo n m A T) (s:Nonempty (mh m (n+m) (n+1) T T')):yo n m A T':=by
 obtain ⟨s⟩:=s
 have hv:=s.inv h.toPInv
 obtain ⟨r,c,hr,hc,neg,first,pos,best,rfl⟩:=s
 have hp:T.cell r c≠0:=by grind
 refine ⟨hv,h.rep.pivot hr hc hp,?_⟩
 rw [Kt h.rep hr hc]
 have:=h.D
 exact fun e=>by rcases Rat.mul_eq_zero.1 e with e|e;exact hp e;exact this e
theorem b3M (hA:∀i j,i<m->j<n->A i j=0∨A i j=1) (hin:∀j,j<n->∃i,i<m/\A i j=1) {T:bw} (h:yo n m A T):∀j,j<n+m->0<=T.X m (n+m) j/\T.X m (n+m) j<=1:=by
 have hX:∀j,0<=T.X m (n+m) j:=fun j=>ot (fun r hr'=>by
  split
  ·exact h.FH r hr'
  ·grind)
 have hF:∀i,i<m->S n (fun j=>A i j*T.X m (n+m) j)+T.X m (n+m) (n+i)=1:=fun i hi=>by
  have:=(h.sN 1 _).2 (fun i hi=>h.toValid.Mb hi) i hi
  rw [ou 1 _ hi,vT] at this;grind
 have Yo:∀i,i<m->∀j,j<n->0<=A i j*T.X m (n+m) j:=fun i hi j hj=>Rat.mul_nonneg (by rcases hA i j hi hj with e|e<;>rw [e]<;>grind) (hX j)
 intro j hj
 refine ⟨hX j,?_⟩
 by_cases hjn:j<n
 ·obtain ⟨i,hi,e⟩:=hin j hjn
  have h1:=tB hjn (Yo i hi)
  rw [e] at h1
  have:=hF i hi
  have:=hX (n+i)
  grind
 ·have h1:=hF (j - n) (by omega)
  have e:n+(j - n)=j:=by omega
  rw [e] at h1
  have:=ot (Yo (j - n) (by omega))
  grind
theorem a9N {k:Nat} {f:Nat->Rat} (h:∀j,j<k->f j<=1):S k f<=((k:Int):Rat):=by
 induction k with
 |zero=>simp only [S];exact Rat.le_refl
 |succ k ih=>
  have h1:=ih (fun j hj=>h j (by omega))
  have h2:=h k (by omega)
  simp only [S]
  have e:(((k+1:Nat):Int):Rat)=((k:Int):Rat)+1:=by
   rw [Int.natCast_add,Rat.intCast_add];rfl
  rw [e];grind
theorem FT (hA:∀i j,i<m->j<n->A i j=0∨A i j=1) (hin:∀j,j<n->∃i,i<m/\A i j=1) (hn:n<=6) {T:bw} (h:yo n m A T):lA 720 720 m (n+m) (n+1) T:=by
 obtain ⟨d,hd,hs⟩:=small (MA hA) h.lt h.rep h.D
 obtain ⟨w1,w2,w3⟩:=Vf (MA hA) h.toValid h.rep
 have hf:=a6G hn
 have hX:=b3M hA hin h
 have hdd:d.natAbs<=720:=by
  obtain ⟨z,e,hz⟩:=w1 hd
  have:d=z:=yg e
  omega
 refine ⟨⟨d,hs.ne,hdd,fun r hr j hj=>?_,fun k hk j hj=>?_,fun k hk=>?_⟩,by decide,by decide,by decide,by decide⟩
 ·by_cases e:j<n+m
  ·obtain ⟨z,e1,hz⟩:=w2 r j hr e
   exact ⟨z,by rw [hd];exact e1,by omega⟩
  ·have e2:j=n+m:=by omega
   subst e2
   obtain ⟨a,h1,h2⟩:=hs.row r hr (n+m) (Nat.le_refl _)
   have hx:=hX (T.basis r) (h.lt r hr)
   rw [Aw h.toValid hr] at hx
   have:=SD (c:=1) (by have:=hx.1;show -((1:Int):Rat)<=_;rw [vT];grind) (by show _<=((1:Int):Rat);rw [vT];exact hx.2) h1
   exact ⟨a,h1,by omega⟩
 ·obtain ⟨z,e1,hz⟩:=w3 k j hk hj
  exact ⟨z,by rw [hd];exact e1,by omega⟩
 ·obtain ⟨a,h1,h2⟩:=hs.cost k hk (n+m) (Nat.le_refl _)
  have hc:=h.toValid.FD hk
  rw [h.cost 1 _ (fun i hi=>h.toValid.Mb hi) k hk,Cc _ hk] at hc
  have hq: -((6:Nat):Int)<=T.cell (m+k) (n+m)/\T.cell (m+k) (n+m)<=(((6:Nat):Int):Rat):=by
   have e6:(((6:Nat):Int):Rat)=6:=rfl
   unfold fR at hc
   by_cases e:k=0
   ·rw [if_pos e,Cs] at hc
    have u1:=ot (n:=n) (f:=T.X m (n+m)) (fun j hj=>(hX j (by omega)).1)
    have u2:=a9N (k:=n) (f:=T.X m (n+m)) (fun j hj=>(hX j (by omega)).2)
    have u3:((n:Int):Rat)<=6:=by
     have:((n:Int):Rat)<=((6:Int):Rat):=by exact_mod_cast hn
     exact this
    constructor
    ·rw [e6];grind
    ·rw [e6];grind
   ·rw [if_neg e] at hc
    have u1:=hX (k - 1) (by omega)
    constructor
    ·rw [e6];grind
    ·rw [e6];grind
  have:=SD (c:=6) hq.1 hq.2 h1
  exact ⟨a,h1,by omega⟩
theorem a1t (hA:∀i j,i<m->j<n->A i j=0∨A i j=1) (hin:∀j,j<n->∃i,i<m/\A i j=1) (hn:n<=6):Road 720 720 (2^(n+m)) m (n+m) (n+1) (fun T T'=>Nonempty (mh m (n+m) (n+1) T T')) (yo n m A) (KV n m A):=
 ⟨MB,fun T T' h s=>a1s h s,fun T h=>FT hA hin hn h,fun seq h0 hs=>Rp seq (by rw [h0];exact MB.toPInv) hs⟩
theorem a6H (hA:∀i j,i<m->j<n->A i j=0∨A i j=1) (hin:∀j,j<n->∃i,i<m/\A i j=1) {T:bw} (h:yo n m A T) {c:Nat} (hc:c<n+m) (hneg:eW (n+1) (T.cost m c)):∃r,r<m/\0<T.cell r c:=by
 by_cases hx:∃r,r<m/\0<T.cell r c
 ·exact hx
 ·exfalso
  have hnb:¬iT m T c:=sw h.toValid (fun hz=>wR hz hneg)
  have hd:∀j,0<=T.dir m c j:=fun j=>by
   unfold bw.dir
   split
   ·grind
   ·refine ot (fun r hr=>?_)
    split
    ·by_cases e:0<T.cell r c
     ·exact absurd ⟨r,hr,e⟩ hx
     ·grind
    ·grind
  have hF:∀i,i<m->S n (fun j=>A i j*T.dir m c j)+T.dir m c (n+i)=0:=fun i hi=>by
   have:=(h.sN 0 _).2 (zo h.toValid hc hnb) i hi
   rw [ou 0 _ hi] at this;grind
  have Yo:∀i,i<m->∀j,j<n->0<=A i j*T.dir m c j:=fun i hi j hj=>Rat.mul_nonneg (by rcases hA i j hi hj with e|e<;>rw [e]<;>grind) (hd j)
  have h1:=FE T m c
  by_cases Mt:c<n
  ·obtain ⟨i,hi,e⟩:=hin c Mt
   have h2:=tB Mt (Yo i hi)
   rw [e,h1] at h2
   have:=hF i hi
   have:=hd (n+i)
   grind
  ·have h2:=hF (c - n) (by omega)
   have e:n+(c - n)=c:=by omega
   rw [e,h1] at h2
   have:=ot (Yo (c - n) (by omega))
   grind
theorem FU {T:bw} (h:yo n m A T) (hc:∀c,c<n+m->¬eW (n+1) (T.cost m c)):Pf n m A (fun _=>((1:Int):Rat)) ((-1:Int):Rat) (T.X m (n+m)):=
 RY h.toValid hc h.FH
end
theorem a9O {m N K:Nat} {t0 T:bw} (v:Valid m N K t0 T) (j:Nat):xq T N m j=T.X m N j:=by
 have key:∀r,r<=m->xq T N r j=S r (fun q=>if T.basis q=j then T.cell q N else 0):=by
  intro r
  induction r with
  |zero=>intro _;rfl
  |succ r ih=>
   intro hr
   simp only [xq,S]
   by_cases e:T.basis r=j
   ·rw [if_pos e,if_pos e,ig (fun q hq=>if_neg (fun e2=>by have:=v.inj (r:=q) (r':=r) (by omega) (by omega) (e2.trans e.symm);omega))];grind
   ·rw [if_neg e,if_neg e,ih (by omega)];grind
 exact key m (Nat.le_refl _)
theorem b7V {m N:Nat} {T:bw} (n:Nat):sm T N n m=S n (T.X m N):=by
 have key:∀r,sm T N n r=S r (fun q=>if T.basis q<n then T.cell q N else 0):=by
  intro r
  induction r with
  |zero=>rfl
  |succ r ih=>
   simp only [sm,S]
   split
   ·rw [ih]
   ·rw [ih];grind
 rw [key m]
 unfold bw.X
 show _=S n (fun j=>S m (fun r=>if T.basis r=j then T.cell r N else 0))
 rw [BU]
 refine dD (fun q hq=>?_)
 by_cases e:T.basis q<n
 ·rw [if_pos e]
  have:S n (fun j=>if T.basis q=j then T.cell q N else 0)=S n (fun j=>if j=T.basis q then T.cell q N else 0):=dD (fun j _=>by
   by_cases e2:T.basis q=j
   ·rw [if_pos e2,if_pos e2.symm]
   ·rw [if_neg e2,if_neg (fun h=>e2 h.symm)])
  rw [this,fF e (fun _=>T.cell q N)]
 ·rw [if_neg e,ig (fun j hj=>if_neg (fun e2=>e (by omega)))]
theorem a4h {D C m N K n:Nat} {T:bw} (h:lA D C m N K T) (hm:m<=7):∀r,r<=m->Ok (sm T N n r):=by
 obtain ⟨d,hd,hdD,hrow,_⟩:=h.ex
 have hD:=h.d1
 have key:∀r,r<=m->∃a:Int,sm T N n r*(d:Rat)=(a:Rat)/\a.natAbs<=r*D:=by
  intro r
  induction r with
  |zero=>intro _;exact ⟨0,by simp only [sm];grind,by simp⟩
  |succ r ih=>
   intro hr
   obtain ⟨a,h1,h2⟩:=ih (by omega)
   simp only [sm]
   have e1:(r+1)*D=r*D+D:=Nat.succ_mul _ _
   split
   ·obtain ⟨b,h3,h4⟩:=hrow r (by omega) N (Nat.le_refl _)
    exact ⟨a+b,by rw [Rat.intCast_add,<-h1,<-h3];grind,by omega⟩
   ·exact ⟨a,h1,by omega⟩
 intro r hr
 obtain ⟨a,h1,h2⟩:=key r hr
 have h3:r*D<=7*1000:=Nat.mul_le_mul (by omega) hD
 exact Qu.ok (Qu.AE hd (a:=7000) (b:=1000) (by omega) (by omega) h1) (by omega) (by omega)
theorem SE {D C m N K:Nat} {T:bw} (h:lA D C m N K T):∀r,r<m->Ok (T.cell r N):=fun r hr=>h.XZ (by omega) (Nat.le_refl _)
section
variable {n:Nat} {M:Nat->Nat->Rat}
abbrev Yp (n:Nat) (M:Nat->Nat->Rat):bw:=init n n M (fun i=>M i n) 1
structure Bz (n:Nat) (M R:Nat->Nat->Rat) (c:Nat) (T:bw) (π:Nat->Nat) (p:Nat->Rat):Prop where
 v:Valid n (n+n) (n+1) (Yp n M) T
 rep:xH n (n+n) (n+1) (Yp n M) T
 D:(Yp n M).D T n≠0
 lt:∀i,i<n->π i<n
 inj:∀i k,i<n->k<n->π i=π k->i=k
 Yq:∀r,r<n->∃i,i<n/\π i=r
 fc:∀i,i<c->i<n->T.basis (π i)=i
 free:∀i,c<=i->i<n->n<=T.basis (π i)
 eq:∀i j,i<n->j<=n->R i j=p i*T.cell (π i) (if j=n then n+n else j)
 one:∀i,c<=i->p i=1
 pq:∀i,i<n->Qu 1680 1680 (p i)/\p i≠0
theorem b7W {m:Nat} (h:m<=7):Ca m<=1680:=by
 rcases m with _|_|_|_|_|_|_|_|m<;>first|decide|omega
theorem a1u (hM:∀i j,i<n->j<=n->M i j=0∨M i j=1):tV n (n+n) (n+1) (Yp n M):=
 AD (a:=1) (ρ:=1) (.inl rfl) (.inl rfl) (fun i j hi hj=>hM i j hi (by omega)) (fun i hi=>hM i n hi (Nat.le_refl _)) (.inl rfl)
theorem a9P:Qu 1680 1680 1:=⟨1,1,by decide,by grind,by decide,by decide⟩
theorem a1v:Bz n M M 0 (Yp n M) (fun i=>i) (fun _=>1):=by
 refine ⟨sx,FL,by rw [Pe];grind,fun i hi=>hi,fun _ _ _ _ e=>e,fun r hr=>⟨r,hr,rfl⟩,fun i hi=>by omega,fun i _ hi=>by show n<=n+i;omega,fun i j hi hj=>?_,fun _ _=>rfl,fun _ _=>⟨a9P,by grind⟩⟩
 simp only [init]
 rw [if_pos hi]
 by_cases e:j=n
 ·subst e;rw [if_pos rfl,if_neg (by omega),if_pos rfl];grind
 ·rw [if_neg e,if_pos (by omega)];grind
theorem tP {p c k:Nat} (hp:p<n) (hc:c<n) (hk:k<n):gi p c k<n:=by unfold gi;split;exact hp;split;exact hc;exact hk
theorem a1w {p c k l:Nat} (e:gi p c k=gi p c l):k=l:=by unfold gi at e;(repeat' split at e)<;>omega
theorem a1x (p c k:Nat):gi p c (gi p c k)=k:=by unfold gi;(repeat' split)<;>omega
theorem a1y {p c k:Nat} (hcp:c<=p) (hk:k<c):gi p c k=k:=by unfold gi;rw [if_neg (by omega),if_neg (by omega)]
theorem MC {p c k:Nat} (hcp:c<=p) (hk:c<=k):c<=gi p c k:=by unfold gi;(repeat' split)<;>omega
theorem Bz.swap {R:Nat->Nat->Rat} {c q:Nat} {T:bw} {π:Nat->Nat} {p:Nat->Rat} (h:Bz n M R c T π p) (hc:c<n) (hq:q<n) (hcq:c<=q):Bz n M (jM R q c) c T (fun i=>π (gi q c i)) (fun i=>p (gi q c i)):=by
 refine ⟨h.v,h.rep,h.D,fun i hi=>h.lt _ (tP hq hc hi),fun i k hi hk e=>a1w (h.inj _ _ (tP hq hc hi) (tP hq hc hk) e),fun r hr=>?_,fun i hi hin=>?_,fun i hi hin=>h.free _ (MC hcq hi) (tP hq hc hin),fun i j hi hj=>h.eq _ j (tP hq hc hi) hj,fun i hi=>h.one _ (MC hcq hi),fun i hi=>h.pq _ (tP hq hc hi)⟩
 ·obtain ⟨i,hi,e⟩:=h.Yq r hr
  exact ⟨gi q c i,tP hq hc hi,by show π (gi q c (gi q c i))=r;rw [a1x];exact e⟩
 ·show T.basis (π (gi q c i))=i
  rw [a1y hcq hi];exact h.fc i hi hin
theorem Bz.sm {R:Nat->Nat->Rat} {c:Nat} {T:bw} {π:Nat->Nat} {p:Nat->Rat} (h:Bz n M R c T π p) (hM:∀i j,i<n->j<=n->M i j=0∨M i j=1) (hn:n<=7):
 ∃d:Int,d≠0/\d.natAbs<=1680/\∀r,r<n->∀j,j<=n+n->∃a:Int,T.cell r j*(d:Rat)=(a:Rat)/\a.natAbs<=1680:=by
 obtain ⟨d,hd,hs⟩:=small (a1u hM) h.v.lt h.rep h.D
 have hb:=b7W hn
 exact ⟨d,hs.ne,Nat.le_trans hs.den hb,fun r hr j hj=>by obtain ⟨a,h1,h2⟩:=hs.row r hr j hj;exact ⟨a,h1,by omega⟩⟩
theorem Yr {j:Nat} (hj:j<=n):(if j=n then n+n else j)<=n+n:=by split<;>omega
theorem Bz.elim {R:Nat->Nat->Rat} {c:Nat} {T:bw} {π:Nat->Nat} {p:Nat->Rat} (h:Bz n M R c T π p) (hM:∀i j,i<n->j<=n->M i j=0∨M i j=1) (hn:n<=7) (hc:c<n) (hne:R c c≠0):
 Bz n M (fu R c) (c+1) (T.pivot (π c) c) π (fun i=>if i=c then T.cell (π c) c else p i):=by
 have hpc:=h.one c (Nat.le_refl _)
 have SF:∀j,j<=n->R c j=T.cell (π c) (if j=n then n+n else j):=fun j hj=>by rw [h.eq c j hc hj,hpc];grind
 have a9R:R c c=T.cell (π c) c:=by rw [SF c (by omega),if_neg (by omega)]
 have hp:T.cell (π c) c≠0:=by rw [<-a9R];exact hne
 have hlc:=h.lt c hc
 obtain ⟨d,hd,hdb,hrow⟩:=h.sm hM hn
 refine ⟨h.v.pivot hlc (by omega) hp,h.rep.pivot hlc (by omega) hp,?_,h.lt,h.inj,h.Yq,fun i hi hin=>?_,fun i hi hin=>?_,fun i j hi hj=>?_,fun i hi=>?_,fun i hi=>?_⟩
 ·rw [Kt h.rep hlc (by omega)]
  exact fun e=>by rcases Rat.mul_eq_zero.1 e with e|e;exact hp e;exact h.D e
 ·show (if π i=π c then c else T.basis (π i))=i
  by_cases e:i=c
  ·rw [e,if_pos rfl]
  ·rw [if_neg (fun e2=>e (h.inj i c hin hc e2))];exact h.fc i (by omega) hin
 ·show n<=(if π i=π c then c else T.basis (π i))
  rw [if_neg (fun e2=>by have:=h.inj i c hin hc e2;omega)];exact h.free i (by omega) hin
 ·show fu R c i j=(if i=c then T.cell (π c) c else p i)*(if π i=π c then _ else _)
  unfold fu
  by_cases e:i=c
  ·rw [if_pos (Or.inl e),if_pos e,e,if_pos rfl,SF j hj];grind
  ·rw [if_neg e,if_neg (fun e2=>e (h.inj i c hi hc e2))]
   by_cases hjc:j<c
   ·rw [if_pos (Or.inr hjc),h.eq i j hi hj,if_neg (by omega)]
    have h0:T.cell (π c) j=0:=by
     have:=h.v.unit (π j) (h.lt j (by omega)) (π c) (by omega)
     rw [h.fc j hjc (by omega)] at this
     rw [this,if_neg (fun e2=>by have:=h.inj c j hc (by omega) e2;omega)]
    rw [h0];grind
   ·rw [if_neg (by omega),h.eq i j hi hj,h.eq i c hi (by omega),if_neg (show ¬c=n by omega),a9R,SF j hj]
    grind
 ·show (if i=c then _ else p i)=1
  rw [if_neg (by omega)];exact h.one i (by omega)
 ·show Qu 1680 1680 (if i=c then _ else p i)/\(if i=c then _ else p i)≠0
  by_cases e:i=c
  ·rw [if_pos e]
   obtain ⟨a,h1,h2⟩:=hrow (π c) hlc c (by omega)
   exact ⟨Qu.AE hd h2 hdb h1,hp⟩
  ·rw [if_neg e];exact h.pq i hi
theorem Bz.sz {R:Nat->Nat->Rat} {c:Nat} {T:bw} {π:Nat->Nat} {p:Nat->Rat} (h:Bz n M R c T π p) (hM:∀i j,i<n->j<=n->M i j=0∨M i j=1) (hn:n<=7):∀i j,i<n->j<=n->Sz 2822400 2822400 (R i j):=by
 intro i j hi hj
 obtain ⟨d,hd,hdb,hrow⟩:=h.sm hM hn
 obtain ⟨a,h1,h2⟩:=hrow (π i) (h.lt i hi) _ (Yr hj)
 rw [h.eq i j hi hj]
 exact Qu.sz ((h.pq i hi).1.mul (Qu.AE hd h2 hdb h1))
theorem Ct (hM:∀i j,i<n->j<=n->M i j=0∨M i j=1) (hn:n<=7):∀c R,c<=n->fZ n M c=some R->∃T π p,Bz n M R c T π p
 |0,R,_,h=>by obtain rfl:=Option.some.inj h;exact ⟨_,_,_,a1v⟩
 |c+1,R,hc,h=>by
  simp only [fZ] at h
  obtain ⟨R0,h0,h1⟩:=Option.bind_eq_some_iff.1 h
  obtain ⟨T,π,p,hi⟩:=Ct hM hn c R0 (by omega) h0
  by_cases hp:iU R0 c c (n - c)<n
  ·rw [if_pos hp] at h1
   obtain rfl:=Option.some.inj h1
   have hle:=(PA R0 c (n - c) c).1
   have hne:=IA R0 c (n - c) c (by omega)
   have hs:=hi.swap (by omega) hp hle
   refine ⟨_,_,_,hs.elim hM hn (by omega) ?_⟩
   show R0 (gi _ c c) c≠0
   have:gi (iU R0 c c (n - c)) c c=iU R0 c c (n - c):=by unfold gi;rw [if_pos rfl]
   rw [this];exact hne
  ·rw [if_neg hp] at h1;exact absurd h1 (by simp)
theorem b3N (hM:∀i j,i<n->j<=n->M i j=0∨M i j=1) (hn:n<=7) (c:Nat) (R:Nat->Nat->Rat) (hc:c<n) (h:fZ n M c=some R):GOk n c R:=by
 obtain ⟨T,π,p,hi⟩:=Ct hM hn c R (by omega) h
 have key:iU R c c (n - c)<n->∀r,r<n->r≠c->Qu 2822400 2822400 (jM R (iU R c c (n - c)) c r c/jM R (iU R c c (n - c)) c c c)/\∀j,j<=n->Qu 1680 1680 (jM R (iU R c c (n - c)) c c j):=by
  intro hp r hr hrc
  have hle:=(PA R c (n - c) c).1
  have hne:=IA R c (n - c) c (by omega)
  have hs:=hi.swap hc hp hle
  have hnc:jM R (iU R c c (n - c)) c c c≠0:=by
   show R (gi _ c c) c≠0
   have:gi (iU R c c (n - c)) c c=iU R c c (n - c):=by unfold gi;rw [if_pos rfl]
   rw [this];exact hne
  generalize jM R (iU R c c (n - c)) c=R1 at*
  generalize (fun i=>π (gi (iU R c c (n - c)) c i))=π1 at*
  generalize (fun i=>p (gi (iU R c c (n - c)) c i))=p1 at*
  obtain ⟨d,hd,hdb,hrow⟩:=hs.sm hM hn
  have SF:∀j,j<=n->R1 c j=T.cell (π1 c) (if j=n then n+n else j):=fun j hj=>by rw [hs.eq c j hc hj,hs.one c (Nat.le_refl _)];grind
  refine ⟨?_,fun j hj=>?_⟩
  ·obtain ⟨a,h1,h2⟩:=hrow (π1 r) (hs.lt r hr) c (by omega)
   obtain ⟨b,h3,h4⟩:=hrow (π1 c) (hs.lt c hc) c (by omega)
   have e1:R1 c c=T.cell (π1 c) c:=by rw [SF c (by omega),if_neg (by omega)]
   have e2:R1 r c=p1 r*T.cell (π1 r) c:=by rw [hs.eq r c hr (by omega),if_neg (by omega)]
   rw [e1] at hnc
   have hb0:b≠0:=fun e=>by
    rw [e] at h3
    have:T.cell (π1 c) c*(d:Rat)=0:=h3
    rcases Rat.mul_eq_zero.1 this with e|e
    ·exact hnc e
    ·exact Kw hd e
   have hq:Qu 1680 1680 (T.cell (π1 r) c/T.cell (π1 c) c):=⟨a,b,hb0,by rw [<-h3,<-h1];grind,h2,h4⟩
   have e3:R1 r c/R1 c c=p1 r*(T.cell (π1 r) c/T.cell (π1 c) c):=by rw [e1,e2];grind
   rw [e3]
   exact (hs.pq r hr).1.mul hq
  ·obtain ⟨a,h1,h2⟩:=hrow (π1 c) (hs.lt c hc) _ (Yr hj)
   rw [SF j hj]
   exact Qu.AE hd h2 hdb h1
 refine ⟨hi.sz hM hn,fun hp r hr hrc=>Qu.sz (key hp r hr hrc).1,fun hp r j hr hrc hj=>Qu.sz ((key hp r hr hrc).1.mul ((key hp r hr hrc).2 j hj))⟩
theorem a9S (hM:∀i j,i<n->j<=n->M i j=0∨M i j=1) (hn:n<=7) (R:Nat->Nat->Rat) (h:fZ n M n=some R):a9y n R:=by
 obtain ⟨T,π,p,hi⟩:=Ct hM hn n R (Nat.le_refl _) h
 refine ⟨hi.sz hM hn,fun c hc=>?_⟩
 rw [hi.eq c c hc (by omega),if_neg (by omega)]
 have:=hi.v.unit (π c) (hi.lt c hc) (π c) (by have:=hi.lt c hc;omega)
 rw [hi.fc c hc hc,if_pos rfl] at this
 rw [this]
 have:=(hi.pq c hc).2;grind
theorem Yt (hM:∀i j,i<n->j<=n->M i j=0∨M i j=1) (hn:n<=7) (R:Nat->Nat->Rat) (h:fZ n M n=some R):
 (∀k,k<n->S n (fun j=>M k j*(R j n/R j j))=M k n)/\∃d:Int,d≠0/\d.natAbs<=1680/\∀c,c<n->∃a:Int,(R c n/R c c)*(d:Rat)=(a:Rat)/\a.natAbs<=1680:=by
 obtain ⟨T,π,p,hi⟩:=Ct hM hn n R (Nat.le_refl _) h
 have hx:∀c,c<n->R c n/R c c=T.cell (π c) (n+n):=fun c hc=>by
  rw [hi.eq c c hc (by omega),if_neg (by omega),hi.eq c n hc (Nat.le_refl _),if_pos rfl]
  have:=hi.v.unit (π c) (hi.lt c hc) (π c) (by have:=hi.lt c hc;omega)
  rw [hi.fc c hc hc,if_pos rfl] at this
  rw [this]
  have:=(hi.pq c hc).2;grind
 have hX:∀c,c<n->T.X n (n+n) c=T.cell (π c) (n+n):=fun c hc=>by
  have:=Aw hi.v (hi.lt c hc)
  rw [hi.fc c hc hc] at this;exact this
 refine ⟨fun k hk=>?_,?_⟩
 ·rw [dD (g:=fun j=>M k j*T.X n (n+n) j) (fun j hj=>by rw [hx j hj,hX j hj])]
  refine (FM hi.v).2 k hk (fun hb=>?_)
  obtain ⟨r,hr,e⟩:=hb
  obtain ⟨i,MD,rfl⟩:=hi.Yq r hr
  rw [hi.fc i MD MD] at e;omega
 ·obtain ⟨d,hd,hdb,hrow⟩:=hi.sm hM hn
  exact ⟨d,hd,hdb,fun c hc=>by rw [hx c hc];exact hrow (π c) (hi.lt c hc) _ (Nat.le_refl _)⟩
theorem SG (R:Nat->Nat->Rat) (c:Nat):∀d p,¬iU R c p d<p+d->∀i,p<=i->i<p+d->R i c=0
 |0,p,_,i,h1,h2=>by omega
 |d+1,p,h,i,h1,h2=>by
  simp only [iU] at h
  by_cases e:R p c=0
  ·rw [if_pos e] at h
   by_cases e2:i=p
   ·rw [e2];exact e
   ·exact SG R c d (p+1) (by omega) i (by omega) (by omega)
  ·rw [if_neg e] at h;omega
theorem SH (hM:∀i j,i<n->j<=n->M i j=0∨M i j=1) (hn:n<=7):∀c,c<=n->fZ n M c=none->∃z:Nat->Rat,(∃j,j<n/\z j≠0)/\∀k,k<n->S n (fun j=>M k j*z j)=0
 |0,_,h=>by simp [fZ] at h
 |c+1,hc,h=>by
  cases h0:fZ n M c with
  |none=>exact SH hM hn c (by omega) h0
  |some R=>
   simp only [fZ] at h
   rw [h0] at h
   have hp:¬iU R c c (n - c)<n:=fun hp=>by
    have h':(if iU R c c (n - c)<n then some (fu (jM R (iU R c c (n - c)) c) c) else none)=none:=h
    rw [if_pos hp] at h';exact absurd h' (by simp)
   have hz:=SG R c (n - c) c (by omega)
   obtain ⟨T,π,p,hi⟩:=Ct hM hn c R (by omega) h0
   have hnb:¬iT n T c:=fun ⟨r,hr,e⟩=>by
    obtain ⟨i,MD,rfl⟩:=hi.Yq r hr
    by_cases hic:i<c
    ·rw [hi.fc i hic MD] at e;omega
    ·have:=hi.free i (by omega) MD;omega
   refine ⟨T.dir n c,⟨c,by omega,by rw [FE];grind⟩,fun k hk=>?_⟩
   have h1:=(hi.v.sN 0 _).2 (zo hi.v (by omega) hnb) k hk
   rw [ou 0 _ hk] at h1
   have h2:T.dir n c (n+k)=0:=by
    unfold bw.dir
    rw [if_neg (by omega)]
    refine ig (fun r hr=>?_)
    split
    ·next e=>
     obtain ⟨i,MD,rfl⟩:=hi.Yq r hr
     have hci:c<=i:=by
      by_cases hic:i<c
      ·rw [hi.fc i hic MD] at e;omega
      ·omega
     have h3:=hz i hci (by omega)
     rw [hi.eq i c MD (by omega),if_neg (by omega),hi.one i hci] at h3
     grind
    ·rfl
   rw [h2] at h1
   have h4:S n (fun j=>M k j*T.dir n c j)+0 - M k n*0=0:=h1
   grind
end
def jN (a:Int) (d:cC):Bool:=decide (d.f0.length<=1048576)&&d.f0.all (fun x=>decide (0<=x)&&decide (x<a))&&(decide (d.f2=0)||decide (d.f2=1))
theorem sF {a:Int} {d:cC}:jN a d=true↔d.f0.length<=1048576/\(∀x,x∈d.f0->0<=x/\x<a)/\(d.f2=0∨d.f2=1):=by
 unfold jN
 simp only [Bool.and_eq_true,Bool.or_eq_true,decide_eq_true_eq,List.all_eq_true,and_assoc]
def a9T (o:Option (Nat->Nat->Rat)) (n:Nat):List bV:=match o with|none=>[]|some R=>(List.range n).map (fun c=>(⟨(R c n/R c c).num,((R c n/R c c).den:Int)⟩:bV))
def zz (a:Int) (ch:List cC):Bool:=decide (a=(ch.length:Int))&&decide (0<ch.length)&&decide (ch.length<=7)&&ch.all (jN a)
def IG (a:Int) (ch:List cC):Option (List bV×Bool):=
 if zz a ch=true then some (a9T (fZ ch.length (gQ ch ch.length) ch.length) ch.length,(fZ ch.length (gQ ch ch.length) ch.length).isSome) else none
theorem PU {a:Int} {ch:List cC} (h:ch.all (jN a)=true):∀i j,i<ch.length->j<=ch.length->gQ ch ch.length i j=0∨gQ ch ch.length i j=1:=by
 intro i j hi hj
 have hd:=sF.1 (List.all_eq_true.1 h _ (List.getElem_mem hi))
 unfold gQ
 by_cases e:j=ch.length
 ·rw [if_pos e]
  have:ch.getD i z49=ch[i]:=by simp [List.getD_eq_getElem?_getD,hi]
  rw [this]
  rcases hd.2.2 with h|h
  ·exact .inl (by rw [h];rfl)
  ·exact .inr (by rw [h];rfl)
 ·rw [if_neg e];split
  ·exact .inr rfl
  ·exact .inl rfl
theorem Rq (a:Int) (A:Option Addr) (c:Nat) (ch:List cC) (r1:List bV) (r2:Bool) (w:World) (hC:Kd.C jh w A ch.length ch) (hc:ch.length<=c) (h:IG a ch=some (r1,r2)):
 Calls Try.prog 48 #[.int .i64 a,.slice A ch.length c] w fun e w'=>∃mF:Value,e= .returned (.tuple #[mF,.bool r2])/\Kd.R fD 26 w' w.heap.size (fun _=>True) mF r1/\Below w.heap.size w w':=by
 unfold IG at h
 by_cases hg:zz a ch=true
 ·rw [if_pos hg] at h
  obtain ⟨rfl,rfl⟩:=Prod.mk.inj (Option.some.inj h)
  unfold zz at hg
  simp only [Bool.and_eq_true,decide_eq_true_eq] at hg
  obtain ⟨⟨⟨rfl,h0⟩,h7⟩,hall⟩:=hg
  have hM:=PU hall
  refine (Vd A c ch.length ch w hC hc rfl h0 h7 (fun c R hc h=>b3N hM h7 c R hc h) (fun R h=>a9S hM h7 R h) (fun d hd=>?_)).mono ?_
  ·have:=sF.1 (List.all_eq_true.1 hall d hd)
   exact ⟨this.1,this.2.1⟩
  ·rintro e w' ⟨v0,rfl,hR,hB⟩
   refine ⟨v0,rfl,?_,hB⟩
   unfold a9T
   cases hg:fZ ch.length (gQ ch ch.length) ch.length with
   |none=>rw [hg] at hR;exact hR
   |some R=>rw [hg] at hR;exact hR
 ·rw [if_neg hg] at h;exact absurd h (by simp)
end Go.Proofs.Ytnhknojfpjheoaa.PT
namespace Go.Proofs.Ytnhknojfpjheoaa.P
open Go.RowKit Go.Proofs.YtnhknojfpjheoaaW.PrintWords Go.Proofs.YtnhknojfpjheoaaW.PrintLast Go.Proofs.YtnhknojfpjheoaaW.PrintMore
attribute [local go_sem] max2_int min2_int max_two min_two max_three min_three max_four min_four
set_option linter.all false
def dg.l0:Nat->List (bV)->List Int->Int->Int->List Int->Bool->Int->Int->Int->Option (Bool)
 |0,_,_,_,_,_,_,_,_,_=>none
 |k+1,x0,SI,x12,ME,a6I,SJ,KW,KX,KY=>if ME<x12 then (if 0<=ME then (if ME<(SI.length:Int) then (if 0<=(rd SI ME) then (if (rd SI ME)<(x0.length:Int) then ((fL.f k KX KY ((bh x0 (rd SI ME)).f0) ((bh x0 (rd SI ME)).f1)).bind fun a4i=>(dg.l0 k x0 SI x12 (wrap64 (ME+1)) a6I SJ KW a4i.1 a4i.2)) else (none)) else (none)) else (none)) else (none)) else (if SJ=true then ((cw.f KW 1 KX KY).bind fun KZ=>(some (!KZ))) else ((cw.f KX KY KW 1).bind fun La=>(some (!La))))
def dg.f (k:Nat) (l0:List (bV)) (eI:List Int) (aV:Bool) (dy:Int):Option (Bool):=dg.l0 k l0 eI (eI.length:Int) 0 eI aV dy 0 1
theorem dg.cH:∀k,(∀y0 y1 y2 y3 y4 y5 y6 y7 y8,aW (dg.l0 k y0 y1 y2 y3 y4 y5 y6 y7 y8) (dg.l0 (k+1) y0 y1 y2 y3 y4 y5 y6 y7 y8))
 |0=>fun _ _ _ _ _ _ _ _ _ r h=>by simp [dg.l0] at h
 |k+1=>by
  have dP:=dg.cH k
  ·intro y0 y1 y2 y3 y4 y5 y6 y7 y8
   unfold dg.l0
   repeat' first
   |(with_reducible exact dP _ _ _ _ _ _ _ _ _)
   |(with_reducible exact fL.mono _ _ _ _ _)
   |(with_reducible exact aW.refl _)
   |(with_reducible exact aW.none _)
   |(with_reducible refine aW.ite ?_ ?_)
   |(with_reducible refine aW.bind ?_ (fun _=>?_))
theorem dg.mono:∀a0 a1 a2 a3 k,aW (dg.f k a0 a1 a2 a3) (dg.f (k+1) a0 a1 a2 a3):=by
 intro a0 a1 a2 a3 k
 have dP:=dg.cH k
 unfold dg.f
 repeat' first
  |(with_reducible exact dP _ _ _ _ _ _ _ _ _)
  |(with_reducible exact fL.mono _ _ _ _ _)
  |(with_reducible exact aW.refl _)
  |(with_reducible exact aW.none _)
  |(with_reducible refine aW.ite ?_ ?_)
  |(with_reducible refine aW.bind ?_ (fun _=>?_))
set_option maxHeartbeats 8000000 in
set_option maxRecDepth 100000 in
theorem dg.calls (k:Nat) (A0:Option Addr) (c0:Nat) (l0:List (bV)) (nP:Option Addr) (nj:Nat) (eI:List Int) (aV:Bool) (dy:Int) (r:Bool) (w:World) (fE:Kd.C fD w A0 l0.length l0) (hc0:l0.length<=c0) (a4j:Kd.C (Kd.int .i64) w nP eI.length eI) (a4k:eI.length<=nj) (h:dg.f k l0 eI aV dy=some r):
 Calls Try.prog 49 #[.slice A0 l0.length c0,.agg #[.slice nP eI.length nj,.bool aV,.int .i64 dy]] w fun e w'=>e= .returned (.bool r)/\Below w.heap.size w w':=by
 have b7X:=Try.underlying49
 have lY:=Try.underlying26
 have eL:=Aside0.mk fE
 have kB:=Aside0.mk hc0
 clear fE hc0
 have b3O:=Aside0.mk a4j
 have HC1_0:=Aside0.mk a4k
 clear a4j a4k
 have HB:=Aside0.mk (Below.refl w.heap.size w)
 have H:(dg.l0 k l0 eI (eI.length:Int) 0 eI aV dy 0 1)=some r:=h
 clear h
 have H':=Aside0.mk H
 clear H
 go_enter Try.func49,Try.ntmps49
 go_wp2_with (first|((with_reducible refine bk (N:=3) rfl ?_);refine bp ?hg (N:=3) ?hd (cs:= #[.slice nP eI.length nj,.bool aV,.int .i64 dy]) (t:=49) ?hr ?_;(case hd=>rfl);(case hg=>rfl);(case hr=>first|(go_simp;done)|(go_simp;rfl));intro fO hg w3 aU hb;have ay:=Aside0.mk (ai ax hb);have aA:=Aside0.mk (aU);have aD:=Aside0.mk ((by rw [hg];exact (av ax):w.heap.size<=fO));have aR:=Aside0.mk ((by rw [hg];exact (av ax):w.heap.size<=fO));clear HB;have HB:=ay;have dr:=aA;have GW178:=aD;have GE178:=aR;clear ay aA aD aR;clear hb aU hg)|((with_reducible refine bk (N:=5) rfl ?_);refine bp ?hg (N:=5) ?hd (cs:= #[.int .i64 0,.int .i64 0]) (t:=26) ?hr ?_;(case hd=>rfl);(case hg=>rfl);(case hr=>first|(go_simp;done)|(go_simp;rfl));intro ir hg w4 aU hb;have ay:=Aside0.mk (ah (g:=fO) (o:= .cells #[.slice nP eI.length nj,.bool aV,.int .i64 dy] 49 (0,0)) (aJ dr) hb);have aA:=Aside0.mk (ai ax hb);have aD:=Aside0.mk (aU);have aR:=Aside0.mk ((by rw [hg];exact (av ax):w.heap.size<=ir));have bK:=Aside0.mk ((by rw [hg];exact (av ax):w.heap.size<=ir));have bT:=Aside0.mk ((by rw [hg];exact Nat.ne_of_lt (aY (g:=fO) (o:= .cells #[.slice nP eI.length nj,.bool aV,.int .i64 dy] 49 (0,0)) (aJ dr)):fO≠ir));have cm:=Aside0.mk ((by rw [hg];exact Nat.ne_of_gt (aY (g:=fO) (o:= .cells #[.slice nP eI.length nj,.bool aV,.int .i64 dy] 49 (0,0)) (aJ dr)):ir≠fO));clear dr;clear HB;have dr:=ay;have HB:=aA;have eJ:=aD;have GW179:=aR;have GE179:=bK;have mY:=bT;have uM:=cm;clear ay aA aD aR bK bT cm;clear hb aU hg;have b7C:=uM.out;have b7D:=mY.out;have OO:w4.cell? ⟨ir,0,none⟩=some (.int .i64 0):=(ag eJ.out 0).trans rfl;have OP:w4.cell? ⟨ir,1,none⟩=some (.int .i64 0):=(ag eJ.out 1).trans rfl;have OQ:=aa eJ.out 0;have OS:=aa eJ.out 1;have OC:w4.cell? ⟨fO,0,none⟩=some (.slice nP eI.length nj):=(ag dr.out 0).trans rfl;have OD:w4.cell? ⟨fO,1,none⟩=some (.bool aV):=(ag dr.out 1).trans rfl;have WI:w4.cell? ⟨fO,2,none⟩=some (.int .i64 dy):=(ag dr.out 2).trans rfl;have OE:=aa dr.out 0;have OG:=aa dr.out 1;have WJ:=aa dr.out 2))
 go_loopg [13] k (fun kq v13 w'=>∃(gI:Int) (eO:Int) (eF:Int),v13= .int .i64 gI/\Aside0 (dg.l0 kq l0 eI (eI.length:Int) gI eI aV dy eO eF=some r)/\Aside0 (kq<=k)/\Aside0 (w'.heap[fO]? =some (.cells #[(.slice nP eI.length nj),.bool aV,.int .i64 dy] 49 (0,0)))/\Aside0 (w'.heap[ir]? =some (.cells #[.int .i64 eO,.int .i64 eF] 26 (0,0)))/\Aside0 (Below w.heap.size w w'))
 case atStart=>exact ⟨(0),(0),(1),(by first|rfl|(simp;done)|(simp [*];done)),H',⟨Nat.le_refl _⟩,⟨by (with_reducible repeat (first|refine au ?_ _|refine ak ?_|refine aq ?_ _));refine di ?_ mY.out _;(with_reducible repeat (first|refine au ?_ _|refine ak ?_|refine aq ?_ _));refine di ?_ mY.out _;(with_reducible repeat (first|refine au ?_ _|refine ak ?_|refine aq ?_ _));exact dr.out⟩,⟨by (with_reducible repeat (first|refine au ?_ _|refine ak ?_|refine aq ?_ _));refine aX (cs:= #[.int .i64 0,.int .i64 0]) ?_ 1 _ rfl;(with_reducible repeat (first|refine au ?_ _|refine ak ?_|refine aq ?_ _));refine aX (cs:= #[.int .i64 0,.int .i64 0]) ?_ 0 _ rfl;(with_reducible repeat (first|refine au ?_ _|refine ak ?_|refine aq ?_ _));exact eJ.out⟩,⟨ax⟩⟩
 case round=>
  clear H'
  try clear c1
  try clear p2
  try clear c4
  try clear c5
  try clear OO
  try clear OP
  try clear OC
  try clear OD
  try clear WI
  try clear OQ
  try clear OS
  try clear OE
  try clear OG
  try clear WJ
  obtain ⟨gI,eO,eF,rfl,HA,fI,dr,eJ,HB⟩:=hrel
  cases gk with
  |zero=>exact absurd HA.out (by simp [dg.l0])
  |succ k1=>
   have H:=HA.out
   clear HA
   simp only [dg.l0] at H
   by_cases c8:gI<(eI.length:Int)
   ·rw [if_pos c8] at H
    have td:decide (gI<(eI.length:Int))=true:=decide_eq_true c8
    clear c8
    by_cases c9:0<=gI
    ·rw [if_pos c9] at H
     have Fg:decide (0<=gI)=true:=decide_eq_true c9
     clear c9
     by_cases c10:gI<(eI.length:Int)
     ·rw [if_pos c10] at H
      have b3m:decide (gI<(eI.length:Int))=true:=decide_eq_true c10
      clear c10
      by_cases c11:0<=(rd eI gI)
      ·rw [if_pos c11] at H
       have b3n:decide (0<=(rd eI gI))=true:=decide_eq_true c11
       clear c11
       by_cases c12:(rd eI gI)<(l0.length:Int)
       ·rw [if_pos c12] at H
        have Uy:decide ((rd eI gI)<(l0.length:Int))=true:=decide_eq_true c12
        clear c12
        replace H:=Option.bind_eq_some_iff.mp H
        obtain ⟨⟨t182,t183⟩,OJ,H⟩:=H
        replace H:(dg.l0 k1 l0 eI (eI.length:Int) (wrap64 (gI+1)) eI aV dy t182 t183)=some r:=H
        have A13:=Aside0.mk OJ
        clear OJ
        have H':=Aside0.mk H
        clear H
        have a1z:0<=(gI:Int):=of_decide_eq_true (by first|(with_reducible assumption)|assumption)
        have a1A:gI<(eI.length:Int):=of_decide_eq_true (by first|(with_reducible assumption)|assumption)
        obtain ⟨b3P,b7Y,Lb⟩:=Kd.fC b3O.out gI a1z a1A
        cases b7Y
        replace Lb:=(HB.out.cell (World.block_lt_of_cell? w _ Lb)).trans Lb
        replace a1z:=eq_true a1z
        replace a1A:=eq_true a1A
        try go_wp2
        have ay:=Aside0.mk (ak dr.out)
        have aA:=Aside0.mk (ak eJ.out)
        have aD:=Aside0.mk (bn HB.out)
        clear dr
        clear eJ
        clear HB
        have dr:=ay
        have eJ:=aA
        have HB:=aD
        clear ay aA aD
        have a1B:0<=((rd eI gI):Int):=of_decide_eq_true (by first|(with_reducible assumption)|assumption)
        have a1C:(rd eI gI)<(l0.length:Int):=of_decide_eq_true (by first|(with_reducible assumption)|assumption)
        obtain ⟨Vg,b7Z,zA,zB⟩:=iI eL.out (rd eI gI) a1B a1C
        have DR:=zB
        have DT:=zA
        cases b7Z
        replace zA:=(HB.out.cell (World.block_lt_of_cell? w _ zA)).trans zA
        replace zB:=(HB.out.cell (World.block_lt_of_cell? w _ zB)).trans zB
        replace a1B:=eq_true a1B
        replace a1C:=eq_true a1C
        refine eG (n:=7) (S:=fun w'=>w'.cell? ⟨ir,0,none⟩=some (.int .i64 eO)/\w'.cell? ⟨ir,1,none⟩=some (.int .i64 eF)/\w'.cell? (Vg.add (((rd eI gI)).toNat*2))=some (.int .i64 ((bh l0 (rd eI gI)).f0))/\w'.cell? ⟨(Vg.add (((rd eI gI)).toNat*2)).block,(Vg.add (((rd eI gI)).toNat*2)).off+1,none⟩=some (.int .i64 ((bh l0 (rd eI gI)).f1))) (ds:=[6]) #[false,false,false,false,false,false,false] (by kernel_rfl) rfl rfl ⟨(ag eJ.out 0).trans rfl,(ag eJ.out 1).trans rfl,((HB.out.cell (World.block_lt_of_cell? w _ DT)).trans DT),((HB.out.cell (World.block_lt_of_cell? w _ DR)).trans DR)⟩ (fun hHeld=>?_)
        generalize wr.drew=rQ at dr eJ HB zA zB hHeld⊢
        refine aI (i:=1) (N:=some 18) ?_
        refine aI (i:=2) (N:=some 19) ?_
        refine aI (i:=3) (N:=some 20) ?_
        refine cE (i:=0) (N:=some 17) (v:=?_) (a':=?_) #[true,true,true,true,false,false,false] rfl rfl (by kernel_rfl) (fun _ _ _ h=>h) (Or.inl ⟨by rfl,?_⟩) hHeld ?_ ?_
        rotate_left
        ·rintro w' ⟨s0,s1,s2,s3⟩
         go_simp
         with_reducible rfl
        rotate_left
        ·exact dx
        refine cE (i:=4) (N:=some 21) (v:=?_) (a':=?_) #[true,true,true,true,true,false,false] rfl rfl (by kernel_rfl) (fun _ _ _ h=>h) (Or.inl ⟨by rfl,?_⟩) hHeld ?_ ?_
        rotate_left
        ·rintro w' ⟨s0,s1,s2,s3⟩
         go_simp
         with_reducible rfl
        rotate_left
        ·exact dx
        refine fK (i:=5) (N:=some 22) #[true,true,true,true,true,true,false] rfl rfl (by kernel_rfl) (by decide) (fun K hK=>?_)
        refine om Try.func51 (by kernel_rfl) rfl #[.agg #[.int .i64 eO,.int .i64 eF],.agg #[.int .i64 ((bh l0 (rd eI gI)).f0),.int .i64 ((bh l0 (rd eI gI)).f1)]] (by rfl) rfl rfl (by (try simp only [List.map_toArray,List.map_cons,List.map_nil]);first|done|rfl|(simp only [List.length_drop,List.length_take];rfl)) ?_
        with_reducible refine (fL.calls k1 eO eF ((bh l0 (rd eI gI)).f0) ((bh l0 (rd eI gI)).f1) t182 t183 _ A13.out).mono ?_
        rintro e He ⟨rfl,hb⟩
        refine ⟨_,rfl,?_⟩
        have ay:=Aside0.mk (ah (g:=fO) (o:= .cells #[.slice (some b3P) eI.length nj,.bool aV,.int .i64 dy] 49 (0,0)) (aJ dr) hb)
        have aA:=Aside0.mk (ah (g:=ir) (o:= .cells #[.int .i64 eO,.int .i64 eF] 26 (0,0)) (aJ eJ) hb)
        have aD:=Aside0.mk (ai ax hb)
        clear dr
        clear eJ
        clear HB
        have dr:=ay
        have eJ:=aA
        have HB:=aD
        clear ay aA aD
        (try clear hb)
        (try clear hb2)
        (try clear hk)
        (try clear hi)
        refine hK.out _ _ ⟨(ag eJ.out 0).trans rfl,(ag eJ.out 1).trans rfl,((HB.out.cell (World.block_lt_of_cell? w _ DT)).trans DT),((HB.out.cell (World.block_lt_of_cell? w _ DR)).trans DR)⟩ (fun hHeld=>?_)
        clear hK K
        refine eP (a':=?_) ?_ ?_
        rotate_left
        ·show Act.put _ (some 22) _=_
         simp only [Act.put,List.setIfInBounds_toArray,List.set_cons_zero,List.set_cons_succ,cZ,eo]
         rfl
        refine nu (i:=6) (N:=none) #[true,true,true,true,true,true,true] rfl rfl (by kernel_rfl) (by decide) (fun K hK=>?_)
        have b7B:He.cell? ⟨ir,0,none⟩=some (.int .i64 eO):=(ag eJ.out 0).trans rfl
        have b3H:=aa eJ.out 0
        have hns16_0:=mY.out
        have hms16_0:=uM.out
        have hs17:He.cell? ⟨ir,1,none⟩=some (.int .i64 eF):=(ag eJ.out 1).trans rfl
        have hfs17:=aa eJ.out 1
        have hns17_0:=mY.out
        have hms17_0:=uM.out
        refine ku (w1:=?_) (by rfl) rfl ?_ ?_
        rotate_left
        ·go_simp
         rfl
        refine hK.out _ _ ?_
        clear hK K
        refine fl (by kernel_rfl) ?_
        try go_wp2
        go_roundg k1
        case measure=>have:=fI.out;omega
        case rel=>exact ⟨(wrap64 (gI+1)),(t182),(t183),(by first|rfl|(simp;done)|(simp [*];done)),H',⟨by have:=fI.out;omega⟩,⟨by (with_reducible repeat (first|refine au ?_ _|refine ak ?_|refine aq ?_ _));refine di ?_ mY.out _;(with_reducible repeat (first|refine au ?_ _|refine ak ?_|refine aq ?_ _));refine di ?_ mY.out _;(with_reducible repeat (first|refine au ?_ _|refine ak ?_|refine aq ?_ _));exact dr.out⟩,⟨by (with_reducible repeat (first|refine au ?_ _|refine ak ?_|refine aq ?_ _));refine aX (cs:= #[.int .i64 t182,.int .i64 eF]) ?_ 1 _ rfl;(with_reducible repeat (first|refine au ?_ _|refine ak ?_|refine aq ?_ _));refine aX (cs:= #[.int .i64 eO,.int .i64 eF]) ?_ 0 _ rfl;(with_reducible repeat (first|refine au ?_ _|refine ak ?_|refine aq ?_ _));exact eJ.out⟩,⟨ax⟩⟩
       ·rw [if_neg c12] at H
        exact absurd H (by simp)
      ·rw [if_neg c11] at H
       exact absurd H (by simp)
     ·rw [if_neg c10] at H
      exact absurd H (by simp)
    ·rw [if_neg c9] at H
     exact absurd H (by simp)
   ·rw [if_neg c8] at H
    have td:decide (gI<(eI.length:Int))=false:=decide_eq_false c8
    clear c8
    by_cases c18:aV=true
    ·subst c18
     have H1:((cw.f dy 1 eO eF).bind fun KZ=>(some (!KZ)))=some r:=by rw [if_pos rfl] at H;exact H
     clear H
     have H:=H1
     clear H1
     replace H:=Option.bind_eq_some_iff.mp H
     obtain ⟨KZ,a9U,H⟩:=H
     replace H:(some (!KZ))=some r:=H
     have A19:=Aside0.mk a9U
     clear a9U
     obtain rfl:=Option.some.inj H
     have b3Q:=mY.out
     have b3R:=uM.out
     have yU:wr.cell? ⟨fO,0,none⟩=some (.slice nP eI.length nj):=(ag dr.out 0).trans rfl
     have yV:wr.cell? ⟨fO,1,none⟩=some (.bool true):=(ag dr.out 1).trans rfl
     have a5L:wr.cell? ⟨fO,2,none⟩=some (.int .i64 dy):=(ag dr.out 2).trans rfl
     have yX:=aa dr.out 0
     have yY:=aa dr.out 1
     have a5M:=aa dr.out 2
     go_wp2_with (first|((with_reducible refine bk (N:=8) rfl ?_);refine bp ?hg (N:=8) ?hd (cs:= #[.int .i64 0,.int .i64 0]) (t:=26) ?hr ?_;(case hd=>rfl);(case hg=>rfl);(case hr=>first|(go_simp;done)|(go_simp;rfl));intro lH hg uB aU hb;have ay:=Aside0.mk (ah (g:=fO) (o:= .cells #[.slice nP eI.length nj,.bool true,.int .i64 dy] 49 (0,0)) (aJ dr) hb);have aA:=Aside0.mk (ah (g:=ir) (o:= .cells #[.int .i64 eO,.int .i64 eF] 26 (0,0)) (aJ eJ) hb);have aD:=Aside0.mk (ai ax hb);have aR:=Aside0.mk (aU);have bK:=Aside0.mk ((by rw [hg];exact (av ax):w.heap.size<=lH));have bT:=Aside0.mk ((by rw [hg];exact (av ax):w.heap.size<=lH));have cm:=Aside0.mk ((by rw [hg];exact Nat.ne_of_lt (aY (g:=fO) (o:= .cells #[.slice nP eI.length nj,.bool true,.int .i64 dy] 49 (0,0)) (aJ dr)):fO≠lH));have iP:=Aside0.mk ((by rw [hg];exact Nat.ne_of_gt (aY (g:=fO) (o:= .cells #[.slice nP eI.length nj,.bool true,.int .i64 dy] 49 (0,0)) (aJ dr)):lH≠fO));have jk:=Aside0.mk ((by rw [hg];exact Nat.ne_of_lt (aY (g:=ir) (o:= .cells #[.int .i64 eO,.int .i64 eF] 26 (0,0)) (aJ eJ)):ir≠lH));have ke:=Aside0.mk ((by rw [hg];exact Nat.ne_of_gt (aY (g:=ir) (o:= .cells #[.int .i64 eO,.int .i64 eF] 26 (0,0)) (aJ eJ)):lH≠ir));clear dr;clear eJ;clear HB;have dr:=ay;have eJ:=aA;have HB:=aD;have oF:=aR;have b3S:=bK;have b3T:=bT;have pR:=cm;have Cu:=iP;have pS:=jk;have Cv:=ke;clear ay aA aD aR bK bT cm iP jk ke;clear hb aU hg;have hnb23:=Cu.out;have hnc23:=pR.out;have b3U:=Cv.out;have b3V:=pS.out;have JZ:uB.cell? ⟨lH,0,none⟩=some (.int .i64 0):=(ag oF.out 0).trans rfl;have Ka:uB.cell? ⟨lH,1,none⟩=some (.int .i64 0):=(ag oF.out 1).trans rfl;have Kb:=aa oF.out 0;have Ke:=aa oF.out 1;have KD:uB.cell? ⟨fO,0,none⟩=some (.slice nP eI.length nj):=(ag dr.out 0).trans rfl;have KE:uB.cell? ⟨fO,1,none⟩=some (.bool true):=(ag dr.out 1).trans rfl;have hcz26_2:uB.cell? ⟨fO,2,none⟩=some (.int .i64 dy):=(ag dr.out 2).trans rfl;have KF:=aa dr.out 0;have KG:=aa dr.out 1;have hfz26_2:=aa dr.out 2;have a6r:uB.cell? ⟨ir,0,none⟩=some (.int .i64 eO):=(ag eJ.out 0).trans rfl;have a6s:uB.cell? ⟨ir,1,none⟩=some (.int .i64 eF):=(ag eJ.out 1).trans rfl;have a6t:=aa eJ.out 0;have a6u:=aa eJ.out 1)|((with_reducible refine aZ (f:=65) rfl ?_);refine bO (some 31) rfl rfl Try.func65 (by kernel_rfl) rfl #[.agg #[.int .i64 dy,.int .i64 1],.agg #[.int .i64 eO,.int .i64 eF]] rfl (by (try simp only [List.map_toArray,List.map_cons,List.map_nil]);first|done|rfl|(simp only [List.length_drop,List.length_take];rfl)) ?_;(with_reducible refine (cw.calls dy 1 eO eF KZ _ A19.out).mono ?_);rintro e xB ⟨rfl,hb⟩;refine ⟨_,rfl,?_⟩;have ay:=Aside0.mk (ah (g:=fO) (o:= .cells #[.slice nP eI.length nj,.bool true,.int .i64 dy] 49 (0,0)) (by (with_reducible repeat (first|refine au ?_ _|refine ak ?_|refine aq ?_ _));refine di ?_ pR.out _;(with_reducible repeat (first|refine au ?_ _|refine ak ?_|refine aq ?_ _));refine di ?_ pR.out _;(with_reducible repeat (first|refine au ?_ _|refine ak ?_|refine aq ?_ _));exact dr.out) hb);have aA:=Aside0.mk (ah (g:=ir) (o:= .cells #[.int .i64 eO,.int .i64 eF] 26 (0,0)) (by (with_reducible repeat (first|refine au ?_ _|refine ak ?_|refine aq ?_ _));refine di ?_ pS.out _;(with_reducible repeat (first|refine au ?_ _|refine ak ?_|refine aq ?_ _));refine di ?_ pS.out _;(with_reducible repeat (first|refine au ?_ _|refine ak ?_|refine aq ?_ _));exact eJ.out) hb);have aD:=Aside0.mk (ah (g:=lH) (o:= .cells #[.int .i64 dy,.int .i64 1] 26 (0,0)) (by (with_reducible repeat (first|refine au ?_ _|refine ak ?_|refine aq ?_ _));refine aX (cs:= #[.int .i64 dy,.int .i64 0]) ?_ 1 _ rfl;(with_reducible repeat (first|refine au ?_ _|refine ak ?_|refine aq ?_ _));refine aX (cs:= #[.int .i64 0,.int .i64 0]) ?_ 0 _ rfl;(with_reducible repeat (first|refine au ?_ _|refine ak ?_|refine aq ?_ _));exact oF.out) hb);have aR:=Aside0.mk (ai ax hb);clear dr;clear eJ;clear oF;clear HB;have dr:=ay;have eJ:=aA;have oF:=aD;have HB:=aR;clear ay aA aD aR;(try clear hb);(try clear hb2);(try clear hk);(try clear hi)))
     go_ret
     exact ⟨by first|rfl|(simp [aM,aQ]<;>rfl)|(simp [*,aM,aQ]<;>rfl),ax⟩
    ·replace c18:=Bool.eq_false_iff.mpr c18
     subst c18
     have H1:((cw.f eO eF dy 1).bind fun La=>(some (!La)))=some r:=by rw [if_neg (show ¬(false=true) by decide)] at H;exact H
     clear H
     have H:=H1
     clear H1
     replace H:=Option.bind_eq_some_iff.mp H
     obtain ⟨La,a9V,H⟩:=H
     replace H:(some (!La))=some r:=H
     have A29:=Aside0.mk a9V
     clear a9V
     obtain rfl:=Option.some.inj H
     have hnb30:=mY.out
     have hnc30:=uM.out
     have yZ:wr.cell? ⟨fO,0,none⟩=some (.slice nP eI.length nj):=(ag dr.out 0).trans rfl
     have za:wr.cell? ⟨fO,1,none⟩=some (.bool false):=(ag dr.out 1).trans rfl
     have zb:wr.cell? ⟨fO,2,none⟩=some (.int .i64 dy):=(ag dr.out 2).trans rfl
     have ze:=aa dr.out 0
     have zf:=aa dr.out 1
     have zg:=aa dr.out 2
     go_wp2_with (first|((with_reducible refine bk (N:=8) rfl ?_);refine bp ?hg (N:=8) ?hd (cs:= #[.int .i64 0,.int .i64 0]) (t:=26) ?hr ?_;(case hd=>rfl);(case hg=>rfl);(case hr=>first|(go_simp;done)|(go_simp;rfl));intro lH hg qw aU hb;have ay:=Aside0.mk (ah (g:=fO) (o:= .cells #[.slice nP eI.length nj,.bool false,.int .i64 dy] 49 (0,0)) (aJ dr) hb);have aA:=Aside0.mk (ah (g:=ir) (o:= .cells #[.int .i64 eO,.int .i64 eF] 26 (0,0)) (aJ eJ) hb);have aD:=Aside0.mk (ai ax hb);have aR:=Aside0.mk (aU);have bK:=Aside0.mk ((by rw [hg];exact (av ax):w.heap.size<=lH));have bT:=Aside0.mk ((by rw [hg];exact (av ax):w.heap.size<=lH));have cm:=Aside0.mk ((by rw [hg];exact Nat.ne_of_lt (aY (g:=fO) (o:= .cells #[.slice nP eI.length nj,.bool false,.int .i64 dy] 49 (0,0)) (aJ dr)):fO≠lH));have iP:=Aside0.mk ((by rw [hg];exact Nat.ne_of_gt (aY (g:=fO) (o:= .cells #[.slice nP eI.length nj,.bool false,.int .i64 dy] 49 (0,0)) (aJ dr)):lH≠fO));have jk:=Aside0.mk ((by rw [hg];exact Nat.ne_of_lt (aY (g:=ir) (o:= .cells #[.int .i64 eO,.int .i64 eF] 26 (0,0)) (aJ eJ)):ir≠lH));have ke:=Aside0.mk ((by rw [hg];exact Nat.ne_of_gt (aY (g:=ir) (o:= .cells #[.int .i64 eO,.int .i64 eF] 26 (0,0)) (aJ eJ)):lH≠ir));clear dr;clear eJ;clear HB;have dr:=ay;have eJ:=aA;have HB:=aD;have oF:=aR;have b3S:=bK;have b3T:=bT;have pR:=cm;have Cu:=iP;have pS:=jk;have Cv:=ke;clear ay aA aD aR bK bT cm iP jk ke;clear hb aU hg;have b3W:=Cu.out;have b3X:=pR.out;have hnb34:=Cv.out;have hnc34:=pS.out;have hcz35_0:qw.cell? ⟨lH,0,none⟩=some (.int .i64 0):=(ag oF.out 0).trans rfl;have hcz35_1:qw.cell? ⟨lH,1,none⟩=some (.int .i64 0):=(ag oF.out 1).trans rfl;have hfz35_0:=aa oF.out 0;have hfz35_1:=aa oF.out 1;have zh:qw.cell? ⟨fO,0,none⟩=some (.slice nP eI.length nj):=(ag dr.out 0).trans rfl;have zi:qw.cell? ⟨fO,1,none⟩=some (.bool false):=(ag dr.out 1).trans rfl;have zj:qw.cell? ⟨fO,2,none⟩=some (.int .i64 dy):=(ag dr.out 2).trans rfl;have zk:=aa dr.out 0;have zl:=aa dr.out 1;have zm:=aa dr.out 2;have Kf:qw.cell? ⟨ir,0,none⟩=some (.int .i64 eO):=(ag eJ.out 0).trans rfl;have Kg:qw.cell? ⟨ir,1,none⟩=some (.int .i64 eF):=(ag eJ.out 1).trans rfl;have Kh:=aa eJ.out 0;have Ki:=aa eJ.out 1)|((with_reducible refine aZ (f:=65) rfl ?_);refine bO (some 35) rfl rfl Try.func65 (by kernel_rfl) rfl #[.agg #[.int .i64 eO,.int .i64 eF],.agg #[.int .i64 dy,.int .i64 1]] rfl (by (try simp only [List.map_toArray,List.map_cons,List.map_nil]);first|done|rfl|(simp only [List.length_drop,List.length_take];rfl)) ?_;(with_reducible refine (cw.calls eO eF dy 1 La _ A29.out).mono ?_);rintro e w38 ⟨rfl,hb⟩;refine ⟨_,rfl,?_⟩;have ay:=Aside0.mk (ah (g:=fO) (o:= .cells #[.slice nP eI.length nj,.bool false,.int .i64 dy] 49 (0,0)) (by (with_reducible repeat (first|refine au ?_ _|refine ak ?_|refine aq ?_ _));refine di ?_ pR.out _;(with_reducible repeat (first|refine au ?_ _|refine ak ?_|refine aq ?_ _));refine di ?_ pR.out _;(with_reducible repeat (first|refine au ?_ _|refine ak ?_|refine aq ?_ _));exact dr.out) hb);have aA:=Aside0.mk (ah (g:=ir) (o:= .cells #[.int .i64 eO,.int .i64 eF] 26 (0,0)) (by (with_reducible repeat (first|refine au ?_ _|refine ak ?_|refine aq ?_ _));refine di ?_ pS.out _;(with_reducible repeat (first|refine au ?_ _|refine ak ?_|refine aq ?_ _));refine di ?_ pS.out _;(with_reducible repeat (first|refine au ?_ _|refine ak ?_|refine aq ?_ _));exact eJ.out) hb);have aD:=Aside0.mk (ah (g:=lH) (o:= .cells #[.int .i64 dy,.int .i64 1] 26 (0,0)) (by (with_reducible repeat (first|refine au ?_ _|refine ak ?_|refine aq ?_ _));refine aX (cs:= #[.int .i64 dy,.int .i64 0]) ?_ 1 _ rfl;(with_reducible repeat (first|refine au ?_ _|refine ak ?_|refine aq ?_ _));refine aX (cs:= #[.int .i64 0,.int .i64 0]) ?_ 0 _ rfl;(with_reducible repeat (first|refine au ?_ _|refine ak ?_|refine aq ?_ _));exact oF.out) hb);have aR:=Aside0.mk (ai ax hb);clear dr;clear eJ;clear oF;clear HB;have dr:=ay;have eJ:=aA;have oF:=aD;have HB:=aR;clear ay aA aD aR;(try clear hb);(try clear hb2);(try clear hk);(try clear hi)))
     go_ret
     exact ⟨by first|rfl|(simp [aM,aQ]<;>rfl)|(simp [*,aM,aQ]<;>rfl),ax⟩
def bM.l0:Nat->List (bV)->Int->Int->Int->Int->Option (Int×Int)
 |0,_,_,_,_,_=>none
 |k+1,x7,x8,x9,SK,SL=>if x9<x8 then (if 0<=x9 then (if x9<(x7.length:Int) then ((fL.f k SK SL ((bh x7 x9).f0) ((bh x7 x9).f1)).bind fun a4l=>(bM.l0 k x7 x8 (wrap64 (x9+1)) a4l.1 a4l.2)) else (none)) else (none)) else (some (SK,SL))
def bM.f (k:Nat) (l0:List (bV)):Option (Int×Int):=bM.l0 k l0 (l0.length:Int) 0 0 1
theorem bM.cH:∀k,(∀y0 y1 y2 y3 y4,aW (bM.l0 k y0 y1 y2 y3 y4) (bM.l0 (k+1) y0 y1 y2 y3 y4))
 |0=>fun _ _ _ _ _ r h=>by simp [bM.l0] at h
 |k+1=>by
  have dP:=bM.cH k
  ·intro y0 y1 y2 y3 y4
   unfold bM.l0
   repeat' first
   |(with_reducible exact dP _ _ _ _ _)
   |(with_reducible exact fL.mono _ _ _ _ _)
   |(with_reducible exact aW.refl _)
   |(with_reducible exact aW.none _)
   |(with_reducible refine aW.ite ?_ ?_)
   |(with_reducible refine aW.bind ?_ (fun _=>?_))
theorem bM.mono:∀a0 k,aW (bM.f k a0) (bM.f (k+1) a0):=by
 intro a0 k
 have dP:=bM.cH k
 unfold bM.f
 repeat' first
  |(with_reducible exact dP _ _ _ _ _)
  |(with_reducible exact fL.mono _ _ _ _ _)
  |(with_reducible exact aW.refl _)
  |(with_reducible exact aW.none _)
  |(with_reducible refine aW.ite ?_ ?_)
  |(with_reducible refine aW.bind ?_ (fun _=>?_))
set_option maxHeartbeats 8000000 in
set_option maxRecDepth 100000 in
theorem bM.calls (k:Nat) (A0:Option Addr) (c0:Nat) (l0:List (bV)) (r1:Int) (r2:Int) (w:World) (fE:Kd.C fD w A0 l0.length l0) (hc0:l0.length<=c0) (h:bM.f k l0=some (r1,r2)):
 Calls Try.prog 26 #[.slice A0 l0.length c0] w fun e w'=>e= .returned (.agg #[.int .i64 r1,.int .i64 r2])/\Below w.heap.size w w':=by
 have lY:=Try.underlying26
 have eL:=Aside0.mk fE
 have kB:=Aside0.mk hc0
 clear fE hc0
 have HB:=Aside0.mk (Below.refl w.heap.size w)
 have H:(bM.l0 k l0 (l0.length:Int) 0 0 1)=some (r1,r2):=h
 clear h
 have H':=Aside0.mk H
 clear H
 go_enter Try.func26,Try.ntmps26
 go_wp2_with (first|((with_reducible refine bk (N:=2) rfl ?_);refine bp ?hg (N:=2) ?hd (cs:= #[.int .i64 0,.int .i64 0]) (t:=26) ?hr ?_;(case hd=>rfl);(case hg=>rfl);(case hr=>first|(go_simp;done)|(go_simp;rfl));intro mZ hg w2 aU hb;have ay:=Aside0.mk (ai ax hb);have aA:=Aside0.mk (aU);have aD:=Aside0.mk ((by rw [hg];exact (av ax):w.heap.size<=mZ));have aR:=Aside0.mk ((by rw [hg];exact (av ax):w.heap.size<=mZ));clear HB;have HB:=ay;have kM:=aA;have GW187:=aD;have GE187:=aR;clear ay aA aD aR;clear hb aU hg)|((with_reducible refine bk (N:=3) rfl ?_);refine bp ?hg (N:=3) ?hd (cs:= #[.int .i64 0,.int .i64 0]) (t:=26) ?hr ?_;(case hd=>rfl);(case hg=>rfl);(case hr=>first|(go_simp;done)|(go_simp;rfl));intro lI hg w3 aU hb;have ay:=Aside0.mk (ah (g:=mZ) (o:= .cells #[.int .i64 0,.int .i64 0] 26 (0,0)) (aJ kM) hb);have aA:=Aside0.mk (ai ax hb);have aD:=Aside0.mk (aU);have aR:=Aside0.mk ((by rw [hg];exact (av ax):w.heap.size<=lI));have bK:=Aside0.mk ((by rw [hg];exact (av ax):w.heap.size<=lI));have bT:=Aside0.mk ((by rw [hg];exact Nat.ne_of_lt (aY (g:=mZ) (o:= .cells #[.int .i64 0,.int .i64 0] 26 (0,0)) (aJ kM)):mZ≠lI));have cm:=Aside0.mk ((by rw [hg];exact Nat.ne_of_gt (aY (g:=mZ) (o:= .cells #[.int .i64 0,.int .i64 0] 26 (0,0)) (aJ kM)):lI≠mZ));clear kM;clear HB;have kM:=ay;have HB:=aA;have iH:=aD;have GW188:=aR;have GE188:=bK;have pT:=bT;have Cw:=cm;clear ay aA aD aR bK bT cm;clear hb aU hg;have hnb4:=Cw.out;have hnc4:=pT.out;have Pk:w3.cell? ⟨lI,0,none⟩=some (.int .i64 0):=(ag iH.out 0).trans rfl;have Pm:w3.cell? ⟨lI,1,none⟩=some (.int .i64 0):=(ag iH.out 1).trans rfl;have Pn:=aa iH.out 0;have Po:=aa iH.out 1))
 go_loopg [9] k (fun kq v9 w'=>∃(cu:Int) (iy:Int) (iz:Int),v9= .int .i64 cu/\Aside0 (bM.l0 kq l0 (l0.length:Int) cu iy iz=some (r1,r2))/\Aside0 (kq<=k)/\Aside0 (w'.heap[mZ]? =some (.cells #[.int .i64 0,.int .i64 0] 26 (0,0)))/\Aside0 (w'.heap[lI]? =some (.cells #[.int .i64 iy,.int .i64 iz] 26 (0,0)))/\Aside0 (Below w.heap.size w w'))
 case atStart=>exact ⟨(0),(0),(1),(by first|rfl|(simp;done)|(simp [*];done)),H',⟨Nat.le_refl _⟩,⟨by (with_reducible repeat (first|refine au ?_ _|refine ak ?_|refine aq ?_ _));refine di ?_ pT.out _;(with_reducible repeat (first|refine au ?_ _|refine ak ?_|refine aq ?_ _));refine di ?_ pT.out _;(with_reducible repeat (first|refine au ?_ _|refine ak ?_|refine aq ?_ _));exact kM.out⟩,⟨by (with_reducible repeat (first|refine au ?_ _|refine ak ?_|refine aq ?_ _));refine aX (cs:= #[.int .i64 0,.int .i64 0]) ?_ 1 _ rfl;(with_reducible repeat (first|refine au ?_ _|refine ak ?_|refine aq ?_ _));refine aX (cs:= #[.int .i64 0,.int .i64 0]) ?_ 0 _ rfl;(with_reducible repeat (first|refine au ?_ _|refine ak ?_|refine aq ?_ _));exact iH.out⟩,⟨ax⟩⟩
 case round=>
  clear H'
  try clear c2
  try clear p2
  try clear c4
  try clear Pk
  try clear Pm
  try clear Pn
  try clear Po
  obtain ⟨cu,iy,iz,rfl,HA,fI,kM,iH,HB⟩:=hrel
  cases gk with
  |zero=>exact absurd HA.out (by simp [bM.l0])
  |succ k1=>
   have H:=HA.out
   clear HA
   simp only [bM.l0] at H
   by_cases c6:cu<(l0.length:Int)
   ·rw [if_pos c6] at H
    have oQ:decide (cu<(l0.length:Int))=true:=decide_eq_true c6
    clear c6
    by_cases c7:0<=cu
    ·rw [if_pos c7] at H
     have si:decide (0<=cu)=true:=decide_eq_true c7
     clear c7
     by_cases c8:cu<(l0.length:Int)
     ·rw [if_pos c8] at H
      have td:decide (cu<(l0.length:Int))=true:=decide_eq_true c8
      clear c8
      replace H:=Option.bind_eq_some_iff.mp H
      obtain ⟨⟨Vh,a1D⟩,OH,H⟩:=H
      replace H:(bM.l0 k1 l0 (l0.length:Int) (wrap64 (cu+1)) Vh a1D)=some (r1,r2):=H
      have A9:=Aside0.mk OH
      clear OH
      have H':=Aside0.mk H
      clear H
      have a1E:0<=(cu:Int):=of_decide_eq_true (by first|(with_reducible assumption)|assumption)
      have a1F:cu<(l0.length:Int):=of_decide_eq_true (by first|(with_reducible assumption)|assumption)
      obtain ⟨ad189,b8a,Lc,Ld⟩:=iI eL.out cu a1E a1F
      cases b8a
      replace Lc:=(HB.out.cell (World.block_lt_of_cell? w _ Lc)).trans Lc
      replace Ld:=(HB.out.cell (World.block_lt_of_cell? w _ Ld)).trans Ld
      replace a1E:=eq_true a1E
      replace a1F:=eq_true a1F
      go_wp2_with (first|((with_reducible refine bk (N:=5) rfl ?_);refine bp ?hg (N:=5) ?hd (cs:= #[.int .i64 0,.int .i64 0]) (t:=26) ?hr ?_;(case hd=>rfl);(case hg=>rfl);(case hr=>first|(go_simp;done)|(go_simp;rfl));intro vU hg lO aU hb;have ay:=Aside0.mk (ah (g:=mZ) (o:= .cells #[.int .i64 0,.int .i64 0] 26 (0,0)) (aJ kM) hb);have aA:=Aside0.mk (ah (g:=lI) (o:= .cells #[.int .i64 iy,.int .i64 iz] 26 (0,0)) (aJ iH) hb);have aD:=Aside0.mk (ai ax hb);have aR:=Aside0.mk (aU);have bK:=Aside0.mk ((by rw [hg];exact (av ax):w.heap.size<=vU));have bT:=Aside0.mk ((by rw [hg];exact (av ax):w.heap.size<=vU));have cm:=Aside0.mk ((by rw [hg];exact Nat.ne_of_lt (aY (g:=mZ) (o:= .cells #[.int .i64 0,.int .i64 0] 26 (0,0)) (aJ kM)):mZ≠vU));have iP:=Aside0.mk ((by rw [hg];exact Nat.ne_of_gt (aY (g:=mZ) (o:= .cells #[.int .i64 0,.int .i64 0] 26 (0,0)) (aJ kM)):vU≠mZ));have jk:=Aside0.mk ((by rw [hg];exact Nat.ne_of_lt (aY (g:=lI) (o:= .cells #[.int .i64 iy,.int .i64 iz] 26 (0,0)) (aJ iH)):lI≠vU));have ke:=Aside0.mk ((by rw [hg];exact Nat.ne_of_gt (aY (g:=lI) (o:= .cells #[.int .i64 iy,.int .i64 iz] 26 (0,0)) (aJ iH)):vU≠lI));clear kM;clear iH;clear HB;have kM:=ay;have iH:=aA;have HB:=aD;have AH:=aR;have GW190:=bK;have GE190:=bT;have Cx:=cm;have Yu:=iP;have Cy:=jk;have Yv:=ke;clear ay aA aD aR bK bT cm iP jk ke;clear hb aU hg;have a3R:=Yu.out;have a3S:=Cx.out;have a3g:=Yv.out;have a3h:=Cy.out;have nC:lO.cell? ⟨vU,0,none⟩=some (.int .i64 0):=(ag AH.out 0).trans rfl;have nD:lO.cell? ⟨vU,1,none⟩=some (.int .i64 0):=(ag AH.out 1).trans rfl;have nE:=aa AH.out 0;have nG:=aa AH.out 1;have b3v:=Cw.out;have b3w:=pT.out;have DC:lO.cell? ⟨lI,0,none⟩=some (.int .i64 iy):=(ag iH.out 0).trans rfl;have DD:lO.cell? ⟨lI,1,none⟩=some (.int .i64 iz):=(ag iH.out 1).trans rfl;have DF:=aa iH.out 0;have DG:=aa iH.out 1)|((with_reducible refine aZ (f:=51) rfl ?_);refine bO (some 15) rfl rfl Try.func51 (by kernel_rfl) rfl #[.agg #[.int .i64 iy,.int .i64 iz],.agg #[.int .i64 ((bh l0 cu).f0),.int .i64 ((bh l0 cu).f1)]] rfl (by (try simp only [List.map_toArray,List.map_cons,List.map_nil]);first|done|rfl|(simp only [List.length_drop,List.length_take];rfl)) ?_;(with_reducible refine (fL.calls k1 iy iz ((bh l0 cu).f0) ((bh l0 cu).f1) Vh a1D _ A9.out).mono ?_);rintro e lB ⟨rfl,hb⟩;refine ⟨_,rfl,?_⟩;have ay:=Aside0.mk (ah (g:=mZ) (o:= .cells #[.int .i64 0,.int .i64 0] 26 (0,0)) (by (with_reducible repeat (first|refine au ?_ _|refine ak ?_|refine aq ?_ _));refine di ?_ Cx.out _;(with_reducible repeat (first|refine au ?_ _|refine ak ?_|refine aq ?_ _));refine di ?_ Cx.out _;(with_reducible repeat (first|refine au ?_ _|refine ak ?_|refine aq ?_ _));exact kM.out) hb);have aA:=Aside0.mk (ah (g:=lI) (o:= .cells #[.int .i64 iy,.int .i64 iz] 26 (0,0)) (by (with_reducible repeat (first|refine au ?_ _|refine ak ?_|refine aq ?_ _));refine di ?_ Cy.out _;(with_reducible repeat (first|refine au ?_ _|refine ak ?_|refine aq ?_ _));refine di ?_ Cy.out _;(with_reducible repeat (first|refine au ?_ _|refine ak ?_|refine aq ?_ _));exact iH.out) hb);have aD:=Aside0.mk (ah (g:=vU) (o:= .cells #[.int .i64 ((bh l0 cu).f0),.int .i64 ((bh l0 cu).f1)] 26 (0,0)) (by (with_reducible repeat (first|refine au ?_ _|refine ak ?_|refine aq ?_ _));refine aX (cs:= #[.int .i64 ((bh l0 cu).f0),.int .i64 0]) ?_ 1 _ rfl;(with_reducible repeat (first|refine au ?_ _|refine ak ?_|refine aq ?_ _));refine aX (cs:= #[.int .i64 0,.int .i64 0]) ?_ 0 _ rfl;(with_reducible repeat (first|refine au ?_ _|refine ak ?_|refine aq ?_ _));exact AH.out) hb);have aR:=Aside0.mk (ai ax hb);clear kM;clear iH;clear AH;clear HB;have kM:=ay;have iH:=aA;have AH:=aD;have HB:=aR;clear ay aA aD aR;(try clear hb);(try clear hb2);(try clear hk);(try clear hi);have Kz:lB.cell? ⟨lI,0,none⟩=some (.int .i64 iy):=(ag iH.out 0).trans rfl;have KA:lB.cell? ⟨lI,1,none⟩=some (.int .i64 iz):=(ag iH.out 1).trans rfl;have KB:=aa iH.out 0;have KC:=aa iH.out 1))
      go_roundg k1
      case measure=>have:=fI.out;omega
      case rel=>exact ⟨(wrap64 (cu+1)),(Vh),(a1D),(by first|rfl|(simp;done)|(simp [*];done)),H',⟨by have:=fI.out;omega⟩,⟨by (with_reducible repeat (first|refine au ?_ _|refine ak ?_|refine aq ?_ _));refine di ?_ pT.out _;(with_reducible repeat (first|refine au ?_ _|refine ak ?_|refine aq ?_ _));refine di ?_ pT.out _;(with_reducible repeat (first|refine au ?_ _|refine ak ?_|refine aq ?_ _));exact kM.out⟩,⟨by (with_reducible repeat (first|refine au ?_ _|refine ak ?_|refine aq ?_ _));refine aX (cs:= #[.int .i64 Vh,.int .i64 iz]) ?_ 1 _ rfl;(with_reducible repeat (first|refine au ?_ _|refine ak ?_|refine aq ?_ _));refine aX (cs:= #[.int .i64 iy,.int .i64 iz]) ?_ 0 _ rfl;(with_reducible repeat (first|refine au ?_ _|refine ak ?_|refine aq ?_ _));exact iH.out⟩,⟨ax⟩⟩
     ·rw [if_neg c8] at H
      exact absurd H (by simp)
    ·rw [if_neg c7] at H
     exact absurd H (by simp)
   ·rw [if_neg c6] at H
    have oQ:decide (cu<(l0.length:Int))=false:=decide_eq_false c6
    clear c6
    simp only [Option.some.injEq,Prod.mk.injEq] at H
    obtain ⟨rfl,rfl⟩:=H
    have hnb18:=Cw.out
    have hnc18:=pT.out
    have JU:wr.cell? ⟨lI,0,none⟩=some (.int .i64 iy):=(ag iH.out 0).trans rfl
    have JV:wr.cell? ⟨lI,1,none⟩=some (.int .i64 iz):=(ag iH.out 1).trans rfl
    have JW:=aa iH.out 0
    have JX:=aa iH.out 1
    have zC:wr.cell? ⟨mZ,0,none⟩=some (.int .i64 0):=(ag kM.out 0).trans rfl
    have zD:wr.cell? ⟨mZ,1,none⟩=some (.int .i64 0):=(ag kM.out 1).trans rfl
    have zE:=aa kM.out 0
    have zF:=aa kM.out 1
    go_wp2
    refine bodyPost_ret (results_cell_row rfl _ _ mZ 26 #[.int .i64 iy,.int .i64 iz] (0,0) _ rfl (by (with_reducible repeat (first|refine au ?_ _|refine ak ?_|refine aq ?_ _));refine aX (cs:= #[.int .i64 iy,.int .i64 0]) ?_ 1 _ rfl;(with_reducible repeat (first|refine au ?_ _|refine ak ?_|refine aq ?_ _));refine aX (cs:= #[.int .i64 0,.int .i64 0]) ?_ 0 _ rfl;(with_reducible repeat (first|refine au ?_ _|refine ak ?_|refine aq ?_ _));exact kM.out) Try.underlying26 rfl (by kernel_rfl)) rfl ?_
    exact ⟨by first|rfl|(simp [aM,aQ]<;>rfl)|(simp [*,aM,aQ]<;>rfl),ax⟩
end Go.Proofs.Ytnhknojfpjheoaa.P
