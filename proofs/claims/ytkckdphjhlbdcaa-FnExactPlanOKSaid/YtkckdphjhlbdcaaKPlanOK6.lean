/-
  Part 6 of the proof of this: The law FnExactPlanOK answers true at every argument.
-/
import Derived.Test.YtkckdphjhlbdcaaKPlanOK2
import Derived.Test.YtkckdphjhlbdcaaKPlanOK3
import Derived.Test.YtkckdphjhlbdcaaKPlanOK4
import Derived.Test.YtkckdphjhlbdcaaKPlanOK5
namespace Go.Proofs.Ytkckdphjhlbdcaa.PT
open Go.RowKit Go.Proofs.Ytkckdphjhlbdcaa.P Go.Proofs.YtkckdphjhlbdcaaW.PrintWords Go.Proofs.YtkckdphjhlbdcaaW.PrintLast Go.Proofs.Ytkckdphjhlbdcaa.EvKit Go.Proofs.Ytkckdphjhlbdcaa.Num Go.Proofs.Ytkckdphjhlbdcaa.Lp
set_option linter.all false
theorem a9t {m:Nat} (h:m<=6):Cq m<=240/\Cq (m+1)<=1680:=by
 rcases m with _|_|_|_|_|_|_|m<;>first|(constructor<;>decide)|omega
theorem a6D {n:Nat} (h:n<=6):fact n<=720:=Nu h
theorem Ul {q:Rat} {a d:Int} {c:Nat} (h1: -((c:Int):Rat)<=q) (h2:q<=((c:Int):Rat)) (e:q*(d:Rat)=(a:Rat)):a.natAbs<=c*d.natAbs:=by
 have key:∀x y:Int,(x:Rat)<=(y:Rat)->x<=y:=fun x y h=>by exact_mod_cast h
 by_cases hd:0<=d
 ·have hd':(0:Rat)<=(d:Rat):=by exact_mod_cast hd
  have u1:=Rat.mul_le_mul_of_nonneg_right h1 hd'
  have u2:=Rat.mul_le_mul_of_nonneg_right h2 hd'
  rw [e] at u1 u2
  have v1:=key (-(c:Int)*d) a (by rw [Rat.intCast_mul,Rat.intCast_neg];exact u1)
  have v2:=key a ((c:Int)*d) (by rw [Rat.intCast_mul];exact u2)
  have e1:d=(d.natAbs:Int):=by omega
  rw [e1] at v1 v2
  have e2:((c*d.natAbs:Nat):Int)=(c:Int)*(d.natAbs:Int):=Int.natCast_mul _ _
  have e3: -(c:Int)*(d.natAbs:Int)= -((c:Int)*(d.natAbs:Int)):=Int.neg_mul _ _
  omega
 ·have hd':(0:Rat)<=((-d:Int):Rat):=by exact_mod_cast (by omega:(0:Int)<= -d)
  have u1:=Rat.mul_le_mul_of_nonneg_right h1 hd'
  have u2:=Rat.mul_le_mul_of_nonneg_right h2 hd'
  have e':q*((-d:Int):Rat)=((-a:Int):Rat):=by rw [Rat.intCast_neg,Rat.intCast_neg,<-e];grind
  rw [e'] at u1 u2
  have v1:=key (-(c:Int)* -d) (-a) (by rw [Rat.intCast_mul,Rat.intCast_neg];exact u1)
  have v2:=key (-a) ((c:Int)* -d) (by rw [Rat.intCast_mul];exact u2)
  have e1: -d=(d.natAbs:Int):=by omega
  rw [e1] at v1 v2
  have e2:((c*d.natAbs:Nat):Int)=(c:Int)*(d.natAbs:Int):=Int.natCast_mul _ _
  have e3: -(c:Int)*(d.natAbs:Int)= -((c:Int)*(d.natAbs:Int)):=Int.neg_mul _ _
  omega
section
variable {n m:Nat} {A:Nat->Nat->Rat}
abbrev zf (n m:Nat) (A:Nat->Nat->Rat):bA:=init n m A (fun _=>((-1:Int):Rat)) ((1:Int):Rat)
structure wH (n m:Nat) (A:Nat->Nat->Rat) (T:bA):Prop extends DInv m (n+m) (n+1) (zf n m A) T where
 rep:yt m (n+m) (n+1) (zf n m A) T
 D:(zf n m A).D T m≠0
theorem xk:((1:Int):Rat)=1:=rfl
theorem CN:((-1:Int):Rat)= -1:=rfl
theorem Zs (hA:∀i j,i<m->j<n->A i j=0∨A i j= -1):uR m (n+m) (n+1) (zf n m A):=
 Ba (a:= -1) (ρ:= -1) (.inr rfl) (.inr rfl) hA (fun _ _=> .inr rfl) (.inl rfl)
theorem Nw:wH n m A (zf n m A):=by
 refine ⟨⟨tB,fun j hj=>?_⟩,FT,by rw [PM];grind⟩
 by_cases h:j<n
 ·refine iO.2 (.inr ⟨0,by omega,fun i hi=>by omega,?_⟩)
  show 0<(zf n m A).cell (m+0) j
  simp only [init]
  rw [if_neg (by omega),if_pos (by omega),if_pos h,xk];grind
 ·refine iO.2 (.inl (fun k hk=>?_))
  show (zf n m A).cell (m+k) j=0
  simp only [init]
  rw [if_neg (by omega)]
  by_cases e:m+k=m
  ·rw [if_pos e,if_neg h]
  ·rw [if_neg e,if_neg (by omega)]
theorem a1W {T T':bA} (h:wH n m A T) (s:Nonempty (DStep m (n+m) (n+1) T T')):wH n m A T':=by
 obtain ⟨s⟩:=s
 have hv:=s.inv h.toDInv
 obtain ⟨r,c,hr,hc,rhs,neg,best,rfl⟩:=s
 have hp:T.cell r c≠0:=by grind
 refine ⟨hv,h.rep.pivot hr hc hp,?_⟩
 rw [KF h.rep hr hc]
 have:=h.D
 exact fun e=>by rcases Rat.mul_eq_zero.1 e with e|e;exact hp e;exact this e
theorem QK (hA:∀i j,i<m->j<n->A i j=0∨A i j= -1) (hm:m<=6) {T:bA} (h:wH n m A T):mB 240 1680 m (n+m) (n+1) T:=by
 obtain ⟨d,hd,hs⟩:=small (Zs hA) h.lt h.rep h.D
 have hb:=a9t hm
 refine ⟨⟨d,hs.ne,Nat.le_trans hs.den hb.1,fun r hr j hj=>?_,fun k hk j hj=>?_,fun k hk=>?_⟩,by decide,by decide,by decide,by decide⟩
 ·obtain ⟨a,h1,h2⟩:=hs.row r hr j hj;exact ⟨a,h1,by omega⟩
 ·obtain ⟨a,h1,h2⟩:=hs.cost k hk j (by omega);exact ⟨a,h1,by omega⟩
 ·obtain ⟨a,h1,h2⟩:=hs.cost k hk (n+m) (Nat.le_refl _);exact ⟨a,h1,by omega⟩
theorem a1X (hA:∀i j,i<m->j<n->A i j=0∨A i j= -1) (hm:m<=6):Road 240 1680 (2^(n+m)) m (n+m) (n+1) (fun T T'=>Nonempty (DStep m (n+m) (n+1) T T')) (wH n m A) (zf n m A):=
 ⟨Nw,fun T T' h s=>a1W h s,fun T h=>QK hA hm h,fun seq h0 hs=>XU VT seq (by rw [h0];exact Nw.toDInv) hs⟩
theorem a1Y (hA:∀i j,i<m->j<n->A i j=0∨A i j= -1) (hin:∀i,i<m->∃j,j<n/\A i j= -1) {T:bA} (h:wH n m A T) {r:Nat} (hr:r<m) (hneg:T.cell r (n+m)<0):∃c,c<n+m/\T.cell r c<0:=by
 by_cases hx:∃c,c<n+m/\T.cell r c<0
 ·exact hx
 ·exfalso
  have hf:Cr n m A (fun _=>((-1:Int):Rat)) (fun _=>1):=⟨fun j _=>by show (0:Rat)<=1;grind,fun i hi=>by
   obtain ⟨j,hj,e⟩:=hin i hi
   have h1:=uj hj (f:=fun j=> -1*(A i j*1)) (fun l hl=>by
    show 0<= -1*(A i l*1)
    rcases hA i l hi hl with e|e<;>rw [e]<;>grind)
   rw [oq] at h1
   have h2: -1*(A i j*1)<= -1*S n (fun j=>A i j*1):=h1
   rw [e] at h2
   show S n (fun j=>A i j*1)<=((-1:Int):Rat)
   rw [CN];grind⟩
  have h2:=(h.tZ 1 (ext n A (fun _=>((-1:Int):Rat)) (fun _=>1))).1 (fun i hi=>VU hi) r hr
  have h3:0<=S (n+m) (fun j=>T.cell r j*ext n A (fun _=>((-1:Int):Rat)) (fun _=>1) j):=pz (fun j hj=>by
   refine Rat.mul_nonneg ?_ (Im hf j hj)
   by_cases e:T.cell r j<0
   ·exact absurd ⟨j,hj,e⟩ hx
   ·grind)
  unfold bA.F at h2
  grind
theorem QL {T:bA} (h:wH n m A T) (hp:∀r,r<m->¬T.cell r (n+m)<0):PN n m A (fun _=>((-1:Int):Rat)) ((1:Int):Rat) (T.X m (n+m)):=
 TB h.toValid h.PI (fun r hr=>by have:=hp r hr;grind)
abbrev Lj (n m:Nat) (A:Nat->Nat->Rat):bA:=init n m A (fun _=>((1:Int):Rat)) ((-1:Int):Rat)
structure zg (n m:Nat) (A:Nat->Nat->Rat) (T:bA):Prop extends PInv m (n+m) (n+1) (Lj n m A) T where
 rep:yt m (n+m) (n+1) (Lj n m A) T
 D:(Lj n m A).D T m≠0
theorem Nx (hA:∀i j,i<m->j<n->A i j=0∨A i j=1):uR m (n+m) (n+1) (Lj n m A):=
 Ba (a:=1) (ρ:=1) (.inl rfl) (.inl rfl) hA (fun _ _=> .inr rfl) (.inr rfl)
theorem Ny:zg n m A (Lj n m A):=by
 refine ⟨⟨tB,fun r hr=>?_⟩,FT,by rw [PM];grind⟩
 simp only [init]
 rw [if_pos hr,if_neg (by omega),if_pos trivial,xk];grind
theorem a1Z {T T':bA} (h:zg n m A T) (s:Nonempty (mZ m (n+m) (n+1) T T')):zg n m A T':=by
 obtain ⟨s⟩:=s
 have hv:=s.inv h.toPInv
 obtain ⟨r,c,hr,hc,neg,first,pos,best,rfl⟩:=s
 have hp:T.cell r c≠0:=by grind
 refine ⟨hv,h.rep.pivot hr hc hp,?_⟩
 rw [KF h.rep hr hc]
 have:=h.D
 exact fun e=>by rcases Rat.mul_eq_zero.1 e with e|e;exact hp e;exact this e
theorem b2U (hA:∀i j,i<m->j<n->A i j=0∨A i j=1) (hin:∀j,j<n->∃i,i<m/\A i j=1) {T:bA} (h:zg n m A T):∀j,j<n+m->0<=T.X m (n+m) j/\T.X m (n+m) j<=1:=by
 have hX:∀j,0<=T.X m (n+m) j:=fun j=>pz (fun r hr'=>by
  split
  ·exact h.FP r hr'
  ·grind)
 have hF:∀i,i<m->S n (fun j=>A i j*T.X m (n+m) j)+T.X m (n+m) (n+i)=1:=fun i hi=>by
  have:=(h.tZ 1 _).2 (fun i hi=>h.toValid.MW hi) i hi
  rw [pF 1 _ hi,xk] at this;grind
 have Zt:∀i,i<m->∀j,j<n->0<=A i j*T.X m (n+m) j:=fun i hi j hj=>Rat.mul_nonneg (by rcases hA i j hi hj with e|e<;>rw [e]<;>grind) (hX j)
 intro j hj
 refine ⟨hX j,?_⟩
 by_cases hjn:j<n
 ·obtain ⟨i,hi,e⟩:=hin j hjn
  have h1:=uj hjn (Zt i hi)
  rw [e] at h1
  have:=hF i hi
  have:=hX (n+i)
  grind
 ·have h1:=hF (j - n) (by omega)
  have e:n+(j - n)=j:=by omega
  rw [e] at h1
  have:=pz (Zt (j - n) (by omega))
  grind
theorem a9u {k:Nat} {f:Nat->Rat} (h:∀j,j<k->f j<=1):S k f<=((k:Int):Rat):=by
 induction k with
 |zero=>simp only [S];exact Rat.le_refl
 |succ k ih=>
  have h1:=ih (fun j hj=>h j (by omega))
  have h2:=h k (by omega)
  simp only [S]
  have e:(((k+1:Nat):Int):Rat)=((k:Int):Rat)+1:=by
   rw [Int.natCast_add,Rat.intCast_add];rfl
  rw [e];grind
theorem QM (hA:∀i j,i<m->j<n->A i j=0∨A i j=1) (hin:∀j,j<n->∃i,i<m/\A i j=1) (hn:n<=6) {T:bA} (h:zg n m A T):mB 720 720 m (n+m) (n+1) T:=by
 obtain ⟨d,hd,hs⟩:=small (Nx hA) h.lt h.rep h.D
 obtain ⟨w1,w2,w3⟩:=Wv (Nx hA) h.toValid h.rep
 have hf:=a6D hn
 have hX:=b2U hA hin h
 have hdd:d.natAbs<=720:=by
  obtain ⟨z,e,hz⟩:=w1 hd
  have:d=z:=yZ e
  omega
 refine ⟨⟨d,hs.ne,hdd,fun r hr j hj=>?_,fun k hk j hj=>?_,fun k hk=>?_⟩,by decide,by decide,by decide,by decide⟩
 ·by_cases e:j<n+m
  ·obtain ⟨z,e1,hz⟩:=w2 r j hr e
   exact ⟨z,by rw [hd];exact e1,by omega⟩
  ·have e2:j=n+m:=by omega
   subst e2
   obtain ⟨a,h1,h2⟩:=hs.row r hr (n+m) (Nat.le_refl _)
   have hx:=hX (T.basis r) (h.lt r hr)
   rw [Cl h.toValid hr] at hx
   have:=Ul (c:=1) (by have:=hx.1;show -((1:Int):Rat)<=_;rw [xk];grind) (by show _<=((1:Int):Rat);rw [xk];exact hx.2) h1
   exact ⟨a,h1,by omega⟩
 ·obtain ⟨z,e1,hz⟩:=w3 k j hk hj
  exact ⟨z,by rw [hd];exact e1,by omega⟩
 ·obtain ⟨a,h1,h2⟩:=hs.cost k hk (n+m) (Nat.le_refl _)
  have hc:=h.toValid.FN hk
  rw [h.cost 1 _ (fun i hi=>h.toValid.MW hi) k hk,Cs _ hk] at hc
  have hq: -((6:Nat):Int)<=T.cell (m+k) (n+m)/\T.cell (m+k) (n+m)<=(((6:Nat):Int):Rat):=by
   have e6:(((6:Nat):Int):Rat)=6:=rfl
   unfold gm at hc
   by_cases e:k=0
   ·rw [if_pos e,CN] at hc
    have u1:=pz (n:=n) (f:=T.X m (n+m)) (fun j hj=>(hX j (by omega)).1)
    have u2:=a9u (k:=n) (f:=T.X m (n+m)) (fun j hj=>(hX j (by omega)).2)
    have u3:((n:Int):Rat)<=6:=by
     have:((n:Int):Rat)<=((6:Int):Rat):=by exact_mod_cast hn
     exact this
    constructor
    ·rw [e6];grind
    ·rw [e6];grind
   ·rw [if_neg e] at hc
    have u1:=hX (k - 1) (by omega)
    constructor
    ·rw [e6];grind
    ·rw [e6];grind
  have:=Ul (c:=6) hq.1 hq.2 h1
  exact ⟨a,h1,by omega⟩
theorem a2a (hA:∀i j,i<m->j<n->A i j=0∨A i j=1) (hin:∀j,j<n->∃i,i<m/\A i j=1) (hn:n<=6):Road 720 720 (2^(n+m)) m (n+m) (n+1) (fun T T'=>Nonempty (mZ m (n+m) (n+1) T T')) (zg n m A) (Lj n m A):=
 ⟨Ny,fun T T' h s=>a1Z h s,fun T h=>QM hA hin hn h,fun seq h0 hs=>SY seq (by rw [h0];exact Ny.toPInv) hs⟩
theorem a6E (hA:∀i j,i<m->j<n->A i j=0∨A i j=1) (hin:∀j,j<n->∃i,i<m/\A i j=1) {T:bA} (h:zg n m A T) {c:Nat} (hc:c<n+m) (hneg:fk (n+1) (T.cost m c)):∃r,r<m/\0<T.cell r c:=by
 by_cases hx:∃r,r<m/\0<T.cell r c
 ·exact hx
 ·exfalso
  have hnb:¬jz m T c:=tA h.toValid (fun hz=>xI hz hneg)
  have hd:∀j,0<=T.dir m c j:=fun j=>by
   unfold bA.dir
   split
   ·grind
   ·refine pz (fun r hr=>?_)
    split
    ·by_cases e:0<T.cell r c
     ·exact absurd ⟨r,hr,e⟩ hx
     ·grind
    ·grind
  have hF:∀i,i<m->S n (fun j=>A i j*T.dir m c j)+T.dir m c (n+i)=0:=fun i hi=>by
   have:=(h.tZ 0 _).2 (zD h.toValid hc hnb) i hi
   rw [pF 0 _ hi] at this;grind
  have Zt:∀i,i<m->∀j,j<n->0<=A i j*T.dir m c j:=fun i hi j hj=>Rat.mul_nonneg (by rcases hA i j hi hj with e|e<;>rw [e]<;>grind) (hd j)
  have h1:=FO T m c
  by_cases Nr:c<n
  ·obtain ⟨i,hi,e⟩:=hin c Nr
   have h2:=uj Nr (Zt i hi)
   rw [e,h1] at h2
   have:=hF i hi
   have:=hd (n+i)
   grind
  ·have h2:=hF (c - n) (by omega)
   have e:n+(c - n)=c:=by omega
   rw [e,h1] at h2
   have:=pz (Zt (c - n) (by omega))
   grind
theorem QN {T:bA} (h:zg n m A T) (hc:∀c,c<n+m->¬fk (n+1) (T.cost m c)):PN n m A (fun _=>((1:Int):Rat)) ((-1:Int):Rat) (T.X m (n+m)):=
 TB h.toValid hc h.FP
end
theorem b7a {m N:Nat} {T:bA} (n:Nat):sm T N n m=S n (T.X m N):=by
 have key:∀r,sm T N n r=S r (fun q=>if T.basis q<n then T.cell q N else 0):=by
  intro r
  induction r with
  |zero=>rfl
  |succ r ih=>
   simp only [sm,S]
   split
   ·rw [ih]
   ·rw [ih];grind
 rw [key m]
 unfold bA.X
 show _=S n (fun j=>S m (fun r=>if T.basis r=j then T.cell r N else 0))
 rw [Cj]
 refine dR (fun q hq=>?_)
 by_cases e:T.basis q<n
 ·rw [if_pos e]
  have:S n (fun j=>if T.basis q=j then T.cell q N else 0)=S n (fun j=>if j=T.basis q then T.cell q N else 0):=dR (fun j _=>by
   by_cases e2:T.basis q=j
   ·rw [if_pos e2,if_pos e2.symm]
   ·rw [if_neg e2,if_neg (fun h=>e2 h.symm)])
  rw [this,gl e (fun _=>T.cell q N)]
 ·rw [if_neg e,jy (fun j hj=>if_neg (fun e2=>e (by omega)))]
theorem a4F {D C m N K n:Nat} {T:bA} (h:mB D C m N K T) (hm:m<=7):∀r,r<=m->Ok (sm T N n r):=by
 obtain ⟨d,hd,hdD,hrow,_⟩:=h.ex
 have hD:=h.d1
 have key:∀r,r<=m->∃a:Int,sm T N n r*(d:Rat)=(a:Rat)/\a.natAbs<=r*D:=by
  intro r
  induction r with
  |zero=>intro _;exact ⟨0,by simp only [sm];grind,by simp⟩
  |succ r ih=>
   intro hr
   obtain ⟨a,h1,h2⟩:=ih (by omega)
   simp only [sm]
   have e1:(r+1)*D=r*D+D:=Nat.succ_mul _ _
   split
   ·obtain ⟨b,h3,h4⟩:=hrow r (by omega) N (Nat.le_refl _)
    exact ⟨a+b,by rw [Rat.intCast_add,<-h1,<-h3];grind,by omega⟩
   ·exact ⟨a,h1,by omega⟩
 intro r hr
 obtain ⟨a,h1,h2⟩:=key r hr
 have h3:r*D<=7*1000:=Nat.mul_le_mul (by omega) hD
 exact Qu.ok (Qu.Ip hd (a:=7000) (b:=1000) (by omega) (by omega) h1) (by omega) (by omega)
theorem Um {D C m N K:Nat} {T:bA} (h:mB D C m N K T):∀r,r<m->Ok (T.cell r N):=fun r hr=>h.Zf (by omega) (Nat.le_refl _)
section
variable {n:Nat} {M:Nat->Nat->Rat}
abbrev Zu (n:Nat) (M:Nat->Nat->Rat):bA:=init n n M (fun i=>M i n) 1
structure BS (n:Nat) (M R:Nat->Nat->Rat) (c:Nat) (T:bA) (π:Nat->Nat) (p:Nat->Rat):Prop where
 v:Valid n (n+n) (n+1) (Zu n M) T
 rep:yt n (n+n) (n+1) (Zu n M) T
 D:(Zu n M).D T n≠0
 lt:∀i,i<n->π i<n
 inj:∀i k,i<n->k<n->π i=π k->i=k
 Zv:∀r,r<n->∃i,i<n/\π i=r
 fG:∀i,i<c->i<n->T.basis (π i)=i
 free:∀i,c<=i->i<n->n<=T.basis (π i)
 eq:∀i j,i<n->j<=n->R i j=p i*T.cell (π i) (if j=n then n+n else j)
 one:∀i,c<=i->p i=1
 pq:∀i,i<n->Qu 1680 1680 (p i)/\p i≠0
theorem b7b {m:Nat} (h:m<=7):Cq m<=1680:=by
 rcases m with _|_|_|_|_|_|_|_|m<;>first|decide|omega
theorem a2b (hM:∀i j,i<n->j<=n->M i j=0∨M i j=1):uR n (n+n) (n+1) (Zu n M):=
 Ba (a:=1) (ρ:=1) (.inl rfl) (.inl rfl) (fun i j hi hj=>hM i j hi (by omega)) (fun i hi=>hM i n hi (Nat.le_refl _)) (.inl rfl)
theorem a9v:Qu 1680 1680 1:=⟨1,1,by decide,by grind,by decide,by decide⟩
theorem a2c:BS n M M 0 (Zu n M) (fun i=>i) (fun _=>1):=by
 refine ⟨tB,FT,by rw [PM];grind,fun i hi=>hi,fun _ _ _ _ e=>e,fun r hr=>⟨r,hr,rfl⟩,fun i hi=>by omega,fun i _ hi=>by show n<=n+i;omega,fun i j hi hj=>?_,fun _ _=>rfl,fun _ _=>⟨a9v,by grind⟩⟩
 simp only [init]
 rw [if_pos hi]
 by_cases e:j=n
 ·subst e;rw [if_pos rfl,if_neg (by omega),if_pos rfl];grind
 ·rw [if_neg e,if_pos (by omega)];grind
theorem uA {p c k:Nat} (hp:p<n) (hc:c<n) (hk:k<n):gN p c k<n:=by unfold gN;split;exact hp;split;exact hc;exact hk
theorem a2d {p c k l:Nat} (e:gN p c k=gN p c l):k=l:=by unfold gN at e;(repeat' split at e)<;>omega
theorem a2e (p c k:Nat):gN p c (gN p c k)=k:=by unfold gN;(repeat' split)<;>omega
theorem a2f {p c k:Nat} (hcp:c<=p) (hk:k<c):gN p c k=k:=by unfold gN;rw [if_neg (by omega),if_neg (by omega)]
theorem Nz {p c k:Nat} (hcp:c<=p) (hk:c<=k):c<=gN p c k:=by unfold gN;(repeat' split)<;>omega
theorem BS.swap {R:Nat->Nat->Rat} {c q:Nat} {T:bA} {π:Nat->Nat} {p:Nat->Rat} (h:BS n M R c T π p) (hc:c<n) (hq:q<n) (hcq:c<=q):BS n M (ku R q c) c T (fun i=>π (gN q c i)) (fun i=>p (gN q c i)):=by
 refine ⟨h.v,h.rep,h.D,fun i hi=>h.lt _ (uA hq hc hi),fun i k hi hk e=>a2d (h.inj _ _ (uA hq hc hi) (uA hq hc hk) e),fun r hr=>?_,fun i hi hin=>?_,fun i hi hin=>h.free _ (Nz hcq hi) (uA hq hc hin),fun i j hi hj=>h.eq _ j (uA hq hc hi) hj,fun i hi=>h.one _ (Nz hcq hi),fun i hi=>h.pq _ (uA hq hc hi)⟩
 ·obtain ⟨i,hi,e⟩:=h.Zv r hr
  exact ⟨gN q c i,uA hq hc hi,by show π (gN q c (gN q c i))=r;rw [a2e];exact e⟩
 ·show T.basis (π (gN q c i))=i
  rw [a2f hcq hi];exact h.fG i hi hin
theorem BS.sm {R:Nat->Nat->Rat} {c:Nat} {T:bA} {π:Nat->Nat} {p:Nat->Rat} (h:BS n M R c T π p) (hM:∀i j,i<n->j<=n->M i j=0∨M i j=1) (hn:n<=7):
 ∃d:Int,d≠0/\d.natAbs<=1680/\∀r,r<n->∀j,j<=n+n->∃a:Int,T.cell r j*(d:Rat)=(a:Rat)/\a.natAbs<=1680:=by
 obtain ⟨d,hd,hs⟩:=small (a2b hM) h.v.lt h.rep h.D
 have hb:=b7b hn
 exact ⟨d,hs.ne,Nat.le_trans hs.den hb,fun r hr j hj=>by obtain ⟨a,h1,h2⟩:=hs.row r hr j hj;exact ⟨a,h1,by omega⟩⟩
theorem Zw {j:Nat} (hj:j<=n):(if j=n then n+n else j)<=n+n:=by split<;>omega
theorem BS.elim {R:Nat->Nat->Rat} {c:Nat} {T:bA} {π:Nat->Nat} {p:Nat->Rat} (h:BS n M R c T π p) (hM:∀i j,i<n->j<=n->M i j=0∨M i j=1) (hn:n<=7) (hc:c<n) (hne:R c c≠0):
 BS n M (fO R c) (c+1) (T.pivot (π c) c) π (fun i=>if i=c then T.cell (π c) c else p i):=by
 have hpc:=h.one c (Nat.le_refl _)
 have Un:∀j,j<=n->R c j=T.cell (π c) (if j=n then n+n else j):=fun j hj=>by rw [h.eq c j hc hj,hpc];grind
 have a9x:R c c=T.cell (π c) c:=by rw [Un c (by omega),if_neg (by omega)]
 have hp:T.cell (π c) c≠0:=by rw [<-a9x];exact hne
 have hlc:=h.lt c hc
 obtain ⟨d,hd,hdb,hrow⟩:=h.sm hM hn
 refine ⟨h.v.pivot hlc (by omega) hp,h.rep.pivot hlc (by omega) hp,?_,h.lt,h.inj,h.Zv,fun i hi hin=>?_,fun i hi hin=>?_,fun i j hi hj=>?_,fun i hi=>?_,fun i hi=>?_⟩
 ·rw [KF h.rep hlc (by omega)]
  exact fun e=>by rcases Rat.mul_eq_zero.1 e with e|e;exact hp e;exact h.D e
 ·show (if π i=π c then c else T.basis (π i))=i
  by_cases e:i=c
  ·rw [e,if_pos rfl]
  ·rw [if_neg (fun e2=>e (h.inj i c hin hc e2))];exact h.fG i (by omega) hin
 ·show n<=(if π i=π c then c else T.basis (π i))
  rw [if_neg (fun e2=>by have:=h.inj i c hin hc e2;omega)];exact h.free i (by omega) hin
 ·show fO R c i j=(if i=c then T.cell (π c) c else p i)*(if π i=π c then _ else _)
  unfold fO
  by_cases e:i=c
  ·rw [if_pos (Or.inl e),if_pos e,e,if_pos rfl,Un j hj];grind
  ·rw [if_neg e,if_neg (fun e2=>e (h.inj i c hi hc e2))]
   by_cases hjc:j<c
   ·rw [if_pos (Or.inr hjc),h.eq i j hi hj,if_neg (by omega)]
    have h0:T.cell (π c) j=0:=by
     have:=h.v.unit (π j) (h.lt j (by omega)) (π c) (by omega)
     rw [h.fG j hjc (by omega)] at this
     rw [this,if_neg (fun e2=>by have:=h.inj c j hc (by omega) e2;omega)]
    rw [h0];grind
   ·rw [if_neg (by omega),h.eq i j hi hj,h.eq i c hi (by omega),if_neg (show ¬c=n by omega),a9x,Un j hj]
    grind
 ·show (if i=c then _ else p i)=1
  rw [if_neg (by omega)];exact h.one i (by omega)
 ·show Qu 1680 1680 (if i=c then _ else p i)/\(if i=c then _ else p i)≠0
  by_cases e:i=c
  ·rw [if_pos e]
   obtain ⟨a,h1,h2⟩:=hrow (π c) hlc c (by omega)
   exact ⟨Qu.Ip hd h2 hdb h1,hp⟩
  ·rw [if_neg e];exact h.pq i hi
theorem BS.sz {R:Nat->Nat->Rat} {c:Nat} {T:bA} {π:Nat->Nat} {p:Nat->Rat} (h:BS n M R c T π p) (hM:∀i j,i<n->j<=n->M i j=0∨M i j=1) (hn:n<=7):∀i j,i<n->j<=n->Sz 2822400 2822400 (R i j):=by
 intro i j hi hj
 obtain ⟨d,hd,hdb,hrow⟩:=h.sm hM hn
 obtain ⟨a,h1,h2⟩:=hrow (π i) (h.lt i hi) _ (Zw hj)
 rw [h.eq i j hi hj]
 exact Qu.sz ((h.pq i hi).1.mul (Qu.Ip hd h2 hdb h1))
theorem CO (hM:∀i j,i<n->j<=n->M i j=0∨M i j=1) (hn:n<=7):∀c R,c<=n->gH n M c=some R->∃T π p,BS n M R c T π p
 |0,R,_,h=>by obtain rfl:=Option.some.inj h;exact ⟨_,_,_,a2c⟩
 |c+1,R,hc,h=>by
  simp only [gH] at h
  obtain ⟨R0,h0,h1⟩:=Option.bind_eq_some_iff.1 h
  obtain ⟨T,π,p,hi⟩:=CO hM hn c R0 (by omega) h0
  by_cases hp:jA R0 c c (n - c)<n
  ·rw [if_pos hp] at h1
   obtain rfl:=Option.some.inj h1
   have hle:=(Qw R0 c (n - c) c).1
   have hne:=Ja R0 c (n - c) c (by omega)
   have hs:=hi.swap (by omega) hp hle
   refine ⟨_,_,_,hs.elim hM hn (by omega) ?_⟩
   show R0 (gN _ c c) c≠0
   have:gN (jA R0 c c (n - c)) c c=jA R0 c c (n - c):=by unfold gN;rw [if_pos rfl]
   rw [this];exact hne
  ·rw [if_neg hp] at h1;exact absurd h1 (by simp)
theorem b2V (hM:∀i j,i<n->j<=n->M i j=0∨M i j=1) (hn:n<=7) (c:Nat) (R:Nat->Nat->Rat) (hc:c<n) (h:gH n M c=some R):GOk n c R:=by
 obtain ⟨T,π,p,hi⟩:=CO hM hn c R (by omega) h
 have key:jA R c c (n - c)<n->∀r,r<n->r≠c->Qu 2822400 2822400 (ku R (jA R c c (n - c)) c r c/ku R (jA R c c (n - c)) c c c)/\∀j,j<=n->Qu 1680 1680 (ku R (jA R c c (n - c)) c c j):=by
  intro hp r hr hrc
  have hle:=(Qw R c (n - c) c).1
  have hne:=Ja R c (n - c) c (by omega)
  have hs:=hi.swap hc hp hle
  have hnc:ku R (jA R c c (n - c)) c c c≠0:=by
   show R (gN _ c c) c≠0
   have:gN (jA R c c (n - c)) c c=jA R c c (n - c):=by unfold gN;rw [if_pos rfl]
   rw [this];exact hne
  generalize ku R (jA R c c (n - c)) c=R1 at*
  generalize (fun i=>π (gN (jA R c c (n - c)) c i))=π1 at*
  generalize (fun i=>p (gN (jA R c c (n - c)) c i))=p1 at*
  obtain ⟨d,hd,hdb,hrow⟩:=hs.sm hM hn
  have Un:∀j,j<=n->R1 c j=T.cell (π1 c) (if j=n then n+n else j):=fun j hj=>by rw [hs.eq c j hc hj,hs.one c (Nat.le_refl _)];grind
  refine ⟨?_,fun j hj=>?_⟩
  ·obtain ⟨a,h1,h2⟩:=hrow (π1 r) (hs.lt r hr) c (by omega)
   obtain ⟨b,h3,h4⟩:=hrow (π1 c) (hs.lt c hc) c (by omega)
   have e1:R1 c c=T.cell (π1 c) c:=by rw [Un c (by omega),if_neg (by omega)]
   have e2:R1 r c=p1 r*T.cell (π1 r) c:=by rw [hs.eq r c hr (by omega),if_neg (by omega)]
   rw [e1] at hnc
   have hb0:b≠0:=fun e=>by
    rw [e] at h3
    have:T.cell (π1 c) c*(d:Rat)=0:=h3
    rcases Rat.mul_eq_zero.1 this with e|e
    ·exact hnc e
    ·exact KI hd e
   have hq:Qu 1680 1680 (T.cell (π1 r) c/T.cell (π1 c) c):=⟨a,b,hb0,by rw [<-h3,<-h1];grind,h2,h4⟩
   have e3:R1 r c/R1 c c=p1 r*(T.cell (π1 r) c/T.cell (π1 c) c):=by rw [e1,e2];grind
   rw [e3]
   exact (hs.pq r hr).1.mul hq
  ·obtain ⟨a,h1,h2⟩:=hrow (π1 c) (hs.lt c hc) _ (Zw hj)
   rw [Un j hj]
   exact Qu.Ip hd h2 hdb h1
 refine ⟨hi.sz hM hn,fun hp r hr hrc=>Qu.sz (key hp r hr hrc).1,fun hp r j hr hrc hj=>Qu.sz ((key hp r hr hrc).1.mul ((key hp r hr hrc).2 j hj))⟩
theorem a9y (hM:∀i j,i<n->j<=n->M i j=0∨M i j=1) (hn:n<=7) (R:Nat->Nat->Rat) (h:gH n M n=some R):a9d n R:=by
 obtain ⟨T,π,p,hi⟩:=CO hM hn n R (Nat.le_refl _) h
 refine ⟨hi.sz hM hn,fun c hc=>?_⟩
 rw [hi.eq c c hc (by omega),if_neg (by omega)]
 have:=hi.v.unit (π c) (hi.lt c hc) (π c) (by have:=hi.lt c hc;omega)
 rw [hi.fG c hc hc,if_pos rfl] at this
 rw [this]
 have:=(hi.pq c hc).2;grind
theorem Zx (hM:∀i j,i<n->j<=n->M i j=0∨M i j=1) (hn:n<=7) (R:Nat->Nat->Rat) (h:gH n M n=some R):
 (∀k,k<n->S n (fun j=>M k j*(R j n/R j j))=M k n)/\∃d:Int,d≠0/\d.natAbs<=1680/\∀c,c<n->∃a:Int,(R c n/R c c)*(d:Rat)=(a:Rat)/\a.natAbs<=1680:=by
 obtain ⟨T,π,p,hi⟩:=CO hM hn n R (Nat.le_refl _) h
 have hx:∀c,c<n->R c n/R c c=T.cell (π c) (n+n):=fun c hc=>by
  rw [hi.eq c c hc (by omega),if_neg (by omega),hi.eq c n hc (Nat.le_refl _),if_pos rfl]
  have:=hi.v.unit (π c) (hi.lt c hc) (π c) (by have:=hi.lt c hc;omega)
  rw [hi.fG c hc hc,if_pos rfl] at this
  rw [this]
  have:=(hi.pq c hc).2;grind
 have hX:∀c,c<n->T.X n (n+n) c=T.cell (π c) (n+n):=fun c hc=>by
  have:=Cl hi.v (hi.lt c hc)
  rw [hi.fG c hc hc] at this;exact this
 refine ⟨fun k hk=>?_,?_⟩
 ·rw [dR (g:=fun j=>M k j*T.X n (n+n) j) (fun j hj=>by rw [hx j hj,hX j hj])]
  refine (FU hi.v).2 k hk (fun hb=>?_)
  obtain ⟨r,hr,e⟩:=hb
  obtain ⟨i,NA,rfl⟩:=hi.Zv r hr
  rw [hi.fG i NA NA] at e;omega
 ·obtain ⟨d,hd,hdb,hrow⟩:=hi.sm hM hn
  exact ⟨d,hd,hdb,fun c hc=>by rw [hx c hc];exact hrow (π c) (hi.lt c hc) _ (Nat.le_refl _)⟩
theorem Uo (R:Nat->Nat->Rat) (c:Nat):∀d p,¬jA R c p d<p+d->∀i,p<=i->i<p+d->R i c=0
 |0,p,_,i,h1,h2=>by omega
 |d+1,p,h,i,h1,h2=>by
  simp only [jA] at h
  by_cases e:R p c=0
  ·rw [if_pos e] at h
   by_cases e2:i=p
   ·rw [e2];exact e
   ·exact Uo R c d (p+1) (by omega) i (by omega) (by omega)
  ·rw [if_neg e] at h;omega
theorem Up (hM:∀i j,i<n->j<=n->M i j=0∨M i j=1) (hn:n<=7):∀c,c<=n->gH n M c=none->∃z:Nat->Rat,(∃j,j<n/\z j≠0)/\∀k,k<n->S n (fun j=>M k j*z j)=0
 |0,_,h=>by simp [gH] at h
 |c+1,hc,h=>by
  cases h0:gH n M c with
  |none=>exact Up hM hn c (by omega) h0
  |some R=>
   simp only [gH] at h
   rw [h0] at h
   have hp:¬jA R c c (n - c)<n:=fun hp=>by
    have h':(if jA R c c (n - c)<n then some (fO (ku R (jA R c c (n - c)) c) c) else none)=none:=h
    rw [if_pos hp] at h';exact absurd h' (by simp)
   have hz:=Uo R c (n - c) c (by omega)
   obtain ⟨T,π,p,hi⟩:=CO hM hn c R (by omega) h0
   have hnb:¬jz n T c:=fun ⟨r,hr,e⟩=>by
    obtain ⟨i,NA,rfl⟩:=hi.Zv r hr
    by_cases hic:i<c
    ·rw [hi.fG i hic NA] at e;omega
    ·have:=hi.free i (by omega) NA;omega
   refine ⟨T.dir n c,⟨c,by omega,by rw [FO];grind⟩,fun k hk=>?_⟩
   have h1:=(hi.v.tZ 0 _).2 (zD hi.v (by omega) hnb) k hk
   rw [pF 0 _ hk] at h1
   have h2:T.dir n c (n+k)=0:=by
    unfold bA.dir
    rw [if_neg (by omega)]
    refine jy (fun r hr=>?_)
    split
    ·next e=>
     obtain ⟨i,NA,rfl⟩:=hi.Zv r hr
     have hci:c<=i:=by
      by_cases hic:i<c
      ·rw [hi.fG i hic NA] at e;omega
      ·omega
     have h3:=hz i hci (by omega)
     rw [hi.eq i c NA (by omega),if_neg (by omega),hi.one i hci] at h3
     grind
    ·rfl
   rw [h2] at h1
   have h4:S n (fun j=>M k j*T.dir n c j)+0 - M k n*0=0:=h1
   grind
end
def kz (a:Int) (d:dz):Bool:=decide (d.f0.length<=1048576)&&d.f0.all (fun x=>decide (0<=x)&&decide (x<a))&&(decide (d.f2=0)||decide (d.f2=1))
theorem tJ {a:Int} {d:dz}:kz a d=true↔d.f0.length<=1048576/\(∀x,x∈d.f0->0<=x/\x<a)/\(d.f2=0∨d.f2=1):=by
 unfold kz
 simp only [Bool.and_eq_true,Bool.or_eq_true,decide_eq_true_eq,List.all_eq_true,and_assoc]
def a9z (o:Option (Nat->Nat->Rat)) (n:Nat):List dm:=match o with|none=>[]|some R=>(List.range n).map (fun c=>(⟨(R c n/R c c).num,((R c n/R c c).den:Int)⟩:dm))
def zR (a:Int) (ch:List dz):Bool:=decide (a=(ch.length:Int))&&decide (0<ch.length)&&decide (ch.length<=7)&&ch.all (kz a)
def Jg (a:Int) (ch:List dz):Option (List dm×Bool):=
 if zR a ch=true then some (a9z (gH ch.length (iL ch ch.length) ch.length) ch.length,(gH ch.length (iL ch ch.length) ch.length).isSome) else none
theorem QO {a:Int} {ch:List dz} (h:ch.all (kz a)=true):∀i j,i<ch.length->j<=ch.length->iL ch ch.length i j=0∨iL ch ch.length i j=1:=by
 intro i j hi hj
 have hd:=tJ.1 (List.all_eq_true.1 h _ (List.getElem_mem hi))
 unfold iL
 by_cases e:j=ch.length
 ·rw [if_pos e]
  have:ch.getD i tE=ch[i]:=by simp [List.getD_eq_getElem?_getD,hi]
  rw [this]
  rcases hd.2.2 with h|h
  ·exact .inl (by rw [h];rfl)
  ·exact .inr (by rw [h];rfl)
 ·rw [if_neg e];split
  ·exact .inr rfl
  ·exact .inl rfl
theorem SZ (a:Int) (A:Option Addr) (c:Nat) (ch:List dz) (r1:List dm) (r2:Bool) (w:World) (hC:Kd.C mm w A ch.length ch) (hc:ch.length<=c) (h:Jg a ch=some (r1,r2)):
 Calls Try.prog 84 #[.int .i64 a,.slice A ch.length c] w fun e w'=>∃lH:Value,e= .returned (.tuple #[lH,.bool r2])/\Kd.R gY 34 w' w.heap.size (fun _=>True) lH r1/\Below w.heap.size w w':=by
 unfold Jg at h
 by_cases hg:zR a ch=true
 ·rw [if_pos hg] at h
  obtain ⟨rfl,rfl⟩:=Prod.mk.inj (Option.some.inj h)
  unfold zR at hg
  simp only [Bool.and_eq_true,decide_eq_true_eq] at hg
  obtain ⟨⟨⟨rfl,h0⟩,h7⟩,hall⟩:=hg
  have hM:=QO hall
  refine (Ws A c ch.length ch w hC hc rfl h0 h7 (fun c R hc h=>b2V hM h7 c R hc h) (fun R h=>a9y hM h7 R h) (fun d hd=>?_)).mono ?_
  ·have:=tJ.1 (List.all_eq_true.1 hall d hd)
   exact ⟨this.1,this.2.1⟩
  ·rintro e w' ⟨v0,rfl,hR,hB⟩
   refine ⟨v0,rfl,?_,hB⟩
   unfold a9z
   cases hg:gH ch.length (iL ch ch.length) ch.length with
   |none=>rw [hg] at hR;exact hR
   |some R=>rw [hg] at hR;exact hR
 ·rw [if_neg hg] at h;exact absurd h (by simp)
end Go.Proofs.Ytkckdphjhlbdcaa.PT
namespace Go.Proofs.Ytkckdphjhlbdcaa.P
open Go.RowKit Go.Proofs.YtkckdphjhlbdcaaW.PrintWords Go.Proofs.YtkckdphjhlbdcaaW.PrintLast Go.Proofs.YtkckdphjhlbdcaaW.PrintMore
attribute [local go_sem] max2_int min2_int max_two min_two max_three min_three max_four min_four
set_option linter.all false
def dF.l0:Nat->List (dm)->List Int->Int->Int->List Int->Bool->Int->Int->Int->Option (Bool)
 |0,_,_,_,_,_,_,_,_,_=>none
 |k+1,x0,yL,x12,zS,a6F,Uq,Lk,Ll,Lm=>if zS<x12 then (if 0<=zS then (if zS<(yL.length:Int) then (if 0<=(rd yL zS) then (if (rd yL zS)<(x0.length:Int) then ((fZ.f k Ll Lm ((aZ x0 (rd yL zS)).f0) ((aZ x0 (rd yL zS)).f1)).bind fun a4H=>(dF.l0 k x0 yL x12 (wrap64 (zS+1)) a6F Uq Lk a4H.1 a4H.2)) else (none)) else (none)) else (none)) else (none)) else (if Uq=true then ((cr.f Lk 1 Ll Lm).bind fun t218=>(some (!t218))) else ((cr.f Ll Lm Lk 1).bind fun Ln=>(some (!Ln))))
def dF.f (k:Nat) (l0:List (dm)) (eG:List Int) (bk:Bool) (iU:Int):Option (Bool):=dF.l0 k l0 eG (eG.length:Int) 0 eG bk iU 0 1
theorem dF.cC:∀k,(∀y0 y1 y2 y3 y4 y5 y6 y7 y8,aR (dF.l0 k y0 y1 y2 y3 y4 y5 y6 y7 y8) (dF.l0 (k+1) y0 y1 y2 y3 y4 y5 y6 y7 y8))
 |0=>fun _ _ _ _ _ _ _ _ _ r h=>by simp [dF.l0] at h
 |k+1=>by
  have dN:=dF.cC k
  ·intro y0 y1 y2 y3 y4 y5 y6 y7 y8
   unfold dF.l0
   repeat' first
   |(with_reducible exact dN _ _ _ _ _ _ _ _ _)
   |(with_reducible exact fZ.mono _ _ _ _ _)
   |(with_reducible exact aR.refl _)
   |(with_reducible exact aR.none _)
   |(with_reducible refine aR.ite ?_ ?_)
   |(with_reducible refine aR.bind ?_ (fun _=>?_))
theorem dF.mono:∀a0 a1 a2 a3 k,aR (dF.f k a0 a1 a2 a3) (dF.f (k+1) a0 a1 a2 a3):=by
 intro a0 a1 a2 a3 k
 have dN:=dF.cC k
 unfold dF.f
 repeat' first
  |(with_reducible exact dN _ _ _ _ _ _ _ _ _)
  |(with_reducible exact fZ.mono _ _ _ _ _)
  |(with_reducible exact aR.refl _)
  |(with_reducible exact aR.none _)
  |(with_reducible refine aR.ite ?_ ?_)
  |(with_reducible refine aR.bind ?_ (fun _=>?_))
set_option maxHeartbeats 8000000 in
set_option maxRecDepth 100000 in
theorem dF.calls (k:Nat) (A0:Option Addr) (c0:Nat) (l0:List (dm)) (oD:Option Addr) (og:Nat) (eG:List Int) (bk:Bool) (iU:Int) (r:Bool) (w:World) (fl:Kd.C gY w A0 l0.length l0) (hc0:l0.length<=c0) (a4I:Kd.C (Kd.int .i64) w oD eG.length eG) (a4J:eG.length<=og) (h:dF.f k l0 eG bk iU=some r):
 Calls Try.prog 85 #[.slice A0 l0.length c0,.agg #[.slice oD eG.length og,.bool bk,.int .i64 iU]] w fun e w'=>e= .returned (.bool r)/\Below w.heap.size w w':=by
 have b7c:=Try.underlying96
 have lB:=Try.underlying34
 have eu:=Aside0.mk fl
 have kr:=Aside0.mk hc0
 clear fl hc0
 have b2W:=Aside0.mk a4I
 have HC1_0:=Aside0.mk a4J
 clear a4I a4J
 have HB:=Aside0.mk (Below.refl w.heap.size w)
 have H:(dF.l0 k l0 eG (eG.length:Int) 0 eG bk iU 0 1)=some r:=h
 clear h
 have H':=Aside0.mk H
 clear H
 go_enter Try.func85,Try.ntmps85
 go_wp2_with (first|((with_reducible refine bn (N:=3) rfl ?_);refine bq ?hg (N:=3) ?hd (cs:= #[.slice oD eG.length og,.bool bk,.int .i64 iU]) (t:=96) ?hr ?_;(case hd=>rfl);(case hg=>rfl);(case hr=>first|(go_simp;done)|(go_simp;rfl));intro gh hg w3 aU hb;have aA:=Aside0.mk (ah ay hb);have aC:=Aside0.mk (aU);have aD:=Aside0.mk ((by rw [hg];exact (ax ay):w.heap.size<=gh));have aK:=Aside0.mk ((by rw [hg];exact (ax ay):w.heap.size<=gh));clear HB;have HB:=aA;have dM:=aC;have GW211:=aD;have GE211:=aK;clear aA aC aD aK;clear hb aU hg)|((with_reducible refine bn (N:=5) rfl ?_);refine bq ?hg (N:=5) ?hd (cs:= #[.int .i64 0,.int .i64 0]) (t:=34) ?hr ?_;(case hd=>rfl);(case hg=>rfl);(case hr=>first|(go_simp;done)|(go_simp;rfl));intro ja hg w4 aU hb;have aA:=Aside0.mk (aj (g:=gh) (o:= .cells #[.slice oD eG.length og,.bool bk,.int .i64 iU] 96 (0,0)) (aH dM) hb);have aC:=Aside0.mk (ah ay hb);have aD:=Aside0.mk (aU);have aK:=Aside0.mk ((by rw [hg];exact (ax ay):w.heap.size<=ja));have bF:=Aside0.mk ((by rw [hg];exact (ax ay):w.heap.size<=ja));have bS:=Aside0.mk ((by rw [hg];exact Nat.ne_of_lt (bf (g:=gh) (o:= .cells #[.slice oD eG.length og,.bool bk,.int .i64 iU] 96 (0,0)) (aH dM)):gh≠ja));have bY:=Aside0.mk ((by rw [hg];exact Nat.ne_of_gt (bf (g:=gh) (o:= .cells #[.slice oD eG.length og,.bool bk,.int .i64 iU] 96 (0,0)) (aH dM)):ja≠gh));clear dM;clear HB;have dM:=aA;have HB:=aC;have eI:=aD;have GW212:=aK;have GE212:=bF;have nR:=bS;have vT:=bY;clear aA aC aD aK bF bS bY;clear hb aU hg;have a8K:=vT.out;have a8L:=nR.out;have Qc:w4.cell? ⟨ja,0,none⟩=some (.int .i64 0):=(ag eI.out 0).trans rfl;have Qd:w4.cell? ⟨ja,1,none⟩=some (.int .i64 0):=(ag eI.out 1).trans rfl;have Qe:=af eI.out 0;have Qf:=af eI.out 1;have Qg:w4.cell? ⟨gh,0,none⟩=some (.slice oD eG.length og):=(ag dM.out 0).trans rfl;have Qh:w4.cell? ⟨gh,1,none⟩=some (.bool bk):=(ag dM.out 1).trans rfl;have a9A:w4.cell? ⟨gh,2,none⟩=some (.int .i64 iU):=(ag dM.out 2).trans rfl;have Qi:=af dM.out 0;have Qj:=af dM.out 1;have a9B:=af dM.out 2))
 go_loopg [13] k (fun kq v13 w'=>∃(iq:Int) (eL:Int) (eA:Int),v13= .int .i64 iq/\Aside0 (dF.l0 kq l0 eG (eG.length:Int) iq eG bk iU eL eA=some r)/\Aside0 (kq<=k)/\Aside0 (w'.heap[gh]? =some (.cells #[(.slice oD eG.length og),.bool bk,.int .i64 iU] 96 (0,0)))/\Aside0 (w'.heap[ja]? =some (.cells #[.int .i64 eL,.int .i64 eA] 34 (0,0)))/\Aside0 (Below w.heap.size w w'))
 case atStart=>exact ⟨(0),(0),(1),(by first|rfl|(simp;done)|(simp [*];done)),H',⟨Nat.le_refl _⟩,⟨by (with_reducible repeat (first|refine aq ?_ _|refine ak ?_|refine ai ?_ _));refine bM ?_ nR.out _;(with_reducible repeat (first|refine aq ?_ _|refine ak ?_|refine ai ?_ _));refine bM ?_ nR.out _;(with_reducible repeat (first|refine aq ?_ _|refine ak ?_|refine ai ?_ _));exact dM.out⟩,⟨by (with_reducible repeat (first|refine aq ?_ _|refine ak ?_|refine ai ?_ _));refine bh (cs:= #[.int .i64 0,.int .i64 0]) ?_ 1 _ rfl;(with_reducible repeat (first|refine aq ?_ _|refine ak ?_|refine ai ?_ _));refine bh (cs:= #[.int .i64 0,.int .i64 0]) ?_ 0 _ rfl;(with_reducible repeat (first|refine aq ?_ _|refine ak ?_|refine ai ?_ _));exact eI.out⟩,⟨ay⟩⟩
 case round=>
  clear H'
  try clear c1
  try clear p2
  try clear c5
  try clear Qc
  try clear Qd
  try clear Qg
  try clear Qh
  try clear a9A
  try clear Qe
  try clear Qf
  try clear Qi
  try clear Qj
  try clear a9B
  obtain ⟨iq,eL,eA,rfl,HA,dX,dM,eI,HB⟩:=hrel
  cases gk with
  |zero=>exact absurd HA.out (by simp [dF.l0])
  |succ k1=>
   have H:=HA.out
   clear HA
   simp only [dF.l0] at H
   by_cases c8:iq<(eG.length:Int)
   ·rw [if_pos c8] at H
    have qL:decide (iq<(eG.length:Int))=true:=decide_eq_true c8
    clear c8
    by_cases c9:0<=iq
    ·rw [if_pos c9] at H
     have wI:decide (0<=iq)=true:=decide_eq_true c9
     clear c9
     by_cases c10:iq<(eG.length:Int)
     ·rw [if_pos c10] at H
      have xm:decide (iq<(eG.length:Int))=true:=decide_eq_true c10
      clear c10
      by_cases c11:0<=(rd eG iq)
      ·rw [if_pos c11] at H
       have a4K:decide (0<=(rd eG iq))=true:=decide_eq_true c11
       clear c11
       by_cases c12:(rd eG iq)<(l0.length:Int)
       ·rw [if_pos c12] at H
        have yA:decide ((rd eG iq)<(l0.length:Int))=true:=decide_eq_true c12
        clear c12
        replace H:=Option.bind_eq_some_iff.mp H
        obtain ⟨⟨Ww,a2g⟩,a9C,H⟩:=H
        replace H:(dF.l0 k1 l0 eG (eG.length:Int) (wrap64 (iq+1)) eG bk iU Ww a2g)=some r:=H
        have A13:=Aside0.mk a9C
        clear a9C
        have H':=Aside0.mk H
        clear H
        have a2h:0<=(iq:Int):=of_decide_eq_true (by first|(with_reducible assumption)|assumption)
        have a2i:iq<(eG.length:Int):=of_decide_eq_true (by first|(with_reducible assumption)|assumption)
        obtain ⟨b2X,b7d,Lq⟩:=Kd.gL b2W.out iq a2h a2i
        cases b7d
        replace Lq:=(HB.out.cell (World.block_lt_of_cell? w _ Lq)).trans Lq
        replace a2h:=eq_true a2h
        replace a2i:=eq_true a2i
        try go_wp2
        have aA:=Aside0.mk (ak dM.out)
        have aC:=Aside0.mk (ak eI.out)
        have aD:=Aside0.mk (aI HB.out)
        clear dM
        clear eI
        clear HB
        have dM:=aA
        have eI:=aC
        have HB:=aD
        clear aA aC aD
        have a2j:0<=((rd eG iq):Int):=of_decide_eq_true (by first|(with_reducible assumption)|assumption)
        have a2k:(rd eG iq)<(l0.length:Int):=of_decide_eq_true (by first|(with_reducible assumption)|assumption)
        obtain ⟨Wx,b7e,zT,zU⟩:=kj eu.out (rd eG iq) a2j a2k
        have Ef:=zU
        have Eg:=zT
        cases b7e
        replace zT:=(HB.out.cell (World.block_lt_of_cell? w _ zT)).trans zT
        replace zU:=(HB.out.cell (World.block_lt_of_cell? w _ zU)).trans zU
        replace a2j:=eq_true a2j
        replace a2k:=eq_true a2k
        refine fL (n:=7) (S:=fun w'=>w'.cell? ⟨ja,0,none⟩=some (.int .i64 eL)/\w'.cell? ⟨ja,1,none⟩=some (.int .i64 eA)/\w'.cell? (Wx.add (((rd eG iq)).toNat*2))=some (.int .i64 ((aZ l0 (rd eG iq)).f0))/\w'.cell? ⟨(Wx.add (((rd eG iq)).toNat*2)).block,(Wx.add (((rd eG iq)).toNat*2)).off+1,none⟩=some (.int .i64 ((aZ l0 (rd eG iq)).f1))) (ds:=[6]) #[false,false,false,false,false,false,false] (by kernel_rfl) rfl rfl ⟨(ag eI.out 0).trans rfl,(ag eI.out 1).trans rfl,((HB.out.cell (World.block_lt_of_cell? w _ Eg)).trans Eg),((HB.out.cell (World.block_lt_of_cell? w _ Ef)).trans Ef)⟩ (fun hHeld=>?_)
        generalize wr.drew=TI at dM eI HB zT zU hHeld⊢
        refine bl (i:=1) (N:=some 18) ?_
        refine bl (i:=2) (N:=some 19) ?_
        refine bl (i:=3) (N:=some 20) ?_
        refine dS (i:=0) (N:=some 17) (v:=?_) (a':=?_) #[true,true,true,true,false,false,false] rfl rfl (by kernel_rfl) (fun _ _ _ h=>h) (Or.inl ⟨by rfl,?_⟩) hHeld ?_ ?_
        rotate_left
        ·rintro w' ⟨s0,s1,s2,s3⟩
         go_simp
         with_reducible rfl
        rotate_left
        ·exact fj
        refine dS (i:=4) (N:=some 21) (v:=?_) (a':=?_) #[true,true,true,true,true,false,false] rfl rfl (by kernel_rfl) (fun _ _ _ h=>h) (Or.inl ⟨by rfl,?_⟩) hHeld ?_ ?_
        rotate_left
        ·rintro w' ⟨s0,s1,s2,s3⟩
         go_simp
         with_reducible rfl
        rotate_left
        ·exact fj
        refine gj (i:=5) (N:=some 22) #[true,true,true,true,true,true,false] rfl rfl (by kernel_rfl) (by decide) (fun K hK=>?_)
        refine pg Try.func83 (by kernel_rfl) rfl #[.agg #[.int .i64 eL,.int .i64 eA],.agg #[.int .i64 ((aZ l0 (rd eG iq)).f0),.int .i64 ((aZ l0 (rd eG iq)).f1)]] (by rfl) rfl rfl (by (try simp only [List.map_toArray,List.map_cons,List.map_nil]);first|done|rfl|(simp only [List.length_drop,List.length_take];rfl)) ?_
        with_reducible refine (fZ.calls k1 eL eA ((aZ l0 (rd eG iq)).f0) ((aZ l0 (rd eG iq)).f1) Ww a2g _ A13.out).mono ?_
        rintro e NB ⟨rfl,hb⟩
        refine ⟨_,rfl,?_⟩
        have aA:=Aside0.mk (aj (g:=gh) (o:= .cells #[.slice (some b2X) eG.length og,.bool bk,.int .i64 iU] 96 (0,0)) (aH dM) hb)
        have aC:=Aside0.mk (aj (g:=ja) (o:= .cells #[.int .i64 eL,.int .i64 eA] 34 (0,0)) (aH eI) hb)
        have aD:=Aside0.mk (ah ay hb)
        clear dM
        clear eI
        clear HB
        have dM:=aA
        have eI:=aC
        have HB:=aD
        clear aA aC aD
        (try clear hb)
        (try clear hb2)
        (try clear hk)
        (try clear hi)
        refine hK.out _ _ ⟨(ag eI.out 0).trans rfl,(ag eI.out 1).trans rfl,((HB.out.cell (World.block_lt_of_cell? w _ Eg)).trans Eg),((HB.out.cell (World.block_lt_of_cell? w _ Ef)).trans Ef)⟩ (fun hHeld=>?_)
        clear hK K
        refine fq (a':=?_) ?_ ?_
        rotate_left
        ·show Act.put _ (some 22) _=_
         simp only [Act.put,List.setIfInBounds_toArray,List.set_cons_zero,List.set_cons_succ,dJ,eD]
         rfl
        refine rf (i:=6) (N:=none) #[true,true,true,true,true,true,true] rfl rfl (by kernel_rfl) (by decide) (fun K hK=>?_)
        have b6J:NB.cell? ⟨ja,0,none⟩=some (.int .i64 eL):=(ag eI.out 0).trans rfl
        have b2O:=af eI.out 0
        have hns16_0:=nR.out
        have hms16_0:=vT.out
        have hs17:NB.cell? ⟨ja,1,none⟩=some (.int .i64 eA):=(ag eI.out 1).trans rfl
        have hfs17:=af eI.out 1
        have hns17_0:=nR.out
        have hms17_0:=vT.out
        refine lO (w1:=?_) (by rfl) rfl ?_ ?_
        rotate_left
        ·go_simp
         rfl
        refine hK.out _ _ ?_
        clear hK K
        refine gU (by kernel_rfl) ?_
        try go_wp2
        go_roundg k1
        case measure=>have:=dX.out;omega
        case rel=>exact ⟨(wrap64 (iq+1)),(Ww),(a2g),(by first|rfl|(simp;done)|(simp [*];done)),H',⟨by have:=dX.out;omega⟩,⟨by (with_reducible repeat (first|refine aq ?_ _|refine ak ?_|refine ai ?_ _));refine bM ?_ nR.out _;(with_reducible repeat (first|refine aq ?_ _|refine ak ?_|refine ai ?_ _));refine bM ?_ nR.out _;(with_reducible repeat (first|refine aq ?_ _|refine ak ?_|refine ai ?_ _));exact dM.out⟩,⟨by (with_reducible repeat (first|refine aq ?_ _|refine ak ?_|refine ai ?_ _));refine bh (cs:= #[.int .i64 Ww,.int .i64 eA]) ?_ 1 _ rfl;(with_reducible repeat (first|refine aq ?_ _|refine ak ?_|refine ai ?_ _));refine bh (cs:= #[.int .i64 eL,.int .i64 eA]) ?_ 0 _ rfl;(with_reducible repeat (first|refine aq ?_ _|refine ak ?_|refine ai ?_ _));exact eI.out⟩,⟨ay⟩⟩
       ·rw [if_neg c12] at H
        exact absurd H (by simp)
      ·rw [if_neg c11] at H
       exact absurd H (by simp)
     ·rw [if_neg c10] at H
      exact absurd H (by simp)
    ·rw [if_neg c9] at H
     exact absurd H (by simp)
   ·rw [if_neg c8] at H
    have qL:decide (iq<(eG.length:Int))=false:=decide_eq_false c8
    clear c8
    by_cases c18:bk=true
    ·subst c18
     have H1:((cr.f iU 1 eL eA).bind fun t218=>(some (!t218)))=some r:=by rw [if_pos rfl] at H;exact H
     clear H
     have H:=H1
     clear H1
     replace H:=Option.bind_eq_some_iff.mp H
     obtain ⟨t218,a9D,H⟩:=H
     replace H:(some (!t218))=some r:=H
     have A19:=Aside0.mk a9D
     clear a9D
     obtain rfl:=Option.some.inj H
     have b2Y:=nR.out
     have b2Z:=vT.out
     have zJ:wr.cell? ⟨gh,0,none⟩=some (.slice oD eG.length og):=(ag dM.out 0).trans rfl
     have zK:wr.cell? ⟨gh,1,none⟩=some (.bool true):=(ag dM.out 1).trans rfl
     have a6G:wr.cell? ⟨gh,2,none⟩=some (.int .i64 iU):=(ag dM.out 2).trans rfl
     have zL:=af dM.out 0
     have zM:=af dM.out 1
     have a6H:=af dM.out 2
     go_wp2_with (first|((with_reducible refine bn (N:=8) rfl ?_);refine bq ?hg (N:=8) ?hd (cs:= #[.int .i64 0,.int .i64 0]) (t:=34) ?hr ?_;(case hd=>rfl);(case hg=>rfl);(case hr=>first|(go_simp;done)|(go_simp;rfl));intro mC hg nh aU hb;have aA:=Aside0.mk (aj (g:=gh) (o:= .cells #[.slice oD eG.length og,.bool true,.int .i64 iU] 96 (0,0)) (aH dM) hb);have aC:=Aside0.mk (aj (g:=ja) (o:= .cells #[.int .i64 eL,.int .i64 eA] 34 (0,0)) (aH eI) hb);have aD:=Aside0.mk (ah ay hb);have aK:=Aside0.mk (aU);have bF:=Aside0.mk ((by rw [hg];exact (ax ay):w.heap.size<=mC));have bS:=Aside0.mk ((by rw [hg];exact (ax ay):w.heap.size<=mC));have bY:=Aside0.mk ((by rw [hg];exact Nat.ne_of_lt (bf (g:=gh) (o:= .cells #[.slice oD eG.length og,.bool true,.int .i64 iU] 96 (0,0)) (aH dM)):gh≠mC));have eX:=Aside0.mk ((by rw [hg];exact Nat.ne_of_gt (bf (g:=gh) (o:= .cells #[.slice oD eG.length og,.bool true,.int .i64 iU] 96 (0,0)) (aH dM)):mC≠gh));have fY:=Aside0.mk ((by rw [hg];exact Nat.ne_of_lt (bf (g:=ja) (o:= .cells #[.int .i64 eL,.int .i64 eA] 34 (0,0)) (aH eI)):ja≠mC));have gT:=Aside0.mk ((by rw [hg];exact Nat.ne_of_gt (bf (g:=ja) (o:= .cells #[.int .i64 eL,.int .i64 eA] 34 (0,0)) (aH eI)):mC≠ja));clear dM;clear eI;clear HB;have dM:=aA;have eI:=aC;have HB:=aD;have pO:=aK;have b3a:=bF;have b3b:=bS;have qM:=bY;have CP:=eX;have qN:=fY;have CQ:=gT;clear aA aC aD aK bF bS bY eX fY gT;clear hb aU hg;have hnb23:=CP.out;have hnc23:=qM.out;have a4L:=CQ.out;have a4M:=qN.out;have Eh:nh.cell? ⟨mC,0,none⟩=some (.int .i64 0):=(ag pO.out 0).trans rfl;have Ei:nh.cell? ⟨mC,1,none⟩=some (.int .i64 0):=(ag pO.out 1).trans rfl;have Ej:=af pO.out 0;have Ek:=af pO.out 1;have Ea:nh.cell? ⟨gh,0,none⟩=some (.slice oD eG.length og):=(ag dM.out 0).trans rfl;have Eb:nh.cell? ⟨gh,1,none⟩=some (.bool true):=(ag dM.out 1).trans rfl;have hcz26_2:nh.cell? ⟨gh,2,none⟩=some (.int .i64 iU):=(ag dM.out 2).trans rfl;have Ec:=af dM.out 0;have Ed:=af dM.out 1;have hfz26_2:=af dM.out 2;have TK:nh.cell? ⟨ja,0,none⟩=some (.int .i64 eL):=(ag eI.out 0).trans rfl;have TL:nh.cell? ⟨ja,1,none⟩=some (.int .i64 eA):=(ag eI.out 1).trans rfl;have TM:=af eI.out 0;have TN:=af eI.out 1)|((with_reducible refine aV (f:=51) rfl ?_);refine bH (some 31) rfl rfl Try.func51 (by kernel_rfl) rfl #[.agg #[.int .i64 iU,.int .i64 1],.agg #[.int .i64 eL,.int .i64 eA]] rfl (by (try simp only [List.map_toArray,List.map_cons,List.map_nil]);first|done|rfl|(simp only [List.length_drop,List.length_take];rfl)) ?_;(with_reducible refine (cr.calls iU 1 eL eA t218 _ A19.out).mono ?_);rintro e Yx ⟨rfl,hb⟩;refine ⟨_,rfl,?_⟩;have aA:=Aside0.mk (aj (g:=gh) (o:= .cells #[.slice oD eG.length og,.bool true,.int .i64 iU] 96 (0,0)) (by (with_reducible repeat (first|refine aq ?_ _|refine ak ?_|refine ai ?_ _));refine bM ?_ qM.out _;(with_reducible repeat (first|refine aq ?_ _|refine ak ?_|refine ai ?_ _));refine bM ?_ qM.out _;(with_reducible repeat (first|refine aq ?_ _|refine ak ?_|refine ai ?_ _));exact dM.out) hb);have aC:=Aside0.mk (aj (g:=ja) (o:= .cells #[.int .i64 eL,.int .i64 eA] 34 (0,0)) (by (with_reducible repeat (first|refine aq ?_ _|refine ak ?_|refine ai ?_ _));refine bM ?_ qN.out _;(with_reducible repeat (first|refine aq ?_ _|refine ak ?_|refine ai ?_ _));refine bM ?_ qN.out _;(with_reducible repeat (first|refine aq ?_ _|refine ak ?_|refine ai ?_ _));exact eI.out) hb);have aD:=Aside0.mk (aj (g:=mC) (o:= .cells #[.int .i64 iU,.int .i64 1] 34 (0,0)) (by (with_reducible repeat (first|refine aq ?_ _|refine ak ?_|refine ai ?_ _));refine bh (cs:= #[.int .i64 iU,.int .i64 0]) ?_ 1 _ rfl;(with_reducible repeat (first|refine aq ?_ _|refine ak ?_|refine ai ?_ _));refine bh (cs:= #[.int .i64 0,.int .i64 0]) ?_ 0 _ rfl;(with_reducible repeat (first|refine aq ?_ _|refine ak ?_|refine ai ?_ _));exact pO.out) hb);have aK:=Aside0.mk (ah ay hb);clear dM;clear eI;clear pO;clear HB;have dM:=aA;have eI:=aC;have pO:=aD;have HB:=aK;clear aA aC aD aK;(try clear hb);(try clear hb2);(try clear hk);(try clear hi)))
     go_ret
     exact ⟨by first|rfl|(simp [aX,aY]<;>rfl)|(simp [*,aX,aY]<;>rfl),ay⟩
    ·replace c18:=Bool.eq_false_iff.mpr c18
     subst c18
     have H1:((cr.f eL eA iU 1).bind fun Ln=>(some (!Ln)))=some r:=by rw [if_neg (show ¬(false=true) by decide)] at H;exact H
     clear H
     have H:=H1
     clear H1
     replace H:=Option.bind_eq_some_iff.mp H
     obtain ⟨Ln,a9E,H⟩:=H
     replace H:(some (!Ln))=some r:=H
     have A29:=Aside0.mk a9E
     clear a9E
     obtain rfl:=Option.some.inj H
     have b3c:=nR.out
     have b3d:=vT.out
     have a6I:wr.cell? ⟨gh,0,none⟩=some (.slice oD eG.length og):=(ag dM.out 0).trans rfl
     have a6J:wr.cell? ⟨gh,1,none⟩=some (.bool false):=(ag dM.out 1).trans rfl
     have a6K:wr.cell? ⟨gh,2,none⟩=some (.int .i64 iU):=(ag dM.out 2).trans rfl
     have a6L:=af dM.out 0
     have a6M:=af dM.out 1
     have a6N:=af dM.out 2
     go_wp2_with (first|((with_reducible refine bn (N:=8) rfl ?_);refine bq ?hg (N:=8) ?hd (cs:= #[.int .i64 0,.int .i64 0]) (t:=34) ?hr ?_;(case hd=>rfl);(case hg=>rfl);(case hr=>first|(go_simp;done)|(go_simp;rfl));intro mC hg Cz aU hb;have aA:=Aside0.mk (aj (g:=gh) (o:= .cells #[.slice oD eG.length og,.bool false,.int .i64 iU] 96 (0,0)) (aH dM) hb);have aC:=Aside0.mk (aj (g:=ja) (o:= .cells #[.int .i64 eL,.int .i64 eA] 34 (0,0)) (aH eI) hb);have aD:=Aside0.mk (ah ay hb);have aK:=Aside0.mk (aU);have bF:=Aside0.mk ((by rw [hg];exact (ax ay):w.heap.size<=mC));have bS:=Aside0.mk ((by rw [hg];exact (ax ay):w.heap.size<=mC));have bY:=Aside0.mk ((by rw [hg];exact Nat.ne_of_lt (bf (g:=gh) (o:= .cells #[.slice oD eG.length og,.bool false,.int .i64 iU] 96 (0,0)) (aH dM)):gh≠mC));have eX:=Aside0.mk ((by rw [hg];exact Nat.ne_of_gt (bf (g:=gh) (o:= .cells #[.slice oD eG.length og,.bool false,.int .i64 iU] 96 (0,0)) (aH dM)):mC≠gh));have fY:=Aside0.mk ((by rw [hg];exact Nat.ne_of_lt (bf (g:=ja) (o:= .cells #[.int .i64 eL,.int .i64 eA] 34 (0,0)) (aH eI)):ja≠mC));have gT:=Aside0.mk ((by rw [hg];exact Nat.ne_of_gt (bf (g:=ja) (o:= .cells #[.int .i64 eL,.int .i64 eA] 34 (0,0)) (aH eI)):mC≠ja));clear dM;clear eI;clear HB;have dM:=aA;have eI:=aC;have HB:=aD;have pO:=aK;have b3a:=bF;have b3b:=bS;have qM:=bY;have CP:=eX;have qN:=fY;have CQ:=gT;clear aA aC aD aK bF bS bY eX fY gT;clear hb aU hg;have hnb33:=CP.out;have hnc33:=qM.out;have b3e:=CQ.out;have b3f:=qN.out;have a6O:Cz.cell? ⟨mC,0,none⟩=some (.int .i64 0):=(ag pO.out 0).trans rfl;have a6P:Cz.cell? ⟨mC,1,none⟩=some (.int .i64 0):=(ag pO.out 1).trans rfl;have a6Q:=af pO.out 0;have a6R:=af pO.out 1;have a6S:Cz.cell? ⟨gh,0,none⟩=some (.slice oD eG.length og):=(ag dM.out 0).trans rfl;have a6T:Cz.cell? ⟨gh,1,none⟩=some (.bool false):=(ag dM.out 1).trans rfl;have hcz36_2:Cz.cell? ⟨gh,2,none⟩=some (.int .i64 iU):=(ag dM.out 2).trans rfl;have a6U:=af dM.out 0;have a6V:=af dM.out 1;have hfz36_2:=af dM.out 2;have Ur:Cz.cell? ⟨ja,0,none⟩=some (.int .i64 eL):=(ag eI.out 0).trans rfl;have Us:Cz.cell? ⟨ja,1,none⟩=some (.int .i64 eA):=(ag eI.out 1).trans rfl;have Ut:=af eI.out 0;have Uu:=af eI.out 1)|((with_reducible refine aV (f:=51) rfl ?_);refine bH (some 35) rfl rfl Try.func51 (by kernel_rfl) rfl #[.agg #[.int .i64 eL,.int .i64 eA],.agg #[.int .i64 iU,.int .i64 1]] rfl (by (try simp only [List.map_toArray,List.map_cons,List.map_nil]);first|done|rfl|(simp only [List.length_drop,List.length_take];rfl)) ?_;(with_reducible refine (cr.calls eL eA iU 1 Ln _ A29.out).mono ?_);rintro e QS ⟨rfl,hb⟩;refine ⟨_,rfl,?_⟩;have aA:=Aside0.mk (aj (g:=gh) (o:= .cells #[.slice oD eG.length og,.bool false,.int .i64 iU] 96 (0,0)) (by (with_reducible repeat (first|refine aq ?_ _|refine ak ?_|refine ai ?_ _));refine bM ?_ qM.out _;(with_reducible repeat (first|refine aq ?_ _|refine ak ?_|refine ai ?_ _));refine bM ?_ qM.out _;(with_reducible repeat (first|refine aq ?_ _|refine ak ?_|refine ai ?_ _));exact dM.out) hb);have aC:=Aside0.mk (aj (g:=ja) (o:= .cells #[.int .i64 eL,.int .i64 eA] 34 (0,0)) (by (with_reducible repeat (first|refine aq ?_ _|refine ak ?_|refine ai ?_ _));refine bM ?_ qN.out _;(with_reducible repeat (first|refine aq ?_ _|refine ak ?_|refine ai ?_ _));refine bM ?_ qN.out _;(with_reducible repeat (first|refine aq ?_ _|refine ak ?_|refine ai ?_ _));exact eI.out) hb);have aD:=Aside0.mk (aj (g:=mC) (o:= .cells #[.int .i64 iU,.int .i64 1] 34 (0,0)) (by (with_reducible repeat (first|refine aq ?_ _|refine ak ?_|refine ai ?_ _));refine bh (cs:= #[.int .i64 iU,.int .i64 0]) ?_ 1 _ rfl;(with_reducible repeat (first|refine aq ?_ _|refine ak ?_|refine ai ?_ _));refine bh (cs:= #[.int .i64 0,.int .i64 0]) ?_ 0 _ rfl;(with_reducible repeat (first|refine aq ?_ _|refine ak ?_|refine ai ?_ _));exact pO.out) hb);have aK:=Aside0.mk (ah ay hb);clear dM;clear eI;clear pO;clear HB;have dM:=aA;have eI:=aC;have pO:=aD;have HB:=aK;clear aA aC aD aK;(try clear hb);(try clear hb2);(try clear hk);(try clear hi)))
     go_ret
     exact ⟨by first|rfl|(simp [aX,aY]<;>rfl)|(simp [*,aX,aY]<;>rfl),ay⟩
def cg.l0:Nat->List (dm)->Int->Int->Int->Int->Option (Int×Int)
 |0,_,_,_,_,_=>none
 |k+1,x7,x8,x9,Uv,Uw=>if x9<x8 then (if 0<=x9 then (if x9<(x7.length:Int) then ((fZ.f k Uv Uw ((aZ x7 x9).f0) ((aZ x7 x9).f1)).bind fun a4N=>(cg.l0 k x7 x8 (wrap64 (x9+1)) a4N.1 a4N.2)) else (none)) else (none)) else (some (Uv,Uw))
def cg.f (k:Nat) (l0:List (dm)):Option (Int×Int):=cg.l0 k l0 (l0.length:Int) 0 0 1
theorem cg.cC:∀k,(∀y0 y1 y2 y3 y4,aR (cg.l0 k y0 y1 y2 y3 y4) (cg.l0 (k+1) y0 y1 y2 y3 y4))
 |0=>fun _ _ _ _ _ r h=>by simp [cg.l0] at h
 |k+1=>by
  have dN:=cg.cC k
  ·intro y0 y1 y2 y3 y4
   unfold cg.l0
   repeat' first
   |(with_reducible exact dN _ _ _ _ _)
   |(with_reducible exact fZ.mono _ _ _ _ _)
   |(with_reducible exact aR.refl _)
   |(with_reducible exact aR.none _)
   |(with_reducible refine aR.ite ?_ ?_)
   |(with_reducible refine aR.bind ?_ (fun _=>?_))
theorem cg.mono:∀a0 k,aR (cg.f k a0) (cg.f (k+1) a0):=by
 intro a0 k
 have dN:=cg.cC k
 unfold cg.f
 repeat' first
  |(with_reducible exact dN _ _ _ _ _)
  |(with_reducible exact fZ.mono _ _ _ _ _)
  |(with_reducible exact aR.refl _)
  |(with_reducible exact aR.none _)
  |(with_reducible refine aR.ite ?_ ?_)
  |(with_reducible refine aR.bind ?_ (fun _=>?_))
set_option maxHeartbeats 8000000 in
set_option maxRecDepth 100000 in
theorem cg.calls (k:Nat) (A0:Option Addr) (c0:Nat) (l0:List (dm)) (r1:Int) (r2:Int) (w:World) (fl:Kd.C gY w A0 l0.length l0) (hc0:l0.length<=c0) (h:cg.f k l0=some (r1,r2)):
 Calls Try.prog 69 #[.slice A0 l0.length c0] w fun e w'=>e= .returned (.agg #[.int .i64 r1,.int .i64 r2])/\Below w.heap.size w w':=by
 have lB:=Try.underlying34
 have eu:=Aside0.mk fl
 have kr:=Aside0.mk hc0
 clear fl hc0
 have HB:=Aside0.mk (Below.refl w.heap.size w)
 have H:(cg.l0 k l0 (l0.length:Int) 0 0 1)=some (r1,r2):=h
 clear h
 have H':=Aside0.mk H
 clear H
 go_enter Try.func69,Try.ntmps69
 go_wp2_with (first|((with_reducible refine bn (N:=2) rfl ?_);refine bq ?hg (N:=2) ?hd (cs:= #[.int .i64 0,.int .i64 0]) (t:=34) ?hr ?_;(case hd=>rfl);(case hg=>rfl);(case hr=>first|(go_simp;done)|(go_simp;rfl));intro nS hg w2 aU hb;have aA:=Aside0.mk (ah ay hb);have aC:=Aside0.mk (aU);have aD:=Aside0.mk ((by rw [hg];exact (ax ay):w.heap.size<=nS));have aK:=Aside0.mk ((by rw [hg];exact (ax ay):w.heap.size<=nS));clear HB;have HB:=aA;have lf:=aC;have GW144:=aD;have GE144:=aK;clear aA aC aD aK;clear hb aU hg)|((with_reducible refine bn (N:=3) rfl ?_);refine bq ?hg (N:=3) ?hd (cs:= #[.int .i64 0,.int .i64 0]) (t:=34) ?hr ?_;(case hd=>rfl);(case hg=>rfl);(case hr=>first|(go_simp;done)|(go_simp;rfl));intro mD hg w3 aU hb;have aA:=Aside0.mk (aj (g:=nS) (o:= .cells #[.int .i64 0,.int .i64 0] 34 (0,0)) (aH lf) hb);have aC:=Aside0.mk (ah ay hb);have aD:=Aside0.mk (aU);have aK:=Aside0.mk ((by rw [hg];exact (ax ay):w.heap.size<=mD));have bF:=Aside0.mk ((by rw [hg];exact (ax ay):w.heap.size<=mD));have bS:=Aside0.mk ((by rw [hg];exact Nat.ne_of_lt (bf (g:=nS) (o:= .cells #[.int .i64 0,.int .i64 0] 34 (0,0)) (aH lf)):nS≠mD));have bY:=Aside0.mk ((by rw [hg];exact Nat.ne_of_gt (bf (g:=nS) (o:= .cells #[.int .i64 0,.int .i64 0] 34 (0,0)) (aH lf)):mD≠nS));clear lf;clear HB;have lf:=aA;have HB:=aC;have jn:=aD;have GW145:=aK;have GE145:=bF;have qO:=bS;have CR:=bY;clear aA aC aD aK bF bS bY;clear hb aU hg;have b7f:=CR.out;have b7g:=qO.out;have Iw:w3.cell? ⟨mD,0,none⟩=some (.int .i64 0):=(ag jn.out 0).trans rfl;have Ix:w3.cell? ⟨mD,1,none⟩=some (.int .i64 0):=(ag jn.out 1).trans rfl;have Iy:=af jn.out 0;have Iz:=af jn.out 1))
 go_loopg [9] k (fun kq v9 w'=>∃(bE:Int) (je:Int) (jf:Int),v9= .int .i64 bE/\Aside0 (cg.l0 kq l0 (l0.length:Int) bE je jf=some (r1,r2))/\Aside0 (kq<=k)/\Aside0 (w'.heap[nS]? =some (.cells #[.int .i64 0,.int .i64 0] 34 (0,0)))/\Aside0 (w'.heap[mD]? =some (.cells #[.int .i64 je,.int .i64 jf] 34 (0,0)))/\Aside0 (Below w.heap.size w w'))
 case atStart=>exact ⟨(0),(0),(1),(by first|rfl|(simp;done)|(simp [*];done)),H',⟨Nat.le_refl _⟩,⟨by (with_reducible repeat (first|refine aq ?_ _|refine ak ?_|refine ai ?_ _));refine bM ?_ qO.out _;(with_reducible repeat (first|refine aq ?_ _|refine ak ?_|refine ai ?_ _));refine bM ?_ qO.out _;(with_reducible repeat (first|refine aq ?_ _|refine ak ?_|refine ai ?_ _));exact lf.out⟩,⟨by (with_reducible repeat (first|refine aq ?_ _|refine ak ?_|refine ai ?_ _));refine bh (cs:= #[.int .i64 0,.int .i64 0]) ?_ 1 _ rfl;(with_reducible repeat (first|refine aq ?_ _|refine ak ?_|refine ai ?_ _));refine bh (cs:= #[.int .i64 0,.int .i64 0]) ?_ 0 _ rfl;(with_reducible repeat (first|refine aq ?_ _|refine ak ?_|refine ai ?_ _));exact jn.out⟩,⟨ay⟩⟩
 case round=>
  clear H'
  try clear p2
  try clear c4
  try clear Iw
  try clear Ix
  try clear Iy
  try clear Iz
  obtain ⟨bE,je,jf,rfl,HA,dX,lf,jn,HB⟩:=hrel
  cases gk with
  |zero=>exact absurd HA.out (by simp [cg.l0])
  |succ k1=>
   have H:=HA.out
   clear HA
   simp only [cg.l0] at H
   by_cases c6:bE<(l0.length:Int)
   ·rw [if_pos c6] at H
    have oc:decide (bE<(l0.length:Int))=true:=decide_eq_true c6
    clear c6
    by_cases c7:0<=bE
    ·rw [if_pos c7] at H
     have tH:decide (0<=bE)=true:=decide_eq_true c7
     clear c7
     by_cases c8:bE<(l0.length:Int)
     ·rw [if_pos c8] at H
      have qL:decide (bE<(l0.length:Int))=true:=decide_eq_true c8
      clear c8
      replace H:=Option.bind_eq_some_iff.mp H
      obtain ⟨⟨t148,a2l⟩,Zy,H⟩:=H
      replace H:(cg.l0 k1 l0 (l0.length:Int) (wrap64 (bE+1)) t148 a2l)=some (r1,r2):=H
      have A9:=Aside0.mk Zy
      clear Zy
      have H':=Aside0.mk H
      clear H
      have a2m:0<=(bE:Int):=of_decide_eq_true (by first|(with_reducible assumption)|assumption)
      have a2n:bE<(l0.length:Int):=of_decide_eq_true (by first|(with_reducible assumption)|assumption)
      obtain ⟨ad146,b7h,Lr,Ls⟩:=kj eu.out bE a2m a2n
      cases b7h
      replace Lr:=(HB.out.cell (World.block_lt_of_cell? w _ Lr)).trans Lr
      replace Ls:=(HB.out.cell (World.block_lt_of_cell? w _ Ls)).trans Ls
      replace a2m:=eq_true a2m
      replace a2n:=eq_true a2n
      go_wp2_with (first|((with_reducible refine bn (N:=5) rfl ?_);refine bq ?hg (N:=5) ?hd (cs:= #[.int .i64 0,.int .i64 0]) (t:=34) ?hr ?_;(case hd=>rfl);(case hg=>rfl);(case hr=>first|(go_simp;done)|(go_simp;rfl));intro xo hg mU aU hb;have aA:=Aside0.mk (aj (g:=nS) (o:= .cells #[.int .i64 0,.int .i64 0] 34 (0,0)) (aH lf) hb);have aC:=Aside0.mk (aj (g:=mD) (o:= .cells #[.int .i64 je,.int .i64 jf] 34 (0,0)) (aH jn) hb);have aD:=Aside0.mk (ah ay hb);have aK:=Aside0.mk (aU);have bF:=Aside0.mk ((by rw [hg];exact (ax ay):w.heap.size<=xo));have bS:=Aside0.mk ((by rw [hg];exact (ax ay):w.heap.size<=xo));have bY:=Aside0.mk ((by rw [hg];exact Nat.ne_of_lt (bf (g:=nS) (o:= .cells #[.int .i64 0,.int .i64 0] 34 (0,0)) (aH lf)):nS≠xo));have eX:=Aside0.mk ((by rw [hg];exact Nat.ne_of_gt (bf (g:=nS) (o:= .cells #[.int .i64 0,.int .i64 0] 34 (0,0)) (aH lf)):xo≠nS));have fY:=Aside0.mk ((by rw [hg];exact Nat.ne_of_lt (bf (g:=mD) (o:= .cells #[.int .i64 je,.int .i64 jf] 34 (0,0)) (aH jn)):mD≠xo));have gT:=Aside0.mk ((by rw [hg];exact Nat.ne_of_gt (bf (g:=mD) (o:= .cells #[.int .i64 je,.int .i64 jf] 34 (0,0)) (aH jn)):xo≠mD));clear lf;clear jn;clear HB;have lf:=aA;have jn:=aC;have HB:=aD;have Bh:=aK;have GW147:=bF;have GE147:=bS;have CT:=bY;have Zz:=eX;have CU:=fY;have ZA:=gT;clear aA aC aD aK bF bS bY eX fY gT;clear hb aU hg;have Wf:=Zz.out;have Wh:=CT.out;have Wi:=ZA.out;have Wj:=CU.out;have pZ:mU.cell? ⟨xo,0,none⟩=some (.int .i64 0):=(ag Bh.out 0).trans rfl;have qa:mU.cell? ⟨xo,1,none⟩=some (.int .i64 0):=(ag Bh.out 1).trans rfl;have qb:=af Bh.out 0;have qc:=af Bh.out 1;have b2E:=CR.out;have b2F:=qO.out;have KL:mU.cell? ⟨mD,0,none⟩=some (.int .i64 je):=(ag jn.out 0).trans rfl;have KM:mU.cell? ⟨mD,1,none⟩=some (.int .i64 jf):=(ag jn.out 1).trans rfl;have KN:=af jn.out 0;have KO:=af jn.out 1)|((with_reducible refine aV (f:=83) rfl ?_);refine bH (some 15) rfl rfl Try.func83 (by kernel_rfl) rfl #[.agg #[.int .i64 je,.int .i64 jf],.agg #[.int .i64 ((aZ l0 bE).f0),.int .i64 ((aZ l0 bE).f1)]] rfl (by (try simp only [List.map_toArray,List.map_cons,List.map_nil]);first|done|rfl|(simp only [List.length_drop,List.length_take];rfl)) ?_;(with_reducible refine (fZ.calls k1 je jf ((aZ l0 bE).f0) ((aZ l0 bE).f1) t148 a2l _ A9.out).mono ?_);rintro e xL ⟨rfl,hb⟩;refine ⟨_,rfl,?_⟩;have aA:=Aside0.mk (aj (g:=nS) (o:= .cells #[.int .i64 0,.int .i64 0] 34 (0,0)) (by (with_reducible repeat (first|refine aq ?_ _|refine ak ?_|refine ai ?_ _));refine bM ?_ CT.out _;(with_reducible repeat (first|refine aq ?_ _|refine ak ?_|refine ai ?_ _));refine bM ?_ CT.out _;(with_reducible repeat (first|refine aq ?_ _|refine ak ?_|refine ai ?_ _));exact lf.out) hb);have aC:=Aside0.mk (aj (g:=mD) (o:= .cells #[.int .i64 je,.int .i64 jf] 34 (0,0)) (by (with_reducible repeat (first|refine aq ?_ _|refine ak ?_|refine ai ?_ _));refine bM ?_ CU.out _;(with_reducible repeat (first|refine aq ?_ _|refine ak ?_|refine ai ?_ _));refine bM ?_ CU.out _;(with_reducible repeat (first|refine aq ?_ _|refine ak ?_|refine ai ?_ _));exact jn.out) hb);have aD:=Aside0.mk (aj (g:=xo) (o:= .cells #[.int .i64 ((aZ l0 bE).f0),.int .i64 ((aZ l0 bE).f1)] 34 (0,0)) (by (with_reducible repeat (first|refine aq ?_ _|refine ak ?_|refine ai ?_ _));refine bh (cs:= #[.int .i64 ((aZ l0 bE).f0),.int .i64 0]) ?_ 1 _ rfl;(with_reducible repeat (first|refine aq ?_ _|refine ak ?_|refine ai ?_ _));refine bh (cs:= #[.int .i64 0,.int .i64 0]) ?_ 0 _ rfl;(with_reducible repeat (first|refine aq ?_ _|refine ak ?_|refine ai ?_ _));exact Bh.out) hb);have aK:=Aside0.mk (ah ay hb);clear lf;clear jn;clear Bh;clear HB;have lf:=aA;have jn:=aC;have Bh:=aD;have HB:=aK;clear aA aC aD aK;(try clear hb);(try clear hb2);(try clear hk);(try clear hi);have KP:xL.cell? ⟨mD,0,none⟩=some (.int .i64 je):=(ag jn.out 0).trans rfl;have KQ:xL.cell? ⟨mD,1,none⟩=some (.int .i64 jf):=(ag jn.out 1).trans rfl;have KR:=af jn.out 0;have KS:=af jn.out 1))
      go_roundg k1
      case measure=>have:=dX.out;omega
      case rel=>exact ⟨(wrap64 (bE+1)),(t148),(a2l),(by first|rfl|(simp;done)|(simp [*];done)),H',⟨by have:=dX.out;omega⟩,⟨by (with_reducible repeat (first|refine aq ?_ _|refine ak ?_|refine ai ?_ _));refine bM ?_ qO.out _;(with_reducible repeat (first|refine aq ?_ _|refine ak ?_|refine ai ?_ _));refine bM ?_ qO.out _;(with_reducible repeat (first|refine aq ?_ _|refine ak ?_|refine ai ?_ _));exact lf.out⟩,⟨by (with_reducible repeat (first|refine aq ?_ _|refine ak ?_|refine ai ?_ _));refine bh (cs:= #[.int .i64 t148,.int .i64 jf]) ?_ 1 _ rfl;(with_reducible repeat (first|refine aq ?_ _|refine ak ?_|refine ai ?_ _));refine bh (cs:= #[.int .i64 je,.int .i64 jf]) ?_ 0 _ rfl;(with_reducible repeat (first|refine aq ?_ _|refine ak ?_|refine ai ?_ _));exact jn.out⟩,⟨ay⟩⟩
     ·rw [if_neg c8] at H
      exact absurd H (by simp)
    ·rw [if_neg c7] at H
     exact absurd H (by simp)
   ·rw [if_neg c6] at H
    have oc:decide (bE<(l0.length:Int))=false:=decide_eq_false c6
    clear c6
    simp only [Option.some.injEq,Prod.mk.injEq] at H
    obtain ⟨rfl,rfl⟩:=H
    have b3g:=CR.out
    have b3h:=qO.out
    have Lc:wr.cell? ⟨mD,0,none⟩=some (.int .i64 je):=(ag jn.out 0).trans rfl
    have Ld:wr.cell? ⟨mD,1,none⟩=some (.int .i64 jf):=(ag jn.out 1).trans rfl
    have Le:=af jn.out 0
    have Lf:=af jn.out 1
    have Lt:wr.cell? ⟨nS,0,none⟩=some (.int .i64 0):=(ag lf.out 0).trans rfl
    have Lu:wr.cell? ⟨nS,1,none⟩=some (.int .i64 0):=(ag lf.out 1).trans rfl
    have Lv:=af lf.out 0
    have Lx:=af lf.out 1
    go_wp2
    refine bodyPost_ret (results_cell_row rfl _ _ nS 34 #[.int .i64 je,.int .i64 jf] (0,0) _ rfl (by (with_reducible repeat (first|refine aq ?_ _|refine ak ?_|refine ai ?_ _));refine bh (cs:= #[.int .i64 je,.int .i64 0]) ?_ 1 _ rfl;(with_reducible repeat (first|refine aq ?_ _|refine ak ?_|refine ai ?_ _));refine bh (cs:= #[.int .i64 0,.int .i64 0]) ?_ 0 _ rfl;(with_reducible repeat (first|refine aq ?_ _|refine ak ?_|refine ai ?_ _));exact lf.out) Try.underlying34 rfl (by kernel_rfl)) rfl ?_
    exact ⟨by first|rfl|(simp [aX,aY]<;>rfl)|(simp [*,aX,aY]<;>rfl),ay⟩
end Go.Proofs.Ytkckdphjhlbdcaa.P
