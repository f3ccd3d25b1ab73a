/-
  Part 4 of the proof of this: The law FnCover answers true at every argument.
-/
import Derived.Test.YtnhknojfpjheoaaKCover2
import Derived.Test.YtnhknojfpjheoaaProg
set_option linter.unusedVariables false
set_option linter.unusedSimpArgs false
namespace Go.Proofs.Ytnhknojfpjheoaa.Lp
def S:Nat->(Nat->Rat)->Rat
 |0,_=>0
 |n+1,f=>S n f+f n
theorem dD {n:Nat} {f g:Nat->Rat} (h:∀j,j<n->f j=g j):S n f=S n g:=by
 induction n with
 |zero=>rfl
 |succ n ih=>simp only [S];rw [ih (fun j hj=>h j (by omega)),h n (by omega)]
theorem xF (n:Nat) (f g:Nat->Rat):S n (fun j=>f j+g j)=S n f+S n g:=by
 induction n with
 |zero=>simp only [S];grind
 |succ n ih=>simp only [S,ih];grind
theorem UB (n:Nat) (f g:Nat->Rat):S n (fun j=>f j - g j)=S n f - S n g:=by
 induction n with
 |zero=>simp only [S];grind
 |succ n ih=>simp only [S,ih];grind
theorem nv (n:Nat) (a:Rat) (f:Nat->Rat):S n (fun j=>a*f j)=a*S n f:=by
 induction n with
 |zero=>simp only [S];grind
 |succ n ih=>simp only [S,ih];grind
theorem WQ (n:Nat):S n (fun _=>0)=0:=by
 induction n with
 |zero=>rfl
 |succ n ih=>simp only [S,ih];grind
theorem ig {n:Nat} {f:Nat->Rat} (h:∀j,j<n->f j=0):S n f=0:=by
 rw [dD h];exact WQ n
theorem ot {n:Nat} {f:Nat->Rat} (h:∀j,j<n->0<=f j):0<=S n f:=by
 induction n with
 |zero=>simp only [S];grind
 |succ n ih=>
  have h1:=ih (fun j hj=>h j (by omega))
  have h2:=h n (by omega)
  simp only [S];grind
theorem fF {n:Nat} {k:Nat} (hk:k<n) (f:Nat->Rat):S n (fun j=>if j=k then f j else 0)=f k:=by
 induction n with
 |zero=>omega
 |succ n ih=>
  simp only [S]
  by_cases h:n=k
  ·subst h
   rw [if_pos rfl,ig (fun j hj=>if_neg (by omega))];grind
  ·rw [if_neg h,ih (by omega)];grind
theorem BU (m n:Nat) (f:Nat->Nat->Rat):S m (fun i=>S n (fun j=>f i j))=S n (fun j=>S m (fun i=>f i j)):=by
 induction m with
 |zero=>simp only [S];exact (WQ n).symm
 |succ m ih=>simp only [S];rw [ih,<-xF]
theorem tB {n k:Nat} (hk:k<n) {f:Nat->Rat} (h:∀j,j<n->0<=f j):f k<=S n f:=by
 induction n with
 |zero=>omega
 |succ n ih=>
  have h2:=h n (by omega)
  have h3:0<=S n f:=ot (fun j hj=>h j (by omega))
  simp only [S]
  by_cases e:k=n
  ·subst e;grind
  ·have:=ih (by omega) (fun j hj=>h j (by omega));grind
theorem zn {n m:Nat} (f:Nat->Rat):S (n+m) f=S n f+S m (fun i=>f (n+i)):=by
 induction m with
 |zero=>simp only [S,Nat.add_zero];grind
 |succ m ih=>
  show S (n+m) f+f (n+m)=S n f+(S m (fun i=>f (n+i))+f (n+m))
  rw [ih];grind
structure bw where
 cell:Nat->Nat->Rat
 basis:Nat->Nat
def bw.pivot (t:bw) (r c:Nat):bw where
 cell i j:=if i=r then t.cell r j/t.cell r c else t.cell i j - t.cell i c*(t.cell r j/t.cell r c)
 basis i:=if i=r then c else t.basis i
def bw.F (t:bw) (N:Nat) (h:Rat) (x:Nat->Rat) (i:Nat):Rat:=S N (fun j=>t.cell i j*x j)- t.cell i N*h
theorem Ma (t:bw) (N:Nat) (h:Rat) (x:Nat->Rat) (r c:Nat):(t.pivot r c).F N h x r=t.F N h x r/t.cell r c:=by
 unfold bw.F bw.pivot
 simp only [if_true]
 have:S N (fun j=>t.cell r j/t.cell r c*x j)=(1/t.cell r c)*S N (fun j=>t.cell r j*x j):=by
  rw [<-nv];exact dD (fun j _=>by grind)
 rw [this];grind
theorem BV (t:bw) (N:Nat) (h:Rat) (x:Nat->Rat) {r i:Nat} (hi:i≠r) (c:Nat):(t.pivot r c).F N h x i=t.F N h x i - t.cell i c*(t.F N h x r/t.cell r c):=by
 unfold bw.F bw.pivot
 simp only [if_neg hi]
 have:S N (fun j=>(t.cell i j - t.cell i c*(t.cell r j/t.cell r c))*x j)=S N (fun j=>t.cell i j*x j)-(t.cell i c/t.cell r c)*S N (fun j=>t.cell r j*x j):=by
  rw [<-nv,<-UB];exact dD (fun j _=>by grind)
 rw [this];grind
structure Valid (m N K:Nat) (t0 t:bw):Prop where
 lt:∀r,r<m->t.basis r<N
 unit:∀r,r<m->∀i,i<m+K->t.cell i (t.basis r)=if i=r then 1 else 0
 sN:∀h x,(∀i,i<m->t0.F N h x i=0)↔(∀i,i<m->t.F N h x i=0)
 cost:∀h x,(∀i,i<m->t.F N h x i=0)->∀k,k<K->t.F N h x (m+k)=t0.F N h x (m+k)
theorem Valid.pivot {m N K:Nat} {t0 t:bw} (v:Valid m N K t0 t) {r c:Nat} (hr:r<m) (hc:c<N) (hp:t.cell r c≠0):Valid m N K t0 (t.pivot r c):=by
 have key:∀h x,(∀i,i<m->t.F N h x i=0)↔(∀i,i<m->(t.pivot r c).F N h x i=0):=by
  intro h x
  constructor
  ·intro H i hi
   by_cases e:i=r
   ·subst e;rw [Ma,H i hi];grind
   ·rw [BV _ _ _ _ e,H i hi,H r hr];grind
  ·intro H i hi
   have hrr:t.F N h x r=0:=by
    have:=H r hr;rw [Ma] at this
    have h2:t.F N h x r=(t.F N h x r/t.cell r c)*t.cell r c:=by grind
    rw [h2,this];grind
   by_cases e:i=r
   ·subst e;exact hrr
   ·have:=H i hi;rw [BV _ _ _ _ e,hrr] at this;grind
 refine ⟨?_,?_,?_,?_⟩
 ·intro i hi;show (if i=r then c else t.basis i)<N
  split
  ·exact hc
  ·exact v.lt i hi
 ·intro r' hr' i hi
  simp only [bw.pivot]
  by_cases e:r'=r
  ·subst e
   simp only [if_true]
   by_cases e2:i=r'
   ·subst e2;simp only [if_true];grind
   ·simp only [if_neg e2];grind
  ·simp only [if_neg e]
   have h1:=v.unit r' hr' r (by omega)
   rw [if_neg (fun h=>e h.symm)] at h1
   rw [h1]
   have h2:=v.unit r' hr' i hi
   rw [h2]
   by_cases e2:i=r
   ·subst e2;rw [if_pos rfl,if_neg (fun h=>e h.symm)];grind
   ·rw [if_neg e2];grind
 ·intro h x;exact (v.sN h x).trans (key h x)
 ·intro h x H k hk
  have H':=(key h x).2 H
  rw [BV _ _ _ _ (by omega),H' r hr,<-v.cost h x H' k hk];grind
def bw.X (t:bw) (m N:Nat) (j:Nat):Rat:=S m (fun r=>if t.basis r=j then t.cell r N else 0)
theorem a3D {m N:Nat} {t:bw} (hB:∀r,r<m->t.basis r<N) (g:Nat->Rat):S N (fun j=>g j*t.X m N j)=S m (fun r=>g (t.basis r)*t.cell r N):=by
 unfold bw.X
 have:S N (fun j=>g j*S m (fun r=>if t.basis r=j then t.cell r N else 0))=S N (fun j=>S m (fun r=>g j*(if t.basis r=j then t.cell r N else 0))):=
  dD (fun j _=>(nv m (g j) _).symm)
 rw [this,BU]
 refine dD (fun r hr=>?_)
 have:S N (fun j=>g j*(if t.basis r=j then t.cell r N else 0))=S N (fun j=>if j=t.basis r then g j*t.cell r N else 0):=by
  refine dD (fun j _=>?_)
  by_cases e:t.basis r=j
  ·rw [if_pos e,if_pos e.symm]
  ·rw [if_neg e,if_neg (fun h=>e h.symm)];grind
 rw [this,fF (hB r hr) (fun j=>g j*t.cell r N)]
theorem Valid.Mb {m N K:Nat} {t0 t:bw} (v:Valid m N K t0 t) {i:Nat} (hi:i<m):t.F N 1 (t.X m N) i=0:=by
 unfold bw.F
 rw [a3D v.lt]
 have:S m (fun r=>t.cell i (t.basis r)*t.cell r N)=S m (fun r=>if r=i then t.cell r N else 0):=by
  refine dD (fun r hr=>?_)
  rw [v.unit r hr i (by omega)]
  by_cases e:i=r
  ·rw [if_pos e,if_pos e.symm];grind
  ·rw [if_neg e,if_neg (fun h=>e h.symm)];grind
 rw [this,fF hi (fun r=>t.cell r N)];grind
theorem Valid.FD {m N K:Nat} {t0 t:bw} (v:Valid m N K t0 t) {k:Nat} (hk:k<K):t.F N 1 (t.X m N) (m+k)= - t.cell (m+k) N:=by
 unfold bw.F
 rw [a3D v.lt,ig]
 ·grind
 ·intro r hr
  rw [v.unit r hr (m+k) (by omega),if_neg (by omega)];grind
theorem Valid.inj {m N K:Nat} {t0 t:bw} (v:Valid m N K t0 t) {r r':Nat} (hr:r<m) (hr':r'<m) (h:t.basis r=t.basis r'):r=r':=by
 have h1:=v.unit r hr r (by omega)
 have h2:=v.unit r' hr' r (by omega)
 rw [if_pos rfl] at h1
 rw [h] at h1
 rw [h1] at h2
 by_cases e:r=r'
 ·exact e
 ·rw [if_neg e] at h2;grind
theorem Aw {m N K:Nat} {t0 t:bw} (v:Valid m N K t0 t) {r:Nat} (hr:r<m):t.X m N (t.basis r)=t.cell r N:=by
 unfold bw.X
 rw [<-fF hr (fun r=>t.cell r N)]
 refine dD (fun r' hr'=>?_)
 by_cases e:r'=r
 ·subst e;simp
 ·rw [if_neg (fun h=>e (v.inj hr' hr h)),if_neg e]
theorem xG {m N:Nat} {t:bw} {j:Nat} (h:∀r,r<m->t.basis r≠j):t.X m N j=0:=
 ig (fun r hr=>if_neg (h r hr))
theorem a0Q {m N K:Nat} {t0 t:bw} (v:Valid m N K t0 t) (g y:Nat->Rat) (hy:∀j,j<N->(∀r,r<m->t.basis r≠j)->y j=0):
 S N (fun j=>g j*y j)=S m (fun r=>g (t.basis r)*y (t.basis r)):=by
 have:S N (fun j=>g j*y j)=S N (fun j=>S m (fun r=>if t.basis r=j then g j*y j else 0)):=by
  refine dD (fun j hj=>?_)
  by_cases e:∃r,r<m/\t.basis r=j
  ·obtain ⟨r,hr,rfl⟩:=e
   have:S m (fun r'=>if t.basis r'=t.basis r then g (t.basis r)*y (t.basis r) else 0)=S m (fun r'=>if r'=r then g (t.basis r)*y (t.basis r) else 0):=by
    refine dD (fun r' hr'=>?_)
    by_cases e:r'=r
    ·subst e;rw [if_pos rfl,if_pos rfl]
    ·rw [if_neg (fun h=>e (v.inj hr' hr h)),if_neg e]
   rw [this,fF hr (fun _=>g (t.basis r)*y (t.basis r))]
  ·rw [hy j hj (fun r hr h=>e ⟨r,hr,h⟩),ig (fun r _=>by split<;>grind)];grind
 rw [this,BU]
 refine dD (fun r hr=>?_)
 have:S N (fun j=>if t.basis r=j then g j*y j else 0)=S N (fun j=>if j=t.basis r then g j*y j else 0):=by
  refine dD (fun j _=>?_)
  by_cases e:t.basis r=j
  ·rw [if_pos e,if_pos e.symm]
  ·rw [if_neg e,if_neg (fun h=>e h.symm)]
 rw [this,fF (v.lt r hr) (fun j=>g j*y j)]
theorem yf {m N K:Nat} {t0 t:bw} (v:Valid m N K t0 t) {h:Rat} {y:Nat->Rat} (hy:∀j,j<N->(∀r,r<m->t.basis r≠j)->y j=0)
 (hs:∀i,i<m->t.F N h y i=0) {r:Nat} (hr:r<m):y (t.basis r)=t.cell r N*h:=by
 have h1:=hs r hr
 unfold bw.F at h1
 rw [a0Q v _ _ hy] at h1
 have:S m (fun r'=>t.cell r (t.basis r')*y (t.basis r'))=S m (fun r'=>if r'=r then y (t.basis r') else 0):=by
  refine dD (fun r' hr'=>?_)
  rw [v.unit r' hr' r (by omega)]
  by_cases e:r=r'
  ·rw [if_pos e,if_pos e.symm];grind
  ·rw [if_neg e,if_neg (fun h=>e h.symm)];grind
 rw [this,fF hr (fun r'=>y (t.basis r'))] at h1
 grind
theorem b7v {m N K:Nat} {t0 t t':bw} (v:Valid m N K t0 t) (v':Valid m N K t0 t') (hb:∀j,(∃r,r<m/\t'.basis r=j)->∃r,r<m/\t.basis r=j):
 ∀j,j<N->t.X m N j=t'.X m N j:=by
 have hs:∀i,i<m->t.F N 1 (t'.X m N) i=0:=(v.sN 1 _).1 ((v'.sN 1 _).2 (fun i hi=>v'.Mb hi))
 have hy:∀j,j<N->(∀r,r<m->t.basis r≠j)->t'.X m N j=0:=fun j _ h=>xG (fun r hr e=>by
  obtain ⟨r',hr',e'⟩:=hb j ⟨r,hr,e⟩
  exact h r' hr' e')
 intro j hj
 by_cases e:∃r,r<m/\t.basis r=j
 ·obtain ⟨r,hr,rfl⟩:=e
  rw [Aw v hr,yf v hy hs hr];grind
 ·rw [xG (fun r hr h=>e ⟨r,hr,h⟩),hy j hj (fun r hr h=>e ⟨r,hr,h⟩)]
def bw.obj (t:bw) (m N:Nat) (k:Nat):Rat:= - t.cell (m+k) N
theorem Ay {m N K:Nat} {t0 t:bw} (v:Valid m N K t0 t) {k:Nat} (hk:k<K):t.obj m N k=t0.F N 1 (t.X m N) (m+k):=by
 rw [<-v.cost 1 _ (fun i hi=>v.Mb hi) k hk,v.FD hk];rfl
theorem a8X {m N K:Nat} {t0 t t':bw} (v:Valid m N K t0 t) (v':Valid m N K t0 t') (hb:∀j,(∃r,r<m/\t'.basis r=j)->∃r,r<m/\t.basis r=j)
 {k:Nat} (hk:k<K):t.obj m N k=t'.obj m N k:=by
 rw [Ay v hk,Ay v' hk]
 unfold bw.F
 rw [dD (fun j hj=>by rw [b7v v v' hb j hj])]
def eW (K:Nat) (u:Nat->Rat):Prop:=∃k,k<K/\(∀i,i<k->u i=0)/\u k<0
def nh (K:Nat) (u:Nat->Rat):Prop:=∃k,k<K/\(∀i,i<k->u i=0)/\0<u k
def DA (K:Nat) (u:Nat->Rat):Prop:=∀k,k<K->u k=0
theorem b3o (K:Nat) (u:Nat->Rat):eW K u∨DA K u∨nh K u:=by
 induction K with
 |zero=>right;left;intro k hk;omega
 |succ K ih=>
  rcases ih with ⟨k,hk,h1,h2⟩|h|⟨k,hk,h1,h2⟩
  ·exact .inl ⟨k,by omega,h1,h2⟩
  ·by_cases e:u K<0
   ·exact .inl ⟨K,by omega,h,e⟩
   ·by_cases e2:0<u K
    ·exact .inr (.inr ⟨K,by omega,h,e2⟩)
    ·refine .inr (.inl (fun k hk=>?_))
     by_cases e3:k=K
     ·subst e3;grind
     ·exact h k (by omega)
  ·exact .inr (.inr ⟨k,by omega,h1,h2⟩)
theorem Ep {K:Nat} {u:Nat->Rat} (h1:eW K u) (h2:nh K u):False:=by
 obtain ⟨k,_,a,b⟩:=h1
 obtain ⟨k',_,a',b'⟩:=h2
 rcases Nat.lt_trichotomy k k' with h|h|h
 ·have:=a' k h;grind
 ·subst h;grind
 ·have:=a k' h;grind
theorem wQ {K:Nat} {u:Nat->Rat} (h1:DA K u) (h2:nh K u):False:=by
 obtain ⟨k',hk,a',b'⟩:=h2
 have:=h1 k' hk;grind
theorem wR {K:Nat} {u:Nat->Rat} (h1:DA K u) (h2:eW K u):False:=by
 obtain ⟨k',hk,a',b'⟩:=h2
 have:=h1 k' hk;grind
theorem gY {K:Nat} {u:Nat->Rat}:¬eW K u↔DA K u∨nh K u:=
 ⟨fun h=>(b3o K u).resolve_left h,fun h h'=>h.elim (fun z=>wR z h') (fun p=>Ep h' p)⟩
theorem nh.congr {K:Nat} {u v:Nat->Rat} (h:nh K u) (e:∀k,k<K->u k=v k):nh K v:=by
 obtain ⟨k,hk,a,b⟩:=h
 exact ⟨k,hk,fun i hi=>(e i (by omega)) ▸ a i hi,(e k hk) ▸ b⟩
theorem eW.congr {K:Nat} {u v:Nat->Rat} (h:eW K u) (e:∀k,k<K->u k=v k):eW K v:=by
 obtain ⟨k,hk,a,b⟩:=h
 exact ⟨k,hk,fun i hi=>(e i (by omega)) ▸ a i hi,(e k hk) ▸ b⟩
theorem NN.congr {K:Nat} {u v:Nat->Rat} (h:¬eW K u) (e:∀k,k<K->u k=v k):¬eW K v:=fun h'=>h (h'.congr (fun k hk=>(e k hk).symm))
theorem eW.neg {K:Nat} {u:Nat->Rat} (h:eW K u):nh K (fun k=> - u k):=by
 obtain ⟨k,hk,a,b⟩:=h
 exact ⟨k,hk,fun i hi=>by have:=a i hi;grind,by grind⟩
theorem nh.neg {K:Nat} {u:Nat->Rat} (h:nh K u):eW K (fun k=> - u k):=by
 obtain ⟨k,hk,a,b⟩:=h
 exact ⟨k,hk,fun i hi=>by have:=a i hi;grind,by grind⟩
theorem nh.add {K:Nat} {u v:Nat->Rat} (h:nh K u) (h':¬eW K v):nh K (fun k=>u k+v k):=by
 obtain ⟨k,hk,a,b⟩:=h
 rcases gY.1 h' with z|⟨k',hk',a',b'⟩
 ·exact ⟨k,hk,fun i hi=>by have:=a i hi;have:=z i (by omega);grind,by have:=z k hk;grind⟩
 ·rcases Nat.lt_trichotomy k k' with e|e|e
  ·exact ⟨k,hk,fun i hi=>by have:=a i hi;have:=a' i (by omega);grind,by have:=a' k e;grind⟩
  ·subst e;exact ⟨k,hk,fun i hi=>by have:=a i hi;have:=a' i (by omega);grind,by grind⟩
  ·exact ⟨k',hk',fun i hi=>by have:=a i (by omega);have:=a' i (by omega);grind,by have:=a k' e;grind⟩
theorem NN.add {K:Nat} {u v:Nat->Rat} (h:¬eW K u) (h':¬eW K v):¬eW K (fun k=>u k+v k):=by
 rcases gY.1 h with z|p
 ·exact NN.congr h' (fun k hk=>by have:=z k hk;grind)
 ·exact gY.2 (.inr (p.add h'))
theorem NN.zero {K:Nat}:¬eW K (fun _=>0):=gY.2 (.inl (fun _ _=>rfl))
theorem UC {a b:Rat} (ha:0<a) (hb:b<0):a*b<0:=by
 have:=Rat.mul_lt_mul_of_pos_right hb ha;grind
theorem vN {a b:Rat} (ha:0<a) (hb:0<b):0<a*b:=by
 have:=Rat.mul_lt_mul_of_pos_right hb ha;grind
theorem nh.smul {K:Nat} {u:Nat->Rat} (h:nh K u) {a:Rat} (ha:0<a):nh K (fun k=>a*u k):=by
 obtain ⟨k,hk,x,y⟩:=h
 exact ⟨k,hk,fun i hi=>by have:=x i hi;grind,vN ha y⟩
theorem eW.smul {K:Nat} {u:Nat->Rat} (h:eW K u) {a:Rat} (ha:0<a):eW K (fun k=>a*u k):=by
 obtain ⟨k,hk,x,y⟩:=h
 exact ⟨k,hk,fun i hi=>by have:=x i hi;grind,UC ha y⟩
theorem NN.smul {K:Nat} {u:Nat->Rat} (h:¬eW K u) {a:Rat} (ha:0<=a):¬eW K (fun k=>a*u k):=by
 by_cases e:a=0
 ·exact NN.congr NN.zero (fun k _=>by rw [e];grind)
 ·rcases gY.1 h with z|p
  ·exact gY.2 (.inl (fun k hk=>by have:=z k hk;show a*u k=0;rw [this];grind))
  ·exact gY.2 (.inr (p.smul (by grind)))
theorem NN.sum {K n:Nat} {u:Nat->Nat->Rat} (h:∀j,j<n->¬eW K (u j)):¬eW K (fun k=>S n (fun j=>u j k)):=by
 induction n with
 |zero=>exact NN.zero
 |succ n ih=>exact NN.add (ih (fun j hj=>h j (by omega))) (h n (by omega))
end Go.Proofs.Ytnhknojfpjheoaa.Lp
set_option linter.unusedVariables false
set_option linter.unusedSimpArgs false
namespace Go.Proofs.Ytnhknojfpjheoaa.Lp
def BW:Nat->List (List Bool)
 |0=>[[]]
 |n+1=>(BW n).map (List.cons true)++(BW n).map (List.cons false)
theorem Ro (n:Nat):(BW n).length=2^n:=by
 induction n with
 |zero=>rfl
 |succ n ih=>simp only [BW,List.length_append,List.length_map,ih];omega
theorem a0R (l:List Bool):l∈BW l.length:=by
 induction l with
 |nil=>simp [BW]
 |cons b l ih=>cases b<;>simp [BW,ih]
theorem wS {α:Type} [DecidableEq α]:∀(l:List α) (m:List α),l.Nodup->(∀x,x∈l->x∈m)->l.length<=m.length
 | [],m,_,_=>by simp
 |a::l,m,hn,hs=>by
  have ha:a∈m:=hs a (by simp)
  rw [List.nodup_cons] at hn
  have:=wS l (m.erase a) hn.2 (fun x hx=>by
   have hxa:x≠a:=fun e=>hn.1 (e ▸ hx)
   exact (List.mem_erase_of_ne hxa).2 (hs x (by simp [hx])))
  rw [List.length_erase_of_mem ha] at this
  have hp:=List.length_pos_of_mem ha
  simp only [List.length_cons];omega
theorem WR (N L:Nat) (f:Nat->List Bool) (hl:∀i,i<=L->(f i).length=N) (hL:2^N<=L):∃i j,i<j/\j<=L/\f i=f j:=by
 apply Classical.byContradiction
 intro hno
 have RV:((List.range (L+1)).map f).Nodup:=by
  rw [List.nodup_iff_pairwise_ne,List.pairwise_map]
  refine List.Pairwise.imp_of_mem ?_ List.pairwise_lt_range
  intro i j hi hj hij e
  rw [List.mem_range] at hi hj
  exact hno ⟨i,j,hij,by omega,e⟩
 have:=wS _ (BW N) RV (fun x hx=>by
  obtain ⟨i,hi,rfl⟩:=List.mem_map.1 hx
  rw [List.mem_range] at hi
  have:=a0R (f i)
  rwa [hl i (by omega)] at this)
 rw [Ro,List.length_map,List.length_range] at this
 omega
def iT (m:Nat) (t:bw) (j:Nat):Prop:=∃r,r<m/\t.basis r=j
open Classical in
noncomputable def su (m N:Nat) (t:bw):List Bool:=(List.range N).map fun j=>decide (iT m t j)
theorem Er (m N:Nat) (t:bw):(su m N t).length=N:=by simp [su]
theorem Ko {m N:Nat} {t t':bw} (h:su m N t=su m N t') {j:Nat} (hj:j<N):iT m t j↔iT m t' j:=by
 have:=congrArg (fun l=>l[j]?) h
 simp [su,hj] at this
 exact this
theorem OY {m N K:Nat} {t0 t t':bw} (v:Valid m N K t0 t) (v':Valid m N K t0 t') (h:su m N t=su m N t') {k:Nat} (hk:k<K):t.obj m N k=t'.obj m N k:=
 a8X v v' (fun _ ⟨r,hr,e⟩=>(Ko h (e ▸ v'.lt r hr)).2 ⟨r,hr,e⟩) hk
def bw.cost (t:bw) (m:Nat) (j:Nat):Nat->Rat:=fun k=>t.cell (m+k) j
theorem opt {m N K:Nat} {t0 t:bw} (v:Valid m N K t0 t) (hc:∀j,j<N->¬eW K (t.cost m j)) {x:Nat->Rat} (hx:∀j,j<N->0<=x j) (hs:∀i,i<m->t0.F N 1 x i=0):
 ¬eW K (fun k=>t0.F N 1 x (m+k)- t0.F N 1 (t.X m N) (m+k)):=by
 have hs':=(v.sN 1 x).1 hs
 refine NN.congr (NN.sum (n:=N) (u:=fun j k=>x j*t.cost m j k) (fun j hj=>NN.smul (hc j hj) (hx j hj))) (fun k hk=>?_)
 rw [<-v.cost 1 x hs' k hk,<-Ay v hk]
 unfold bw.F bw.obj
 have:S N (fun j=>x j*t.cost m j k)=S N (fun j=>t.cell (m+k) j*x j):=dD (fun j _=>by unfold bw.cost;grind)
 rw [this];grind
structure DStep (m N K:Nat) (t t':bw) where
 r:Nat
 c:Nat
 hr:r<m
 hc:c<N
 rhs:t.cell r N<0
 neg:t.cell r c<0
 best:∀j,j<N->t.cell r j<0->¬eW K (fun k=>t.cell (m+k) c/t.cell r c - t.cell (m+k) j/t.cell r j)
 eq:t'=t.pivot r c
def NB (m N K:Nat) (t0:bw):Prop:=∀d:Nat->Rat,(∀i,i<m->t0.F N 0 d i=0)->(∀k,k<K->t0.F N 0 d (m+k)=0)->∀j,j<N->d j=0
def bw.dir (t:bw) (m:Nat) (c j:Nat):Rat:=if j=c then 1 else S m (fun r=>if t.basis r=j then - t.cell r c else 0)
theorem Kp {m N K:Nat} {t0 t:bw} (v:Valid m N K t0 t) {c:Nat} (hc:c<N) (hnb:¬iT m t c) (g:Nat->Rat):
 S N (fun j=>g j*t.dir m c j)=g c - S m (fun r=>g (t.basis r)*t.cell r c):=by
 have:S N (fun j=>g j*t.dir m c j)=S N (fun j=>(if j=c then g j else 0)+S m (fun r=>if t.basis r=j then -(g j*t.cell r c) else 0)):=by
  refine dD (fun j _=>?_)
  unfold bw.dir
  by_cases e:j=c
  ·subst e;rw [if_pos rfl,if_pos rfl,ig (fun r hr=>if_neg (fun h=>hnb ⟨r,hr,h⟩))];grind
  ·rw [if_neg e,if_neg e,<-nv]
   have:S m (fun r=>g j*(if t.basis r=j then - t.cell r c else 0))=S m (fun r=>if t.basis r=j then -(g j*t.cell r c) else 0):=
    dD (fun r _=>by split<;>grind)
   rw [this];grind
 rw [this,xF,fF hc g,BU]
 have:S m (fun i=>S N (fun j=>if t.basis i=j then -(g j*t.cell i c) else 0))=S m (fun r=>(-1)*(g (t.basis r)*t.cell r c)):=by
  refine dD (fun r hr=>?_)
  have:S N (fun j=>if t.basis r=j then -(g j*t.cell r c) else 0)=S N (fun j=>if j=t.basis r then -(g j*t.cell r c) else 0):=by
   refine dD (fun j _=>?_)
   by_cases e:t.basis r=j
   ·rw [if_pos e,if_pos e.symm]
   ·rw [if_neg e,if_neg (fun h=>e h.symm)]
  rw [this,fF (v.lt r hr) (fun j=> -(g j*t.cell r c))];grind
 rw [this,nv];grind
theorem zo {m N K:Nat} {t0 t:bw} (v:Valid m N K t0 t) {c:Nat} (hc:c<N) (hnb:¬iT m t c):∀i,i<m->t.F N 0 (t.dir m c) i=0:=by
 intro i hi
 unfold bw.F
 rw [Kp v hc hnb]
 have:S m (fun r=>t.cell i (t.basis r)*t.cell r c)=S m (fun r=>if r=i then t.cell r c else 0):=by
  refine dD (fun r hr=>?_)
  rw [v.unit r hr i (by omega)]
  by_cases e:i=r
  ·rw [if_pos e,if_pos e.symm];grind
  ·rw [if_neg e,if_neg (fun h=>e h.symm)];grind
 rw [this,fF hi (fun r=>t.cell r c)];grind
theorem OZ {m N K:Nat} {t0 t:bw} (v:Valid m N K t0 t) {c:Nat} (hc:c<N) (hnb:¬iT m t c) {k:Nat} (hk:k<K):t.F N 0 (t.dir m c) (m+k)=t.cost m c k:=by
 unfold bw.F bw.cost
 rw [Kp v hc hnb,ig (fun r hr=>by rw [v.unit r hr (m+k) (by omega),if_neg (by omega)];grind)];grind
theorem FE (t:bw) (m c:Nat):t.dir m c c=1:=if_pos rfl
theorem UD {m N K:Nat} {t0 t:bw} (v:Valid m N K t0 t) (sh:NB m N K t0) {c:Nat} (hc:c<N) (hnb:¬iT m t c):¬DA K (t.cost m c):=by
 intro hz
 have h:=sh (t.dir m c) ((v.sN 0 _).2 (zo v hc hnb)) (fun k hk=>by rw [<-v.cost 0 _ (zo v hc hnb) k hk,OZ v hc hnb hk,hz k hk]) c hc
 rw [FE] at h;grind
theorem Kq {m N K:Nat} {t0 t:bw} (v:Valid m N K t0 t) {r c:Nat} (hr:r<m) (h:t.cell r c<0):¬iT m t c:=by
 rintro ⟨r',hr',rfl⟩
 rw [v.unit r' hr' r (by omega)] at h
 split at h<;>grind
theorem Kr {a b:Rat} (ha:a<0) (hb:b<0):0<a/b:=by
 have h1:0<(-a)*((-b)⁻¹):=vN (by grind) (Rat.inv_pos.2 (by grind))
 have:(-a)*(-b)⁻¹=a/b:=by grind
 rw [this] at h1;exact h1
structure DInv (m N K:Nat) (t0 t:bw):Prop extends Valid m N K t0 t where
 Pa:∀j,j<N->¬eW K (t.cost m j)
theorem DStep.inv {m N K:Nat} {t0 t t':bw} (v:DInv m N K t0 t) (s:DStep m N K t t'):DInv m N K t0 t':=by
 obtain ⟨r,c,hr,hc,rhs,neg,best,rfl⟩:=s
 refine ⟨v.toValid.pivot hr hc (by grind),fun j hj=>?_⟩
 have e:∀k,k<K->t.cell (m+k) j - t.cell (m+k) c*(t.cell r j/t.cell r c)=(t.pivot r c).cost m j k:=fun k hk=>by
  show _=if m+k=r then _ else _
  rw [if_neg (by omega)]
 refine NN.congr ?_ e
 by_cases hn:t.cell r j<0
 ·refine NN.congr (NN.smul (best j hj hn) (a:= - t.cell r j) (by grind)) (fun k hk=>by grind)
 ·have h2:0<= -(t.cell r j/t.cell r c):=by
   by_cases e0:t.cell r j=0
   ·rw [e0];grind
   ·have h1:0<t.cell r j*((- t.cell r c)⁻¹):=vN (by grind) (Rat.inv_pos.2 (by grind))
    have:t.cell r j*(- t.cell r c)⁻¹= -(t.cell r j/t.cell r c):=by grind
    rw [this] at h1;grind
  refine NN.congr (NN.add (v.Pa j hj) (NN.smul (v.Pa c hc) h2)) (fun k hk=>by unfold bw.cost;grind)
theorem DStep.grows {m N K:Nat} {t0 t t':bw} (v:DInv m N K t0 t) (sh:NB m N K t0) (s:DStep m N K t t'):nh K (fun k=>t'.obj m N k - t.obj m N k):=by
 obtain ⟨r,c,hr,hc,rhs,neg,best,rfl⟩:=s
 have hp:nh K (t.cost m c):=(gY.1 (v.Pa c hc)).resolve_left (UD v.toValid sh hc (Kq v.toValid hr neg))
 refine (hp.smul (Kr rhs neg)).congr (fun k hk=>?_)
 have:(t.pivot r c).obj m N k= -(t.cell (m+k) N - t.cell (m+k) c*(t.cell r N/t.cell r c)):=by
  show -(if m+k=r then _ else _)=_
  rw [if_neg (by omega)]
 rw [this];unfold bw.obj bw.cost;grind
theorem WS {m N K:Nat} {t0:bw} (sh:NB m N K t0) (seq:Nat->bw) (h0:DInv m N K t0 (seq 0)) (hs:∀i,i<2^N->Nonempty (DStep m N K (seq i) (seq (i+1)))):False:=by
 have hinv:∀i,i<=2^N->DInv m N K t0 (seq i):=by
  intro i;induction i with
  |zero=>intro _;exact h0
  |succ i ih=>intro hi;exact (Classical.choice (hs i (by omega))).inv (ih (by omega))
 have hgrow:∀d i,i+d+1<=2^N->nh K (fun k=>(seq (i+d+1)).obj m N k -(seq i).obj m N k):=by
  intro d i;induction d with
  |zero=>intro hi;exact (Classical.choice (hs i (by omega))).grows (hinv i (by omega)) sh
  |succ d ih=>
   intro hi
   have h1:=ih (by omega)
   have h2:=(Classical.choice (hs (i+d+1) (by omega))).grows (hinv _ (by omega)) sh
   exact (h1.add (gY.2 (.inr h2))).congr (fun k _=>by have:i+(d+1)+1=i+d+1+1:=by omega
                                                      rw [this];grind)
 obtain ⟨i,j,hij,hj,e⟩:=WR N (2^N) (fun i=>su m N (seq i)) (fun i _=>Er m N _) (Nat.le_refl _)
 have h1:=hgrow (j - i - 1) i (by omega)
 have hji:i+(j - i - 1)+1=j:=by omega
 rw [hji] at h1
 exact wQ (fun k hk=>by have:=OY (hinv i (by omega)).toValid (hinv j hj).toValid e hk;show (seq j).obj m N k -(seq i).obj m N k=0;grind) h1
structure mh (m N K:Nat) (t t':bw) where
 r:Nat
 c:Nat
 hr:r<m
 hc:c<N
 neg:eW K (t.cost m c)
 first:∀j,j<c->¬eW K (t.cost m j)
 pos:0<t.cell r c
 best:∀i,i<m->0<t.cell i c->t.cell r N/t.cell r c<t.cell i N/t.cell i c∨(t.cell r N/t.cell r c=t.cell i N/t.cell i c/\t.basis r<=t.basis i)
 eq:t'=t.pivot r c
structure PInv (m N K:Nat) (t0 t:bw):Prop extends Valid m N K t0 t where
 FH:∀r,r<m->0<=t.cell r N
theorem vO {a b:Rat} (ha:0<=a) (hb:0<b):0<=a/b:=by
 have h1:=Rat.mul_nonneg ha (Rat.le_of_lt (Rat.inv_pos.2 hb))
 have:a*b⁻¹=a/b:=by grind
 rw [this] at h1;exact h1
theorem mh.inv {m N K:Nat} {t0 t t':bw} (v:PInv m N K t0 t) (s:mh m N K t t'):PInv m N K t0 t':=by
 obtain ⟨r,c,hr,hc,neg,first,pos,best,rfl⟩:=s
 refine ⟨v.toValid.pivot hr hc (by grind),fun i hi=>?_⟩
 show 0<=if i=r then _ else _
 have hq:=vO (v.FH r hr) pos
 by_cases e:i=r
 ·rw [if_pos e];exact hq
 ·rw [if_neg e]
  have Hv:=v.FH i hi
  by_cases hp:0<t.cell i c
  ·have hle:t.cell r N/t.cell r c<=t.cell i N/t.cell i c:=by
    rcases best i hi hp with h|h<;>grind
   have h1:=Rat.mul_le_mul_of_nonneg_left hle (Rat.le_of_lt hp)
   have:t.cell i c*(t.cell i N/t.cell i c)=t.cell i N:=by grind
   rw [this] at h1;grind
  ·have h1:=Rat.mul_nonneg (show 0<= - t.cell i c by grind) hq
   grind
theorem mh.obj {m N K:Nat} {t t':bw} (s:mh m N K t t') (k:Nat):t.obj m N k - t'.obj m N k=(t.cell s.r N/t.cell s.r s.c)* - t.cost m s.c k:=by
 obtain ⟨r,c,hr,hc,neg,first,pos,best,rfl⟩:=s
 have:(t.pivot r c).obj m N k= -(t.cell (m+k) N - t.cell (m+k) c*(t.cell r N/t.cell r c)):=by
  show -(if m+k=r then _ else _)=_
  rw [if_neg (by omega)]
 rw [this];unfold bw.obj bw.cost;grind
theorem Mc {m N K:Nat} {t0 t:bw} (v:Valid m N K t0 t) {r c:Nat} (hr:r<m) (hnb:¬iT m t c) (j:Nat):iT m (t.pivot r c) j↔(iT m t j/\j≠t.basis r)∨j=c:=by
 constructor
 ·rintro ⟨i,hi,e⟩
  have e':(if i=r then c else t.basis i)=j:=e
  by_cases h:i=r
  ·rw [if_pos h] at e';exact .inr e'.symm
  ·rw [if_neg h] at e'
   exact .inl ⟨⟨i,hi,e'⟩,fun h2=>h (v.inj hi hr (e'.trans h2))⟩
 ·rintro (⟨⟨i,hi,e⟩,h2⟩|e)
  ·refine ⟨i,hi,?_⟩
   show (if i=r then c else t.basis i)=j
   rw [if_neg (fun h=>h2 (by rw [<-e,h]))];exact e
  ·refine ⟨r,hr,?_⟩
   show (if r=r then c else t.basis r)=j
   rw [if_pos rfl];exact e.symm
theorem sw {m N K:Nat} {t0 t:bw} (v:Valid m N K t0 t) {c:Nat} (h:¬DA K (t.cost m c)):¬iT m t c:=by
 rintro ⟨r,hr,rfl⟩
 exact h (fun k hk=>by show t.cell (m+k) (t.basis r)=0;rw [v.unit r hr (m+k) (by omega),if_neg (by omega)])
theorem mh.nb {m N K:Nat} {t0 t t':bw} (v:Valid m N K t0 t) (s:mh m N K t t'):¬iT m t s.c:=sw v (fun h=>wR h s.neg)
theorem a6m {m N K:Nat} {t0 t:bw} (v:Valid m N K t0 t) {r c:Nat} (hr:r<m) (hc:c<N) (hp:t.cell r c≠0) (hnb:¬iT m t c) (h0:t.cell r N=0):
 ∀j,j<N->(t.pivot r c).X m N j=t.X m N j:=by
 have v':=v.pivot hr hc hp
 have hs:∀i,i<m->(t.pivot r c).F N 1 (t.X m N) i=0:=(v'.sN 1 _).1 ((v.sN 1 _).2 (fun i hi=>v.Mb hi))
 have hy:∀j,j<N->(∀i,i<m->(t.pivot r c).basis i≠j)->t.X m N j=0:=by
  intro j _ h
  by_cases hb:iT m t j
  ·by_cases e:j=t.basis r
   ·subst e;rw [Aw v hr];exact h0
   ·obtain ⟨i,hi,e2⟩:=(Mc v hr hnb j).2 (.inl ⟨hb,e⟩)
    exact absurd e2 (h i hi)
  ·exact xG (fun i hi e=>hb ⟨i,hi,e⟩)
 intro j hj
 by_cases e:iT m (t.pivot r c) j
 ·obtain ⟨i,hi,rfl⟩:=e
  rw [Aw v' hi,yf v' hy hs hi];grind
 ·rw [xG (fun i hi e2=>e ⟨i,hi,e2⟩),hy j hj (fun i hi e2=>e ⟨i,hi,e2⟩)]
theorem UE {P:Nat->Prop} {B:Nat} (h:∃x,P x) (hb:∀x,P x->x<B):∃x,P x/\∀y,P y->y<=x:=by
 apply Classical.byContradiction
 intro hno
 have grow:∀n,∃x,P x/\n<=x:=by
  intro n;induction n with
  |zero=>obtain ⟨x,hx⟩:=h;exact ⟨x,hx,by omega⟩
  |succ n ih=>
   obtain ⟨x,hx,hn⟩:=ih
   apply Classical.byContradiction
   intro h2
   exact hno ⟨x,hx,fun y hy=>by
    apply Classical.byContradiction
    intro h3
    exact h2 ⟨y,hy,by omega⟩⟩
 obtain ⟨x,hx,hB⟩:=grow B
 have:=hb x hx
 omega
theorem Rp {m N K:Nat} {t0:bw} (seq:Nat->bw) (h0:PInv m N K t0 (seq 0)) (hs':∀i,i<2^N->Nonempty (mh m N K (seq i) (seq (i+1)))):False:=by
 have hinv:∀i,i<=2^N->PInv m N K t0 (seq i):=by
  intro i;induction i with
  |zero=>intro _;exact h0
  |succ i ih=>intro hi;exact (Classical.choice (hs' i (by omega))).inv (ih (by omega))
 obtain ⟨i,j,hij,hj,em⟩:=WR N (2^N) (fun i=>su m N (seq i)) (fun i _=>Er m N _) (Nat.le_refl _)
 have em:su m N (seq i)=su m N (seq j):=em
 have st:∀p,i<=p/\p<j->Nonempty (mh m N K (seq p) (seq (p+1))):=fun p hp=>hs' p (by omega)
 have iv:∀p,i<=p/\p<=j->PInv m N K t0 (seq p):=fun p hp=>hinv p (by omega)
 have b7w:∀p,i<=p/\p<j->¬eW K (fun k=>(seq p).obj m N k -(seq (p+1)).obj m N k):=by
  intro p hp
  obtain ⟨s⟩:=st p hp
  have hq:=vO ((iv p (by omega)).FH s.r s.hr) s.pos
  exact NN.congr (NN.smul (gY.2 (.inr s.neg.neg)) hq) (fun k _=>(s.obj k).symm)
 have dec:∀d p,i<=p/\p+d<=j->¬eW K (fun k=>(seq p).obj m N k -(seq (p+d)).obj m N k):=by
  intro d p;induction d with
  |zero=>intro _;exact NN.congr NN.zero (fun k _=>by show (0:Rat)=(seq p).obj m N k -(seq p).obj m N k;grind)
  |succ d ih=>
   intro hp
   exact NN.congr (NN.add (ih (by omega)) (b7w (p+d) (by omega))) (fun k _=>by
    show _=(seq p).obj m N k -(seq (p+d+1)).obj m N k
    grind)
 have still:∀p,i<=p/\p<j->∀s:mh m N K (seq p) (seq (p+1)),(seq p).cell s.r N=0:=by
  intro p hp s
  have hr:=(iv p (by omega)).FH s.r s.hr
  apply Classical.byContradiction
  intro hne
  have hpos:0<(seq p).cell s.r N/(seq p).cell s.r s.c:=by
   have:=vN (show 0<(seq p).cell s.r N by grind) (Rat.inv_pos.2 s.pos)
   have e:(seq p).cell s.r N*((seq p).cell s.r s.c)⁻¹=(seq p).cell s.r N/(seq p).cell s.r s.c:=by grind
   rw [e] at this;exact this
  have h1:nh K (fun k=>(seq p).obj m N k -(seq (p+1)).obj m N k):=(s.neg.neg.smul hpos).congr (fun k _=>(s.obj k).symm)
  have h2:=dec (p - i) i (by omega)
  have h3:=dec (j -(p+1)) (p+1) (by omega)
  have e2:i+(p - i)=p:=by omega
  have e3:p+1+(j -(p+1))=j:=by omega
  rw [e2] at h2;rw [e3] at h3
  have h4:=(h1.add h2).add h3
  exact wQ (fun k hk=>by
   have:=OY (iv i (by omega)).toValid (iv j (by omega)).toValid em hk
   show _ - _+(_ - _)+(_ - _)=_
   grind) h4
 have xst:∀d p,i<=p/\p+d<=j->∀c,c<N->(seq (p+d)).X m N c=(seq p).X m N c:=by
  intro d p;induction d with
  |zero=>intro _ c _;rfl
  |succ d ih=>
   intro hp c hc
   rw [<-ih (by omega) c hc]
   obtain ⟨s⟩:=st (p+d) (by omega)
   have h0:=still (p+d) (by omega) s
   have v:=(iv (p+d) (by omega)).toValid
   have e:=s.eq
   show (seq (p+d+1)).X m N c=_
   rw [e]
   exact a6m v s.hr s.hc (by have:=s.pos;grind) (s.nb v) h0 c hc
 have xeq:∀p q,(i<=p/\p<=j)->(i<=q/\q<=j)->∀c,c<N->(seq p).X m N c=(seq q).X m N c:=by
  intro p q hp hq c hc
  have h1:=xst (p - i) i (by omega) c hc
  have h2:=xst (q - i) i (by omega) c hc
  have e1:i+(p - i)=p:=by omega
  have e2:i+(q - i)=q:=by omega
  rw [e1] at h1;rw [e2] at h2;rw [h1,h2]
 let Leaves:Nat->Prop:=fun x=>∃p,(i<=p/\p<j)/\∃s:mh m N K (seq p) (seq (p+1)),(seq p).basis s.r=x
 let Enters:Nat->Prop:=fun x=>∃p,(i<=p/\p<j)/\∃s:mh m N K (seq p) (seq (p+1)),s.c=x
 have UF:∀p,i<=p/\p<j->∀s:mh m N K (seq p) (seq (p+1)),∀x,iT m (seq (p+1)) x↔(iT m (seq p) x/\x≠(seq p).basis s.r)∨x=s.c:=by
  intro p hp s x
  have v:=(iv p (by omega)).toValid
  have:=Mc v (c:=s.c) s.hr (s.nb v) x
  rw [<-s.eq] at this;exact this
 have stay:∀x,¬Leaves x->∀d p,i<=p/\p+d<=j->iT m (seq p) x->iT m (seq (p+d)) x:=by
  intro x hx d p;induction d with
  |zero=>intro _ h;exact h
  |succ d ih=>
   intro hp h
   obtain ⟨s⟩:=st (p+d) (by omega)
   exact (UF (p+d) (by omega) s x).2 (.inl ⟨ih (by omega) h,fun e=>hx ⟨p+d,by omega,s,e.symm⟩⟩)
 have always:∀x,x<N->¬Leaves x->∀p q,(i<=p/\p<=j)->(i<=q/\q<=j)->iT m (seq p) x->iT m (seq q) x:=by
  intro x hxN hx p q hp hq h
  have h1:=stay x hx (j - p) p (by omega) h
  have e1:p+(j - p)=j:=by omega
  rw [e1] at h1
  have h2:=(Ko em hxN).2 h1
  have h3:=stay x hx (q - i) i (by omega) h2
  have e2:i+(q - i)=q:=by omega
  rw [e2] at h3;exact h3
 have WT:∀x,¬Enters x->∀d p,i<=p/\p+d<=j->iT m (seq (p+d)) x->iT m (seq p) x:=by
  intro x hx d p;induction d with
  |zero=>intro _ h;exact h
  |succ d ih=>
   intro hp h
   obtain ⟨s⟩:=st (p+d) (by omega)
   rcases (UF (p+d) (by omega) s x).1 h with h|h
   ·exact ih (by omega) h.1
   ·exact absurd ⟨p+d,by omega,s,h.symm⟩ hx
 have BX:∀x,Leaves x->x<N:=by
  rintro x ⟨p,hp,s,rfl⟩;exact (iv p (by omega)).lt s.r s.hr
 obtain ⟨s0⟩:=st i (by omega)
 obtain ⟨t,⟨p,hp,s,ht⟩,a8Y⟩:=UE (P:=Leaves) (B:=N) ⟨_,i,by omega,s0,rfl⟩ BX
 have vp:=(iv p (by omega)).toValid
 have htN:t<N:=BX t ⟨p,hp,s,ht⟩
 have b7x:∀q,i<=q/\q<j->∀s:mh m N K (seq q) (seq (q+1)),Leaves s.c:=by
  intro q hq s'
  apply Classical.byContradiction
  intro hno
  exact s'.nb (iv q (by omega)).toValid (always s'.c s'.hc hno (q+1) q (by omega) (by omega) ((UF q hq s' s'.c).2 (.inr rfl)))
 have hst:s.c<t:=by
  have h1:=a8Y s.c (b7x p hp s)
  have h2:s.c≠t:=by
   intro e;apply s.nb vp;rw [e,<-ht];exact ⟨s.r,s.hr,rfl⟩
  omega
 have sO:Enters t:=by
  apply Classical.byContradiction
  intro hno
  have hb:iT m (seq p) t:=⟨s.r,s.hr,ht⟩
  have h1:=WT t hno (p - i) i (by omega)
  have e1:i+(p - i)=p:=by omega
  rw [e1] at h1
  have h2:=(Ko em htN).1 (h1 hb)
  have h3:=WT t hno (j -(p+1)) (p+1) (by omega)
  have e3:p+1+(j -(p+1))=j:=by omega
  rw [e3] at h3
  rcases (UF p hp s t).1 (h3 h2) with h|h
  ·exact h.2 ht.symm
  ·omega
 obtain ⟨q,hq,s2,ht2⟩:=sO
 have vq:=(iv q (by omega)).toValid
 have hnb:=s.nb vp
 have hom:=zo vp s.hc hnb
 have b7y:∀a,a<m->(seq q).F N 0 ((seq p).dir m s.c) a=0:=(vq.sN 0 _).1 ((vp.sN 0 _).2 hom)
 have b3p:∀k,k<K->(seq p).cost m s.c k=(seq q).cost m s.c k+S m (fun a=> -((seq q).cost m ((seq p).basis a) k*(seq p).cell a s.c)):=by
  intro k hk
  rw [<-OZ vp s.hc hnb hk,vp.cost 0 _ hom k hk,<-vq.cost 0 _ b7y k hk]
  unfold bw.F
  rw [Kp vp s.hc hnb]
  have:S m (fun a=> -((seq q).cost m ((seq p).basis a) k*(seq p).cell a s.c))=(-1)*S m (fun r=>(seq q).cell (m+k) ((seq p).basis r)*(seq p).cell r s.c):=by
   rw [<-nv];exact dD (fun a _=>by unfold bw.cost;grind)
  rw [this];unfold bw.cost;grind
 have hneg:eW K (fun k=>(seq q).cost m s.c k+S m (fun a=> -((seq q).cost m ((seq p).basis a) k*(seq p).cell a s.c))):=s.neg.congr b3p
 have hc2:¬eW K ((seq q).cost m s.c):=s2.first s.c (by omega)
 have hex:∃a,a<m/\eW K (fun k=> -((seq q).cost m ((seq p).basis a) k*(seq p).cell a s.c)):=by
  apply Classical.byContradiction
  intro hno
  exact NN.add hc2 (NN.sum (n:=m) (u:=fun a k=> -((seq q).cost m ((seq p).basis a) k*(seq p).cell a s.c)) (fun a ha h=>hno ⟨a,ha,h⟩)) hneg
 obtain ⟨a,ha,han⟩:=hex
 have a3E:nh K (fun k=>(seq q).cost m ((seq p).basis a) k*(seq p).cell a s.c):=han.neg.congr (fun k _=>by grind)
 have b7z:¬iT m (seq q) ((seq p).basis a):=sw vq (fun hz=>wQ (fun k hk=>by rw [hz k hk];grind) a3E)
 have Hw:Leaves ((seq p).basis a):=by
  apply Classical.byContradiction
  intro hno
  exact b7z (always _ (vp.lt a ha) hno p q (by omega) (by omega) ⟨a,ha,rfl⟩)
 have hale:=a8Y _ Hw
 have hane:(seq p).basis a≠t:=by
  intro e
  have har:a=s.r:=vp.inj ha s.hr (e.trans ht.symm)
  subst har
  have h1:eW K (fun k=>(seq p).cell s.r s.c*(seq q).cost m s2.c k):=s2.neg.smul s.pos
  exact Ep (h1.congr (fun k _=>by rw [ht2,e];grind)) a3E
 have hcell:0<(seq p).cell a s.c:=by
  have hc3:¬eW K ((seq q).cost m ((seq p).basis a)):=s2.first _ (by omega)
  apply Classical.byContradiction
  intro hno
  have:=NN.smul hc3 (show 0<= -(seq p).cell a s.c by grind)
  exact this (han.congr (fun k _=>by grind))
 have ha0:(seq p).cell a N=0:=by
  obtain ⟨p',hp',s',e'⟩:=Hw
  have h1:=still p' hp' s'
  rw [<-Aw vp ha,xeq p p' (by omega) (by omega) _ (vp.lt a ha),<-e',Aw (iv p' (by omega)).toValid s'.hr];exact h1
 have fE:=still p hp s
 rcases s.best a ha hcell with h|⟨_,h⟩
 ·rw [fE,ha0] at h;grind
 ·omega
end Go.Proofs.Ytnhknojfpjheoaa.Lp
set_option linter.unusedVariables false
set_option linter.unusedSimpArgs false
namespace Go.Proofs.Ytnhknojfpjheoaa.Lp
def jZ:Nat->Rat
 |0=>1
 |n+1=> - jZ n
def minor (M:Nat->Nat->Rat) (j:Nat):Nat->Nat->Rat:=fun i k=>M (i+1) (if k<j then k else k+1)
def eN:Nat->(Nat->Nat->Rat)->Rat
 |0,_=>1
 |n+1,M=>S (n+1) fun j=>jZ j*M 0 j*eN n (minor M j)
def upd (M:Nat->Nat->Rat) (c:Nat) (v:Nat->Rat):Nat->Nat->Rat:=fun i j=>if j=c then v i else M i j
theorem mJ:∀(n:Nat) {M M':Nat->Nat->Rat},(∀i j,i<n->j<n->M i j=M' i j)->eN n M=eN n M'
 |0,_,_,_=>rfl
 |n+1,M,M',h=>by
  simp only [eN]
  refine dD (fun j hj=>?_)
  rw [h 0 j (by omega) hj,mJ n (M:=minor M j) (M':=minor M' j) (fun i k hi hk=>?_)]
  unfold minor
  split
  ·exact h _ _ (by omega) (by omega)
  ·exact h _ _ (by omega) (by omega)
theorem tC (M:Nat->Nat->Rat) (c:Nat) (v:Nat->Rat):minor (upd M c v) c=minor M c:=by
 funext i k;unfold minor upd
 by_cases h:k<c
 ·rw [if_pos h,if_neg (by omega)]
 ·rw [if_neg h,if_neg (by omega)]
theorem wT (M:Nat->Nat->Rat) {c j:Nat} (v:Nat->Rat) (h:c<j):minor (upd M c v) j=upd (minor M j) c (fun i=>v (i+1)):=by
 funext i k;unfold minor upd
 by_cases h1:k<j
 ·simp only [if_pos h1]
 ·simp only [if_neg h1]
  rw [if_neg (by omega),if_neg (by omega)]
theorem wU (M:Nat->Nat->Rat) {c j:Nat} (v:Nat->Rat) (h:j<c):minor (upd M c v) j=upd (minor M j) (c - 1) (fun i=>v (i+1)):=by
 funext i k;unfold minor upd
 by_cases h1:k<j
 ·simp only [if_pos h1]
  rw [if_neg (by omega),if_neg (by omega)]
 ·simp only [if_neg h1]
  by_cases h2:k=c - 1
  ·rw [if_pos (by omega),if_pos h2]
  ·rw [if_neg (by omega),if_neg h2]
theorem DB:∀(n:Nat) (M:Nat->Nat->Rat) (c:Nat),c<n->∀(a b:Rat) (v w:Nat->Rat),eN n (upd M c (fun i=>a*v i+b*w i))=a*eN n (upd M c v)+b*eN n (upd M c w)
 |0,_,_,hc,_,_,_,_=>by omega
 |n+1,M,c,hc,a,b,v,w=>by
  simp only [eN]
  rw [<-nv,<-nv,<-xF]
  refine dD (fun j hj=>?_)
  rcases Nat.lt_trichotomy c j with h|h|h
  ·rw [wT _ _ h,wT _ _ h,wT _ _ h,DB n (minor M j) c (by omega) a b (fun i=>v (i+1)) (fun i=>w (i+1))]
   have e:∀u:Nat->Rat,upd M c u 0 j=M 0 j:=fun u=>if_neg (by omega)
   rw [e,e,e];grind
  ·subst h
   rw [tC,tC,tC]
   have e:∀u:Nat->Rat,upd M c u 0 c=u 0:=fun u=>if_pos rfl
   rw [e,e,e];grind
  ·rw [wU _ _ h,wU _ _ h,wU _ _ h,DB n (minor M j) (c - 1) (by omega) a b (fun i=>v (i+1)) (fun i=>w (i+1))]
   have e:∀u:Nat->Rat,upd M c u 0 j=M 0 j:=fun u=>if_neg (by omega)
   rw [e,e,e];grind
def swp (p j:Nat):Nat:=if j=p then p+1 else if j=p+1 then p else j
theorem Az:∀(n:Nat) (M:Nat->Nat->Rat) (p:Nat),p+1<n->eN n (fun i j=>M i (swp p j))= - eN n M
 |0,_,_,h=>by omega
 |n+1,M,p,hp=>by
  simp only [eN]
  have key:∀j,j<n+1->j≠p->j≠p+1->jZ j*M 0 (swp p j)*eN n (minor (fun i j=>M i (swp p j)) j)= -(jZ j*M 0 j*eN n (minor M j)):=by
   intro j hj h1 h2
   have e0:swp p j=j:=by unfold swp;rw [if_neg h1,if_neg h2]
   by_cases h:j<p
   ·have e:minor (fun i j=>M i (swp p j)) j=fun i k=>minor M j i (swp (p - 1) k):=by
     funext i k;unfold minor swp
     congr 1
     clear e0
     grind
    rw [e,Az n (minor M j) (p - 1) (by omega),e0];grind
   ·have e:minor (fun i j=>M i (swp p j)) j=fun i k=>minor M j i (swp p k):=by
     funext i k;unfold minor swp
     congr 1
     clear e0
     grind
    rw [e,Az n (minor M j) p (by omega),e0];grind
  have ep:jZ p*M 0 (swp p p)*eN n (minor (fun i j=>M i (swp p j)) p)= -(jZ (p+1)*M 0 (p+1)*eN n (minor M (p+1))):=by
   have e:minor (fun i j=>M i (swp p j)) p=minor M (p+1):=by
    funext i k;unfold minor swp
    congr 1
    grind
   have e0:swp p p=p+1:=by unfold swp;rw [if_pos rfl]
   rw [e,e0];simp only [jZ];grind
  have ep1:jZ (p+1)*M 0 (swp p (p+1))*eN n (minor (fun i j=>M i (swp p j)) (p+1))= -(jZ p*M 0 p*eN n (minor M p)):=by
   have e:minor (fun i j=>M i (swp p j)) (p+1)=minor M p:=by
    funext i k;unfold minor swp
    congr 1
    grind
   have e0:swp p (p+1)=p:=by unfold swp;rw [if_neg (by omega),if_pos rfl]
   rw [e,e0];simp only [jZ];grind
  have all:S (n+1) (fun j=>jZ j*M 0 (swp p j)*eN n (minor (fun i j=>M i (swp p j)) j))
   =S (n+1) (fun j=>(-1)*(jZ j*M 0 j*eN n (minor M j))
      +((if j=p then jZ p*M 0 p*eN n (minor M p)- jZ (p+1)*M 0 (p+1)*eN n (minor M (p+1)) else 0)
       +(if j=p+1 then jZ (p+1)*M 0 (p+1)*eN n (minor M (p+1))- jZ p*M 0 p*eN n (minor M p) else 0))):=by
   refine dD (fun j hj=>?_)
   by_cases h1:j=p
   ·subst h1;rw [ep,if_pos rfl,if_neg (by omega)];grind
   ·by_cases h2:j=p+1
    ·subst h2;rw [ep1,if_neg h1,if_pos rfl];grind
    ·rw [key j hj h1 h2,if_neg h1,if_neg h2];grind
  rw [all,xF,xF,nv,fF (by omega) (fun _=>jZ p*M 0 p*eN n (minor M p)- jZ (p+1)*M 0 (p+1)*eN n (minor M (p+1))),
   fF (by omega) (fun _=>jZ (p+1)*M 0 (p+1)*eN n (minor M (p+1))- jZ p*M 0 p*eN n (minor M p))]
  grind
theorem Ks (n:Nat):∀(d p:Nat) (M:Nat->Nat->Rat),p+d+1<n->(∀i,i<n->M i p=M i (p+d+1))->eN n M=0
 |0,p,M,hq,h=>by
  have h1:=Az n M p (by omega)
  have h2:eN n (fun i j=>M i (swp p j))=eN n M:=by
   refine mJ n (fun i j hi hj=>?_)
   unfold swp
   by_cases e:j=p
   ·subst e;rw [if_pos rfl];exact (h i hi).symm
   ·rw [if_neg e]
    by_cases e2:j=p+1
    ·subst e2;rw [if_pos rfl];exact h i hi
    ·rw [if_neg e2]
  rw [h2] at h1;grind
 |d+1,p,M,hq,h=>by
  have h1:=Az n M (p+d+1) (by omega)
  have h2:=Ks n d p (fun i j=>M i (swp (p+d+1) j)) (by omega) (fun i hi=>by
   have e1:swp (p+d+1) p=p:=by unfold swp;rw [if_neg (by omega),if_neg (by omega)]
   have e2:swp (p+d+1) (p+d+1)=p+(d+1)+1:=by unfold swp;rw [if_pos rfl];omega
   show M i (swp (p+d+1) p)=M i (swp (p+d+1) (p+d+1))
   rw [e1,e2];exact h i hi)
  rw [h2] at h1;grind
theorem Pb {n p q:Nat} {M:Nat->Nat->Rat} (hp:p<n) (hq:q<n) (hne:p≠q) (h:∀i,i<n->M i p=M i q):eN n M=0:=by
 rcases Nat.lt_or_gt_of_ne hne with hl|hl
 ·refine Ks n (q - p - 1) p M (by omega) (fun i hi=>?_)
  have:p+(q - p - 1)+1=q:=by omega
  rw [this];exact h i hi
 ·refine Ks n (p - q - 1) q M (by omega) (fun i hi=>?_)
  have:q+(p - q - 1)+1=p:=by omega
  rw [this];exact (h i hi).symm
theorem upd_same (M:Nat->Nat->Rat) (c:Nat):upd M c (fun i=>M i c)=M:=by
 funext i j;unfold upd;split
 ·next h=>rw [h]
 ·rfl
theorem BZ {n:Nat} (M:Nat->Nat->Rat) {c:Nat} (hc:c<n):eN n (upd M c (fun _=>0))=0:=by
 have h:=DB n M c hc 0 0 (fun _=>0) (fun _=>0)
 have e:(fun i:Nat=>(0:Rat)*(fun _=>0:Nat->Rat) i+0*(fun _=>0:Nat->Rat) i)=fun _=>0:=by funext i;grind
 rw [e] at h;rw [h];grind
theorem b3q {n:Nat} (M:Nat->Nat->Rat) {c:Nat} (hc:c<n) (x:Nat->Rat) (v:Nat->Nat->Rat) (l:Nat):
 eN n (upd M c (fun i=>S l (fun r=>x r*v r i)))=S l (fun r=>x r*eN n (upd M c (v r))):=by
 induction l with
 |zero=>simp only [S];exact BZ M hc
 |succ l ih=>
  have h:=DB n M c hc 1 (x l) (fun i=>S l (fun r=>x r*v r i)) (v l)
  have e:(fun i:Nat=>(1:Rat)*(fun i=>S l (fun r=>x r*v r i)) i+x l*v l i)=fun i=>S (l+1) (fun r=>x r*v r i):=by
   funext i;simp only [S];grind
  rw [e,ih] at h;rw [h];simp only [S];grind
theorem WU {n:Nat} {M:Nat->Nat->Rat} {x a:Nat->Rat} (h:∀i,i<n->a i=S n (fun r=>x r*M i r)) {c:Nat} (hc:c<n):eN n (upd M c a)=x c*eN n M:=by
 have h1:eN n (upd M c a)=eN n (upd M c (fun i=>S n (fun r=>x r*(fun r i=>M i r) r i))):=by
  refine mJ n (fun i j hi _=>?_)
  unfold upd;split
  ·exact h i hi
  ·rfl
 rw [h1,b3q M hc x (fun r i=>M i r) n]
 rw [<-fF hc (fun r=>x r*eN n M)]
 refine dD (fun r hr=>?_)
 by_cases e:r=c
 ·subst e;rw [if_pos rfl,upd_same]
 ·rw [if_neg e,Pb (p:=c) (q:=r) hc hr (fun h=>e h.symm) (fun i _=>?_)]
  ·grind
  ·unfold upd;rw [if_pos rfl,if_neg e]
theorem FI:∀(n:Nat) (M:Nat->Nat->Rat),(∀i,i<n->M i n=0)->M n n=1->eN (n+1) M=eN n M
 |0,M,_,h1=>by simp only [eN,S,jZ];rw [h1];grind
 |n+1,M,h0,h1=>by
  have:eN (n+1+1) M=S (n+1+1) (fun j=>jZ j*M 0 j*eN (n+1) (minor M j)):=rfl
  rw [this]
  have e:S (n+1+1) (fun j=>jZ j*M 0 j*eN (n+1) (minor M j))=S (n+1) (fun j=>jZ j*M 0 j*eN (n+1) (minor M j))+jZ (n+1)*M 0 (n+1)*eN (n+1) (minor M (n+1)):=rfl
  rw [e,h0 0 (by omega)]
  have e2:eN (n+1) M=S (n+1) (fun j=>jZ j*M 0 j*eN n (minor M j)):=rfl
  rw [e2]
  have:S (n+1) (fun j=>jZ j*M 0 j*eN (n+1) (minor M j))=S (n+1) (fun j=>jZ j*M 0 j*eN n (minor M j)):=by
   refine dD (fun j hj=>?_)
   rw [FI n (minor M j) (fun i hi=>by unfold minor;rw [if_neg (by omega)];exact h0 _ (by omega)) (by unfold minor;rw [if_neg (by omega)];exact h1)]
  rw [this];grind
theorem RX:∀(n:Nat) (M:Nat->Nat->Rat),(∀i j,i<n->j<n->M i j=if i=j then 1 else 0)->eN n M=1
 |0,_,_=>rfl
 |n+1,M,h=>by
  rw [FI n M (fun i hi=>by rw [h i n (by omega) (by omega),if_neg (by omega)]) (by rw [h n n (by omega) (by omega),if_pos rfl])]
  exact RX n M (fun i j hi hj=>h i j (by omega) (by omega))
def Bd (b:Nat) (q:Rat):Prop:=∃z:Int,q=(z:Rat)/\z.natAbs<=b
theorem Bd.add {a b:Nat} {p q:Rat} (h:Bd a p) (h':Bd b q):Bd (a+b) (p+q):=by
 obtain ⟨x,rfl,hx⟩:=h
 obtain ⟨y,rfl,hy⟩:=h'
 exact ⟨x+y,by rw [Rat.intCast_add],by omega⟩
theorem Bd.zero (b:Nat):Bd b 0:=⟨0,rfl,by simp⟩
theorem Bd.neg {b:Nat} {q:Rat} (h:Bd b q):Bd b (-q):=by
 obtain ⟨x,rfl,hx⟩:=h
 exact ⟨-x,by rw [Rat.intCast_neg],by omega⟩
theorem Bd.sum {b n:Nat} {f:Nat->Rat} (h:∀j,j<n->Bd b (f j)):Bd (n*b) (S n f):=by
 induction n with
 |zero=>simp only [S];exact Bd.zero _
 |succ n ih=>
  have:=(ih (fun j hj=>h j (by omega))).add (h n (by omega))
  simp only [S]
  rw [Nat.succ_mul];exact this
def Sg (x:Rat):Prop:=x=1∨x= -1
theorem Sg.mul {x y:Rat} (h:Sg x) (h':Sg y):Sg (x*y):=by
 unfold Sg at*;rcases h with h|h<;>rcases h' with h'|h'<;>rw [h,h']<;>grind
theorem Pc:∀n,Sg (jZ n)
 |0=> .inl rfl
 |n+1=>by
  have:=Pc n
  unfold Sg at*;simp only [jZ];grind
theorem Bd.sg {b:Nat} {q x:Rat} (hx:Sg x) (h:Bd b q):Bd b (x*q):=by
 rcases hx with hx|hx
 ·rw [hx];have:1*q=q:=by grind
  rw [this];exact h
 ·rw [hx];have: -1*q= -q:=by grind
  rw [this];exact h.neg
def Hx (n:Nat) (M:Nat->Nat->Rat):Prop:=∃σ τ:Nat->Rat,(∀j,Sg (σ j))/\(∀i,Sg (τ i))/\∀i j,i<n->j<n->M i j=0∨M i j=σ j*τ i
theorem Hx.minor {n:Nat} {M:Nat->Nat->Rat} (h:Hx (n+1) M) (j:Nat):Hx n (minor M j):=by
 obtain ⟨σ,τ,h1,h2,h3⟩:=h
 refine ⟨fun k=>σ (if k<j then k else k+1),fun i=>τ (i+1),fun k=>h1 _,fun i=>h2 _,fun i k hi hk=>?_⟩
 exact h3 (i+1) _ (by omega) (by split<;>omega)
def Ca:Nat->Nat
 |0=>1
 |1=>1
 |2=>2
 |3=>2
 |n+4=>(n+4)*Ca (n+3)
def sP (b:Bool):Int:=if b then 1 else 0
def d3 (a b c d e f g h i:Bool):Int:=sP a*(sP e*sP i - sP f*sP h)- sP b*(sP d*sP i - sP f*sP g)+sP c*(sP d*sP h - sP e*sP g)
theorem b3r:∀a b c d e f g h i:Bool,(d3 a b c d e f g h i).natAbs<=2:=by decide
theorem entry {x s:Rat} (h:x=0∨x=s):∃b:Bool,x=s*((sP b:Int):Rat):=by
 rcases h with h|h
 ·exact ⟨false,by rw [h];simp [sP]⟩
 ·exact ⟨true,by rw [h];simp [sP]⟩
theorem b7A {M:Nat->Nat->Rat} (h:Hx 3 M):Bd 2 (eN 3 M):=by
 obtain ⟨σ,τ,h1,h2,h3⟩:=h
 obtain ⟨a,ea⟩:=entry (h3 0 0 (by omega) (by omega))
 obtain ⟨b,eb⟩:=entry (h3 0 1 (by omega) (by omega))
 obtain ⟨c,ec⟩:=entry (h3 0 2 (by omega) (by omega))
 obtain ⟨d,ed⟩:=entry (h3 1 0 (by omega) (by omega))
 obtain ⟨e,ee⟩:=entry (h3 1 1 (by omega) (by omega))
 obtain ⟨f,ef⟩:=entry (h3 1 2 (by omega) (by omega))
 obtain ⟨g,eg⟩:=entry (h3 2 0 (by omega) (by omega))
 obtain ⟨h,eh⟩:=entry (h3 2 1 (by omega) (by omega))
 obtain ⟨i,ei⟩:=entry (h3 2 2 (by omega) (by omega))
 have hd:eN 3 M=(σ 0*σ 1*σ 2*(τ 0*τ 1*τ 2))*((d3 a b c d e f g h i:Int):Rat):=by
  simp only [eN,S,jZ,minor]
  simp only [Nat.lt_irrefl,if_false,if_true,Nat.zero_add,Nat.lt_add_one,show ¬(1<0) by omega,show (0<2) by omega,show (1<2) by omega,Nat.reduceAdd]
  rw [ea,eb,ec,ed,ee,ef,eg,eh,ei]
  unfold d3
  simp only [Rat.intCast_sub,Rat.intCast_add,Rat.intCast_mul]
  grind
 rw [hd]
 exact Bd.sg (((h1 0).mul (h1 1)).mul (h1 2)|>.mul (((h2 0).mul (h2 1)).mul (h2 2))) ⟨_,rfl,b3r _ _ _ _ _ _ _ _ _⟩
theorem AA {n b:Nat} {M:Nat->Nat->Rat} (h:Hx (n+1) M) (ih:∀j,j<n+1->Bd b (eN n (minor M j))):Bd ((n+1)*b) (eN (n+1) M):=by
 obtain ⟨σ,τ,h1,h2,h3⟩:=h
 simp only [eN]
 refine Bd.sum (fun j hj=>?_)
 rcases h3 0 j (by omega) hj with e|e
 ·rw [e];have:jZ j*0*eN n (minor M j)=0:=by grind
  rw [this];exact Bd.zero _
 ·rw [e];exact Bd.sg ((Pc j).mul ((h1 j).mul (h2 0))) (ih j hj)
theorem Hy:∀(n:Nat) {M:Nat->Nat->Rat},Hx n M->Bd (Ca n) (eN n M)
 |0,_,_=>⟨1,rfl,by simp [Ca]⟩
 |1,M,h=>by
  have:=AA (n:=0) (b:=1) h (fun j _=>⟨1,rfl,by simp⟩)
  simpa [Ca] using this
 |2,M,h=>by
  have:=AA (n:=1) (b:=1) h (fun j _=>by
   have:=AA (n:=0) (b:=1) (h.minor j) (fun j _=>⟨1,rfl,by simp⟩)
   simpa using this)
  simpa [Ca] using this
 |3,M,h=>b7A h
 |n+4,M,h=>AA (n:=n+3) h (fun j _=>Hy (n+3) (h.minor j))
end Go.Proofs.Ytnhknojfpjheoaa.Lp
set_option linter.unusedVariables false
set_option linter.unusedSimpArgs false
namespace Go.Proofs.Ytnhknojfpjheoaa.Lp
def xH (m N K:Nat) (t0 t:bw):Prop:=∀i,i<m+K->∀j,j<=N->t0.cell i j=S m (fun r=>t.cell r j*t0.cell i (t.basis r))+(if i<m then 0 else t.cell i j)
theorem xH.pivot {m N K:Nat} {t0 t:bw} (h:xH m N K t0 t) {r c:Nat} (hr:r<m) (hc:c<N) (hp:t.cell r c≠0):xH m N K t0 (t.pivot r c):=by
 intro i hi j hj
 have hj':=h i hi j hj
 have hc':=h i hi c (by omega)
 have e:S m (fun r'=>(t.pivot r c).cell r' j*t0.cell i ((t.pivot r c).basis r'))
  =S m (fun r'=>t.cell r' j*t0.cell i (t.basis r'))-(t.cell r j/t.cell r c)*S m (fun r'=>t.cell r' c*t0.cell i (t.basis r'))+(t.cell r j/t.cell r c)*t0.cell i c:=by
  rw [<-nv,<-UB]
  have e2:(t.cell r j/t.cell r c)*t0.cell i c=S m (fun r'=>if r'=r then (t.cell r j/t.cell r c)*t0.cell i c else 0):=
   (fF hr (fun _=>(t.cell r j/t.cell r c)*t0.cell i c)).symm
  rw [e2,<-xF]
  refine dD (fun r' hr'=>?_)
  simp only [bw.pivot]
  by_cases e:r'=r
  ·subst e;simp only [if_true];grind
  ·simp only [if_neg e];grind
 rw [e]
 by_cases hm:i<m
 ·rw [if_pos hm] at hj' hc'⊢;grind
 ·rw [if_neg hm] at hj' hc'⊢
  have:(t.pivot r c).cell i j=t.cell i j - t.cell i c*(t.cell r j/t.cell r c):=if_neg (by omega)
  rw [this];grind
def bw.D (t0 t:bw) (m:Nat):Rat:=eN m (fun i r=>t0.cell i (t.basis r))
theorem xH.FJ {m N K:Nat} {t0 t:bw} (h:xH m N K t0 t) {r j:Nat} (hr:r<m) (hj:j<=N):
 t.cell r j*t0.D t m=eN m (upd (fun i r=>t0.cell i (t.basis r)) r (fun i=>t0.cell i j)):=by
 unfold bw.D
 rw [WU (x:=fun r=>t.cell r j) (fun i hi=>by rw [h i (by omega) j hj,if_pos hi];grind) hr]
theorem Kt {m N K:Nat} {t0 t:bw} (h:xH m N K t0 t) {r c:Nat} (hr:r<m) (hc:c<N):t0.D (t.pivot r c) m=t.cell r c*t0.D t m:=by
 rw [h.FJ hr (by omega)]
 unfold bw.D
 refine mJ m (fun i j _ _=>?_)
 unfold upd bw.pivot
 show t0.cell i (if j=r then c else t.basis j)=_
 split<;>rfl
def nw (m:Nat) (t0 t:bw) (k:Nat) (v:Nat->Rat) (i r:Nat):Rat:=if r<m then (if i<m then t0.cell i (t.basis r) else t0.cell (m+k) (t.basis r)) else v i
theorem xH.Pd {m N K:Nat} {t0 t:bw} (h:xH m N K t0 t) {k j:Nat} (hk:k<K) (hj:j<=N):
 t.cell (m+k) j*t0.D t m=eN (m+1) (nw m t0 t k (fun i=>if i<m then t0.cell i j else t0.cell (m+k) j)):=by
 have e0:eN (m+1) (nw m t0 t k (fun i=>if i=m then 1 else 0))=t0.D t m:=by
  rw [FI m _ (fun i hi=>by unfold nw;rw [if_neg (by omega)];exact if_neg (by omega)) (by unfold nw;rw [if_neg (by omega)];exact if_pos rfl)]
  unfold bw.D
  exact mJ m (fun i r hi hr=>by unfold nw;rw [if_pos hr,if_pos hi])
 have hcr:=WU (n:=m+1) (M:=nw m t0 t k (fun i=>if i=m then 1 else 0)) (x:=fun r=>if r<m then t.cell r j else t.cell (m+k) j)
  (a:=fun i=>if i<m then t0.cell i j else t0.cell (m+k) j) (fun i hi=>by
    show _=S m _+_
    have:S m (fun r=>(if r<m then t.cell r j else t.cell (m+k) j)*nw m t0 t k (fun i=>if i=m then 1 else 0) i r)
     =S m (fun r=>t.cell r j*(if i<m then t0.cell i (t.basis r) else t0.cell (m+k) (t.basis r))):=
     dD (fun r hr=>by unfold nw;rw [if_pos hr,if_pos hr])
    rw [this]
    show _=_+(if m<m then t.cell m j else t.cell (m+k) j)*nw m t0 t k (fun i=>if i=m then 1 else 0) i m
    have e2:nw m t0 t k (fun i=>if i=m then 1 else 0) i m=if i=m then 1 else 0:=by unfold nw;rw [if_neg (by omega)]
    rw [e2,if_neg (show ¬m<m by omega)]
    by_cases hm:i<m
    ·rw [if_pos hm,if_neg (show ¬i=m by omega),h i (by omega) j hj,if_pos hm]
     simp only [if_pos hm];grind
    ·have:i=m:=by omega
     subst this
     rw [if_neg hm,if_pos rfl,h (i+k) (by omega) j hj,if_neg (show ¬i+k<i by omega)]
     simp only [if_neg hm];grind) (c:=m) (by omega)
 rw [e0] at hcr
 simp only [if_neg (show ¬m<m by omega)] at hcr
 rw [<-hcr]
 refine mJ (m+1) (fun i r hi hr=>?_)
 unfold upd nw
 by_cases hm:r<m
 ·rw [if_neg (by omega),if_pos hm,if_pos hm]
 ·rw [if_pos (by omega),if_neg hm]
def tV (m N K:Nat) (t0:bw):Prop:=∃σ τ:Nat->Rat,(∀j,Sg (σ j))/\(∀i,Sg (τ i))/\∀i j,i<m+K->j<=N->t0.cell i j=0∨t0.cell i j=σ j*τ i
theorem b3s {m N K:Nat} {t0 t:bw} (hs:tV m N K t0) (hB:∀r,r<m->t.basis r<N):Hx m (fun i r=>t0.cell i (t.basis r)):=by
 obtain ⟨σ,τ,h1,h2,h3⟩:=hs
 exact ⟨fun r=>σ (t.basis r),τ,fun r=>h1 _,h2,fun i r hi hr=>h3 i _ (by omega) (by have:=hB r hr;omega)⟩
theorem a0S {m N K:Nat} {t0 t:bw} (hs:tV m N K t0) (hB:∀r,r<m->t.basis r<N) (r:Nat) {j:Nat} (hj:j<=N):Hx m (upd (fun i r=>t0.cell i (t.basis r)) r (fun i=>t0.cell i j)):=by
 obtain ⟨σ,τ,h1,h2,h3⟩:=hs
 refine ⟨fun q=>if q=r then σ j else σ (t.basis q),τ,fun q=>by show Sg (if _ then _ else _);split<;>exact h1 _,h2,fun i q hi hq=>?_⟩
 unfold upd
 by_cases e:q=r
 ·simp only [if_pos e];exact h3 i j (by omega) hj
 ·simp only [if_neg e];exact h3 i _ (by omega) (by have:=hB q hq;omega)
theorem a0T {m N K:Nat} {t0 t:bw} (hs:tV m N K t0) (hB:∀r,r<m->t.basis r<N) {k j:Nat} (hk:k<K) (hj:j<=N):
 Hx (m+1) (nw m t0 t k (fun i=>if i<m then t0.cell i j else t0.cell (m+k) j)):=by
 obtain ⟨σ,τ,h1,h2,h3⟩:=hs
 refine ⟨fun r=>if r<m then σ (t.basis r) else σ j,fun i=>if i<m then τ i else τ (m+k),fun q=>by show Sg (if _ then _ else _);split<;>exact h1 _,
  fun q=>by show Sg (if _ then _ else _);split<;>exact h2 _,fun i r hi hr=>?_⟩
 unfold nw
 by_cases e:r<m
 ·simp only [if_pos e]
  have:=hB r e
  by_cases f:i<m
  ·simp only [if_pos f];exact h3 i _ (by omega) (by omega)
  ·simp only [if_neg f];exact h3 _ _ (by omega) (by omega)
 ·simp only [if_neg e]
  by_cases f:i<m
  ·simp only [if_pos f];exact h3 i _ (by omega) (by omega)
  ·simp only [if_neg f];exact h3 _ _ (by omega) (by omega)
structure Small (m N K:Nat) (t0 t:bw) (d:Int):Prop where
 ne:d≠0
 den:d.natAbs<=Ca m
 row:∀r,r<m->∀j,j<=N->∃a:Int,t.cell r j*(d:Rat)=(a:Rat)/\a.natAbs<=Ca m
 cost:∀k,k<K->∀j,j<=N->∃a:Int,t.cell (m+k) j*(d:Rat)=(a:Rat)/\a.natAbs<=Ca (m+1)
theorem small {m N K:Nat} {t0 t:bw} (hs:tV m N K t0) (hB:∀r,r<m->t.basis r<N) (h:xH m N K t0 t) (hD:t0.D t m≠0):∃d:Int,(d:Rat)=t0.D t m/\Small m N K t0 t d:=by
 obtain ⟨d,hd,hdb⟩:=Hy m (b3s hs hB)
 have hd':t0.D t m=(d:Rat):=hd
 refine ⟨d,hd'.symm,⟨?_,hdb,?_,?_⟩⟩
 ·intro e;apply hD;rw [hd',e];rfl
 ·intro r hr j hj
  obtain ⟨a,ha,hab⟩:=Hy m (a0S hs hB r hj)
  exact ⟨a,by rw [<-hd',h.FJ hr hj];exact ha,hab⟩
 ·intro k hk j hj
  obtain ⟨a,ha,hab⟩:=Hy (m+1) (a0T hs hB hk hj)
  exact ⟨a,by rw [<-hd',h.Pd hk hj];exact ha,hab⟩
end Go.Proofs.Ytnhknojfpjheoaa.Lp
set_option linter.unusedVariables false
set_option linter.unusedSimpArgs false
namespace Go.Proofs.Ytnhknojfpjheoaa.Lp
def init (n m:Nat) (A:Nat->Nat->Rat) (right:Nat->Rat) (s:Rat):bw where
 cell i j:=if i<m then (if j<n then A i j else if j=n+m then right i else if j=n+i then 1 else 0)
  else if i=m then (if j<n then s else 0) else (if j<n/\j+(m+1)=i then 1 else 0)
 basis i:=n+i
def ext (n:Nat) (A:Nat->Nat->Rat) (right:Nat->Rat) (x:Nat->Rat) (j:Nat):Rat:=if j<n then x j else right (j - n)- S n (fun c=>A (j - n) c*x c)
section
variable {n m:Nat} {A:Nat->Nat->Rat} {right:Nat->Rat} {s:Rat}
theorem ou (h:Rat) (x:Nat->Rat) {i:Nat} (hi:i<m):(init n m A right s).F (n+m) h x i=S n (fun j=>A i j*x j)+x (n+i)- right i*h:=by
 unfold bw.F
 rw [zn]
 have e1:S n (fun j=>(init n m A right s).cell i j*x j)=S n (fun j=>A i j*x j):=dD (fun j hj=>by simp only [init];rw [if_pos hi,if_pos hj])
 have e2:S m (fun q=>(init n m A right s).cell i (n+q)*x (n+q))=S m (fun q=>if q=i then x (n+q) else 0):=dD (fun q hq=>by
  simp only [init];rw [if_pos hi,if_neg (by omega),if_neg (by omega)]
  by_cases e:q=i
  ·rw [if_pos (by omega),if_pos e];grind
  ·rw [if_neg (by omega),if_neg e];grind)
 have e3:(init n m A right s).cell i (n+m)=right i:=by simp only [init];rw [if_pos hi,if_neg (by omega)];simp
 rw [e1,e2,e3,fF hi (fun q=>x (n+q))]
theorem AB (h:Rat) (x:Nat->Rat):(init n m A right s).F (n+m) h x (m+0)=s*S n x:=by
 unfold bw.F
 rw [zn]
 have e1:S n (fun j=>(init n m A right s).cell (m+0) j*x j)=S n (fun j=>s*x j):=dD (fun j hj=>by simp only [init];rw [if_neg (by omega),if_pos (by omega),if_pos hj])
 have e2:S m (fun q=>(init n m A right s).cell (m+0) (n+q)*x (n+q))=0:=ig (fun q hq=>by
  simp only [init];rw [if_neg (by omega),if_pos (by omega),if_neg (by omega)];grind)
 have e3:(init n m A right s).cell (m+0) (n+m)=0:=by simp only [init];rw [if_neg (by omega),if_pos (by omega),if_neg (by omega)]
 rw [e1,e2,e3,nv];grind
theorem Md (h:Rat) (x:Nat->Rat) {k:Nat} (hk:k<n):(init n m A right s).F (n+m) h x (m+(k+1))=x k:=by
 unfold bw.F
 rw [zn]
 have e1:S n (fun j=>(init n m A right s).cell (m+(k+1)) j*x j)=S n (fun j=>if j=k then x j else 0):=dD (fun j hj=>by
  simp only [init];rw [if_neg (by omega),if_neg (by omega)]
  by_cases e:j=k
  ·rw [if_pos (by omega),if_pos e];grind
  ·rw [if_neg (by omega),if_neg e];grind)
 have e2:S m (fun q=>(init n m A right s).cell (m+(k+1)) (n+q)*x (n+q))=0:=ig (fun q hq=>by
  simp only [init];rw [if_neg (by omega),if_neg (by omega),if_neg (by omega)];grind)
 have e3:(init n m A right s).cell (m+(k+1)) (n+m)=0:=by simp only [init];rw [if_neg (by omega),if_neg (by omega),if_neg (by omega)]
 rw [e1,e2,e3,fF hk x];grind
theorem sx:Valid m (n+m) (n+1) (init n m A right s) (init n m A right s):=by
 refine ⟨fun r hr=>by simp only [init];omega,fun r hr i hi=>?_,fun _ _=>Iff.rfl,fun _ _ _ _ _=>rfl⟩
 simp only [init]
 by_cases h:i<m
 ·rw [if_pos h,if_neg (by omega),if_neg (by omega)]
  by_cases e:i=r
  ·rw [if_pos (by omega),if_pos e]
  ·rw [if_neg (by omega),if_neg e]
 ·rw [if_neg h,if_neg (show ¬i=r by omega)]
  by_cases e:i=m
  ·rw [if_pos e,if_neg (by omega)]
  ·rw [if_neg e,if_neg (by omega)]
theorem FL:xH m (n+m) (n+1) (init n m A right s) (init n m A right s):=by
 intro i hi j hj
 have v:=sx (n:=n) (m:=m) (A:=A) (right:=right) (s:=s)
 have e:S m (fun r=>(init n m A right s).cell r j*(init n m A right s).cell i ((init n m A right s).basis r))=S m (fun r=>if r=i then (init n m A right s).cell r j else 0):=by
  refine dD (fun r hr=>?_)
  rw [v.unit r hr i hi]
  by_cases e:i=r
  ·rw [if_pos e,if_pos e.symm];grind
  ·rw [if_neg e,if_neg (fun h=>e h.symm)];grind
 rw [e]
 by_cases h:i<m
 ·rw [if_pos h,fF h (fun r=>(init n m A right s).cell r j)];grind
 ·rw [if_neg h,ig (fun r hr=>if_neg (by omega))];grind
theorem Pe:(init n m A right s).D (init n m A right s) m=1:=by
 unfold bw.D
 exact RX m _ (fun i j hi hj=>sx.unit j hj i (by omega))
theorem UG:NB m (n+m) (n+1) (init n m A right s):=by
 intro d h1 h2 j hj
 have hst:∀j,j<n->d j=0:=fun j hj=>by
  have:=h2 (j+1) (by omega);rwa [Md 0 d hj] at this
 by_cases h:j<n
 ·exact hst j h
 ·have:=h1 (j - n) (by omega)
  rw [ou 0 d (by omega),ig (fun c hc=>by rw [hst c hc];grind)] at this
  have e:n+(j - n)=j:=by omega
  rw [e] at this;grind
theorem AD {a ρ:Rat} (ha:Sg a) (hρ:Sg ρ) (hA:∀i j,i<m->j<n->A i j=0∨A i j=a) (hr:∀i,i<m->right i=0∨right i=ρ) (hs:Sg s):
 tV m (n+m) (n+1) (init n m A right s):=by
 refine ⟨fun j=>if j<n then a else if j=n+m then ρ else 1,fun i=>if i<m then 1 else if i=m then s*a else a,fun j=>?_,fun i=>?_,fun i j hi hj=>?_⟩
 ·show Sg (if _ then _ else if _ then _ else _)
  (repeat' split)<;>first|exact ha|exact hρ|exact .inl rfl
 ·show Sg (if _ then _ else if _ then _ else _)
  (repeat' split)<;>first|exact .inl rfl|exact hs.mul ha|exact ha
 ·have haa:a*a=1:=by rcases ha with h|h<;>rw [h]<;>grind
  simp only [init]
  by_cases h1:i<m
  ·simp only [if_pos h1]
   by_cases h2:j<n
   ·simp only [if_pos h2]
    rcases hA i j h1 h2 with h|h
    ·exact .inl h
    ·exact .inr (by rw [h];grind)
   ·simp only [if_neg h2]
    by_cases h3:j=n+m
    ·simp only [if_pos h3]
     rcases hr i h1 with h|h
     ·exact .inl h
     ·exact .inr (by rw [h];grind)
    ·simp only [if_neg h3]
     split
     ·exact .inr (by grind)
     ·exact .inl rfl
  ·simp only [if_neg h1]
   by_cases h2:i=m
   ·simp only [if_pos h2]
    by_cases h3:j<n
    ·simp only [if_pos h3];exact .inr (by grind)
    ·simp only [if_neg h3];exact .inl trivial
   ·simp only [if_neg h2]
    by_cases h3:j<n
    ·simp only [if_pos h3]
     split
     ·exact .inr haa.symm
     ·exact .inl rfl
    ·rw [if_neg (by omega)];simp
def Cb (n m:Nat) (A:Nat->Nat->Rat) (right:Nat->Rat) (x:Nat->Rat):Prop:=(∀j,j<n->0<=x j)/\∀i,i<m->S n (fun j=>A i j*x j)<=right i
def fR (n:Nat) (s:Rat) (x:Nat->Rat) (k:Nat):Rat:=if k=0 then s*S n x else x (k - 1)
def Pf (n m:Nat) (A:Nat->Nat->Rat) (right:Nat->Rat) (s:Rat) (x:Nat->Rat):Prop:=
 Cb n m A right x/\∀y,Cb n m A right y->¬eW (n+1) (fun k=>fR n s y k - fR n s x k)
theorem UH {x:Nat->Rat} {i:Nat} (hi:i<m):(init n m A right s).F (n+m) 1 (ext n A right x) i=0:=by
 rw [ou 1 _ hi]
 have e1:S n (fun j=>A i j*ext n A right x j)=S n (fun j=>A i j*x j):=dD (fun j hj=>by unfold ext;rw [if_pos hj])
 have e2:ext n A right x (n+i)=right i - S n (fun c=>A i c*x c):=by
  unfold ext;rw [if_neg (by omega)]
  have:n+i - n=i:=by omega
  rw [this]
 rw [e1,e2];grind
theorem Hz {x:Nat->Rat} (h:Cb n m A right x):∀j,j<n+m->0<=ext n A right x j:=by
 intro j hj
 unfold ext
 split
 ·next h1=>exact h.1 j h1
 ·have:=h.2 (j - n) (by omega);grind
theorem Cc (x:Nat->Rat) {k:Nat} (hk:k<n+1):(init n m A right s).F (n+m) 1 x (m+k)=fR n s x k:=by
 unfold fR
 by_cases h:k=0
 ·subst h;rw [if_pos rfl];exact AB 1 x
 ·rw [if_neg h]
  have e:k=(k - 1)+1:=by omega
  rw [e,Md 1 x (by omega)];rfl
theorem sy {x y:Nat->Rat} (h:∀j,j<n->x j=y j) {k:Nat} (hk:k<n+1):fR n s x k=fR n s y k:=by
 unfold fR
 split
 ·rw [dD h]
 ·exact h _ (by omega)
theorem UI {x y:Nat->Rat} (h:∀j,j<n->x j=y j) (hx:Cb n m A right x):Cb n m A right y:=
 ⟨fun j hj=>h j hj ▸ hx.1 j hj,fun i hi=>by
  have:=hx.2 i hi
  rwa [dD (g:=fun j=>A i j*y j) (fun j hj=>by rw [h j hj])] at this⟩
theorem RY {t:bw} (v:Valid m (n+m) (n+1) (init n m A right s) t) (hc:∀j,j<n+m->¬eW (n+1) (t.cost m j)) (hr:∀r,r<m->0<=t.cell r (n+m)):
 Pf n m A right s (t.X m (n+m)):=by
 have hX:∀j,0<=t.X m (n+m) j:=fun j=>ot (fun r hr'=>by
  split
  ·exact hr r hr'
  ·grind)
 have hF:∀i,i<m->(init n m A right s).F (n+m) 1 (t.X m (n+m)) i=0:=(v.sN 1 _).2 (fun i hi=>v.Mb hi)
 refine ⟨⟨fun j _=>hX j,fun i hi=>?_⟩,fun y hy=>?_⟩
 ·have:=hF i hi
  rw [ou 1 _ hi] at this
  have:=hX (n+i);grind
 ·refine NN.congr (opt v hc (Hz hy) (fun i hi=>UH hi)) (fun k hk=>?_)
  rw [Cc _ hk,Cc _ hk]
  rw [sy (x:=ext n A right y) (y:=y) (fun j hj=>by unfold ext;rw [if_pos hj]) hk]
theorem Me {t:bw} (v:Valid m (n+m) (n+1) (init n m A right s) t) {y:Nat->Rat} (h1:∀j,j<n->¬iT m t j->y j=0) (h2:∀i,i<m->¬iT m t (n+i)->S n (fun j=>A i j*y j)=right i):
 ∀j,j<n->y j=t.X m (n+m) j:=by
 have hz:∀j,j<n+m->(∀r,r<m->t.basis r≠j)->ext n A right y j=0:=by
  intro j hj hb
  unfold ext
  by_cases h:j<n
  ·rw [if_pos h];exact h1 j h (fun ⟨r,hr,e⟩=>hb r hr e)
  ·rw [if_neg h]
   have e:n+(j - n)=j:=by omega
   have:=h2 (j - n) (by omega) (fun ⟨r,hr,e2⟩=>hb r hr (e2.trans e))
   rw [this];grind
 have hs:∀i,i<m->t.F (n+m) 1 (ext n A right y) i=0:=(v.sN 1 _).1 (fun i hi=>UH hi)
 intro j hj
 have e:y j=ext n A right y j:=by unfold ext;rw [if_pos hj]
 by_cases hb:iT m t j
 ·obtain ⟨r,hr,rfl⟩:=hb
  rw [e,yf v hz hs hr,Aw v hr];grind
 ·rw [xG (fun r hr e2=>hb ⟨r,hr,e2⟩)]
  exact h1 j hj hb
theorem FM {t:bw} (v:Valid m (n+m) (n+1) (init n m A right s) t):(∀j,j<n->¬iT m t j->t.X m (n+m) j=0)/\(∀i,i<m->¬iT m t (n+i)->S n (fun j=>A i j*t.X m (n+m) j)=right i):=by
 refine ⟨fun j _ hb=>xG (fun r hr e=>hb ⟨r,hr,e⟩),fun i hi hb=>?_⟩
 have hF:=(v.sN 1 (t.X m (n+m))).2 (fun i hi=>v.Mb hi) i hi
 rw [ou 1 _ hi,xG (j:=n+i) (fun r hr e=>hb ⟨r,hr,e⟩)] at hF
 grind
end
end Go.Proofs.Ytnhknojfpjheoaa.Lp
set_option linter.unusedVariables false
set_option linter.unusedSimpArgs false
namespace Go.Proofs.Ytnhknojfpjheoaa.Num
theorem Pg (a b:Int):Int.gcd b (a.tmod b)=Int.gcd a b:=by
 unfold Int.gcd
 rw [Int.natAbs_tmod,Nat.gcd_comm a.natAbs,Nat.gcd_rec b.natAbs a.natAbs,Nat.gcd_comm]
def mj (n d:Int):Int:=if d<0 then -(n/(Int.gcd n d:Int)) else n/(Int.gcd n d:Int)
def kY (n d:Int):Int:=if d<0 then -(d/(Int.gcd n d:Int)) else d/(Int.gcd n d:Int)
theorem tD {n d:Int} (h:d≠0):0<(Int.gcd n d:Int):=by
 have:=Int.gcd_pos_of_ne_zero_right n h
 omega
theorem vr (n d:Int):Int.tdiv n (Int.gcd n d:Int)=n/(Int.gcd n d:Int):=
 Int.tdiv_eq_ediv_of_dvd (Int.gcd_dvd_left n d)
theorem tE (n d:Int):Int.tdiv d (Int.gcd n d:Int)=d/(Int.gcd n d:Int):=
 Int.tdiv_eq_ediv_of_dvd (Int.gcd_dvd_right n d)
theorem vE (n d:Int):Int.tdiv n (-(Int.gcd n d:Int))= -(n/(Int.gcd n d:Int)):=by
 rw [Int.tdiv_neg,vr]
theorem uA (n d:Int):Int.tdiv d (-(Int.gcd n d:Int))= -(d/(Int.gcd n d:Int)):=by
 rw [Int.tdiv_neg,tE]
theorem Es {n d:Int} (h:d≠0):Int.gcd (n/(Int.gcd n d:Int)) (d/(Int.gcd n d:Int))=1:=by
 rw [Int.gcd_ediv (Int.gcd_dvd_left n d) (Int.gcd_dvd_right n d)]
 have:=tD (n:=n) h
 simp only [Int.natAbs_natCast]
 exact Nat.div_self (by omega)
theorem Ph {n d:Int} (h:d≠0):Int.gcd (mj n d) (kY n d)=1:=by
 unfold mj kY
 split
 ·rw [Int.gcd_neg,Int.neg_gcd];exact Es h
 ·exact Es h
theorem WV {n d:Int} (h:d≠0):0<kY n d:=by
 have hg:=tD (n:=n) h
 have hd:=Int.ediv_mul_cancel (Int.gcd_dvd_right n d)
 unfold kY
 generalize (Int.gcd n d:Int)=g at*
 generalize d/g=q at*
 split
 ·have:q<0:=by
   apply Int.lt_of_not_ge;intro hq
   have:=Int.mul_nonneg hq (Int.le_of_lt hg);omega
  omega
 ·have:0<q:=by
   apply Int.lt_of_not_ge;intro hq
   have:=Int.mul_nonpos_of_nonpos_of_nonneg hq (Int.le_of_lt hg);omega
  omega
theorem Np (n d:Int):mj n d*(Int.gcd n d:Int)=if d<0 then -n else n:=by
 unfold mj;split
 ·rw [Int.neg_mul,Int.ediv_mul_cancel (Int.gcd_dvd_left n d)]
 ·rw [Int.ediv_mul_cancel (Int.gcd_dvd_left n d)]
theorem Ku (n d:Int):kY n d*(Int.gcd n d:Int)=if d<0 then -d else d:=by
 unfold kY;split
 ·rw [Int.neg_mul,Int.ediv_mul_cancel (Int.gcd_dvd_right n d)]
 ·rw [Int.ediv_mul_cancel (Int.gcd_dvd_right n d)]
theorem HJ (a g:Int) (hg:0<g) (h:g∣a):(a/g).natAbs<=a.natAbs:=by
 obtain ⟨c,rfl⟩:=h
 rw [Int.mul_ediv_cancel_left _ (by omega),Int.natAbs_mul]
 exact Nat.le_mul_of_pos_left _ (by omega)
theorem Ce {n d:Int} (h:d≠0):(mj n d).natAbs<=n.natAbs:=by
 unfold mj
 have:=HJ n _ (tD h) (Int.gcd_dvd_left n d)
 split<;>omega
theorem Cf {n d:Int} (h:d≠0):(kY n d).natAbs<=d.natAbs:=by
 unfold kY
 have:=HJ d _ (tD h) (Int.gcd_dvd_right n d)
 split<;>omega
end Go.Proofs.Ytnhknojfpjheoaa.Num
set_option linter.unusedVariables false
set_option linter.unusedSimpArgs false
namespace Go.Proofs.Ytnhknojfpjheoaa.Lp
open Go.Proofs.Ytnhknojfpjheoaa.Num
def P (q:Rat):Int×Int:=(q.num,(q.den:Int))
theorem Kv {a b c d:Int} (hb:0<b) (hd:0<d) (h1:Int.gcd a b=1) (h2:Int.gcd c d=1) (h:a*d=c*b):a=c/\b=d:=by
 have k1:b∣d:=by
  have:b∣a*d:=⟨c,by rw [h,Int.mul_comm]⟩
  have h3:=Int.dvd_gcd_mul_iff_dvd_mul.2 this
  rw [Int.gcd_comm,h1] at h3;simpa using h3
 have k2:d∣b:=by
  have:d∣c*b:=⟨a,by rw [<-h,Int.mul_comm]⟩
  have h3:=Int.dvd_gcd_mul_iff_dvd_mul.2 this
  rw [Int.gcd_comm,h2] at h3;simpa using h3
 have hbd:b=d:=Int.dvd_antisymm (by omega) (by omega) k1 k2
 subst hbd
 exact ⟨Int.eq_of_mul_eq_mul_right (by omega) h,rfl⟩
theorem xI (q:Rat):Int.gcd q.num (q.den:Int)=1:=by
 have:=q.reduced
 unfold Int.gcd
 simpa using this
theorem FN (q:Rat):0<(q.den:Int):=by have:=q.den_pos;omega
theorem qg (q:Rat):q*(q.den:Rat)=(q.num:Rat):=by
 have h:=Rat.num_divInt_den q
 rw [Rat.divInt_eq_div] at h
 have hd:((q.den:Int):Rat)≠0:=by
  intro e
  have:((q.den:Int):Rat)=((0:Int):Rat):=e
  have:=Rat.intCast_inj.1 this
  have:=q.den_pos;omega
 have e1:((q.den:Int):Rat)=(q.den:Rat):=rfl
 rw [<-e1]
 have h2:(q.num:Rat)/((q.den:Int):Rat)*((q.den:Int):Rat)=(q.num:Rat):=by grind
 rw [h] at h2;exact h2
theorem yg {a b:Int} (h:(a:Rat)=(b:Rat)):a=b:=by exact_mod_cast h
theorem Pj {n d:Int} (hd:d≠0) {q:Rat} (h:q*(d:Rat)=(n:Rat)):(mj n d,kY n d)=P q:=by
 have e1:=Np n d
 have e2:=Ku n d
 have hg:=tD (n:=n) hd
 have h3:q.num*d=n*(q.den:Int):=by
  apply yg
  rw [Rat.intCast_mul,Rat.intCast_mul,<-h]
  have hm:=qg q
  have:(((q.den:Int):Rat))=(q.den:Rat):=rfl
  rw [this]
  grind
 have key:mj n d*(q.den:Int)=q.num*kY n d:=by
  have:(mj n d*(q.den:Int))*(Int.gcd n d:Int)=(q.num*kY n d)*(Int.gcd n d:Int):=by
   have a1:(mj n d*(q.den:Int))*(Int.gcd n d:Int)=(mj n d*(Int.gcd n d:Int))*(q.den:Int):=by grind
   have a2:(q.num*kY n d)*(Int.gcd n d:Int)=q.num*(kY n d*(Int.gcd n d:Int)):=by grind
   rw [a1,a2,e1,e2]
   split<;>grind
  exact Int.eq_of_mul_eq_mul_right (by omega) this
 obtain ⟨k1,k2⟩:=Kv (WV (n:=n) hd) (FN q) (Ph hd) (xI q) key
 rw [k1,k2];rfl
def Qu (a b:Nat) (q:Rat):Prop:=∃x y:Int,y≠0/\q*(y:Rat)=(x:Rat)/\x.natAbs<=a/\y.natAbs<=b
theorem Qu.num {a b:Nat} {q:Rat} (h:Qu a b q):q.num.natAbs<=a/\q.den<=b:=by
 obtain ⟨x,y,hy,e,hx,hb⟩:=h
 have hP:=Pj hy e
 have h1:mj x y=q.num:=congrArg Prod.fst hP
 have h2:kY x y=(q.den:Int):=congrArg Prod.snd hP
 have h3:=Ce (n:=x) hy
 have h4:=Cf (n:=x) hy
 omega
theorem Qu.mono {a b a' b':Nat} {q:Rat} (h:Qu a b q) (ha:a<=a') (hb:b<=b'):Qu a' b' q:=by
 obtain ⟨x,y,hy,e,hx,hb'⟩:=h
 exact ⟨x,y,hy,e,by omega,by omega⟩
theorem Qu.mul {a b a' b':Nat} {p q:Rat} (h:Qu a b p) (h':Qu a' b' q):Qu (a*a') (b*b') (p*q):=by
 obtain ⟨x,y,hy,e,hx,hb⟩:=h
 obtain ⟨x',y',hy',e',hx',hb'⟩:=h'
 exact ⟨x*x',y*y',Int.mul_ne_zero hy hy',by rw [Rat.intCast_mul,Rat.intCast_mul,<-e,<-e'];grind,by rw [Int.natAbs_mul];exact Nat.mul_le_mul hx hx',by rw [Int.natAbs_mul];exact Nat.mul_le_mul hb hb'⟩
theorem Kw {y:Int} (h:y≠0):(y:Rat)≠0:=fun e=>h (yg (e.trans rfl))
theorem Qu.AE {x y:Int} (hy:y≠0) {a b:Nat} (hx:x.natAbs<=a) (hb:y.natAbs<=b) {q:Rat} (e:q*(y:Rat)=(x:Rat)):Qu a b q:=⟨x,y,hy,e,hx,hb⟩
theorem Qu.sub {a b a' b':Nat} {p q:Rat} (h:Qu a b p) (h':Qu a' b' q):Qu (a*b'+a'*b) (b*b') (p - q):=by
 obtain ⟨x,y,hy,e,hx,hb⟩:=h
 obtain ⟨x',y',hy',e',hx',hb'⟩:=h'
 refine ⟨x*y' - x'*y,y*y',Int.mul_ne_zero hy hy',by rw [Rat.intCast_sub,Rat.intCast_mul,Rat.intCast_mul,Rat.intCast_mul,<-e,<-e'];grind,?_,by rw [Int.natAbs_mul];exact Nat.mul_le_mul hb hb'⟩
 have h1:(x*y').natAbs<=a*b':=by rw [Int.natAbs_mul];exact Nat.mul_le_mul hx hb'
 have h2:(x'*y).natAbs<=a'*b:=by rw [Int.natAbs_mul];exact Nat.mul_le_mul hx' hb
 omega
theorem Qu.add {a b a' b':Nat} {p q:Rat} (h:Qu a b p) (h':Qu a' b' q):Qu (a*b'+a'*b) (b*b') (p+q):=by
 obtain ⟨x,y,hy,e,hx,hb⟩:=h
 obtain ⟨x',y',hy',e',hx',hb'⟩:=h'
 refine ⟨x*y'+x'*y,y*y',Int.mul_ne_zero hy hy',by rw [Rat.intCast_add,Rat.intCast_mul,Rat.intCast_mul,Rat.intCast_mul,<-e,<-e'];grind,?_,by rw [Int.natAbs_mul];exact Nat.mul_le_mul hb hb'⟩
 have h1:(x*y').natAbs<=a*b':=by rw [Int.natAbs_mul];exact Nat.mul_le_mul hx hb'
 have h2:(x'*y).natAbs<=a'*b:=by rw [Int.natAbs_mul];exact Nat.mul_le_mul hx' hb
 omega
theorem Qu.pos {a b:Nat} {q:Rat} (h:Qu a b q):0<b:=by obtain ⟨x,y,hy,_,_,hb⟩:=h;omega
theorem sub_mul (x y:Rat):(x - y)*((x.den*y.den:Int):Rat)=((x.num*y.den - y.num*x.den:Int):Rat):=by
 have h1:=qg x
 have h2:=qg y
 simp only [Rat.intCast_sub,Rat.intCast_mul]
 have e1:((x.den:Int):Rat)=(x.den:Rat):=rfl
 have e2:((y.den:Int):Rat)=(y.den:Rat):=rfl
 rw [e1,e2,<-h1,<-h2];grind
theorem add_mul (x y:Rat):(x+y)*((x.den*y.den:Int):Rat)=((x.num*y.den+y.num*x.den:Int):Rat):=by
 have h1:=qg x
 have h2:=qg y
 simp only [Rat.intCast_add,Rat.intCast_mul]
 have e1:((x.den:Int):Rat)=(x.den:Rat):=rfl
 have e2:((y.den:Int):Rat)=(y.den:Rat):=rfl
 rw [e1,e2,<-h1,<-h2];grind
theorem RZ (x y:Rat):(x*y)*((x.den*y.den:Int):Rat)=((x.num*y.num:Int):Rat):=by
 have h1:=qg x
 have h2:=qg y
 simp only [Rat.intCast_mul]
 have e1:((x.den:Int):Rat)=(x.den:Rat):=rfl
 have e2:((y.den:Int):Rat)=(y.den:Rat):=rfl
 rw [e1,e2,<-h1,<-h2];grind
theorem WW {y:Rat} (h:y≠0):y.num≠0:=fun e=>h (Rat.num_eq_zero.1 e)
theorem div_mul (x:Rat) {y:Rat} (hy:y≠0):(x/y)*((x.den*y.num:Int):Rat)=((x.num*y.den:Int):Rat):=by
 have h1:=qg x
 have h2:=qg y
 simp only [Rat.intCast_mul]
 have e1:((x.den:Int):Rat)=(x.den:Rat):=rfl
 have e2:((y.den:Int):Rat)=(y.den:Rat):=rfl
 rw [e1,e2,<-h1,<-h2];grind
theorem sign_neg {q:Rat}:q.num<0↔q<0:=by
 have:=@Rat.num_nonneg q
 constructor
 ·intro h;apply Rat.not_le.1;intro h2;have:=this.2 h2;omega
 ·intro h;apply Int.lt_of_not_ge;intro h2;exact Rat.not_le.2 h (this.1 h2)
theorem a0U {q:Rat}:0<q.num↔0<q:=by
 have h1:=@sign_neg (-q)
 rw [Rat.neg_num] at h1
 constructor
 ·intro h;have:=h1.1 (by omega);grind
 ·intro h;have:=h1.2 (by grind);omega
theorem sign_zero {q:Rat}:q.num=0↔q=0:=Rat.num_eq_zero
end Go.Proofs.Ytnhknojfpjheoaa.Lp
namespace Go.Proofs.Ytnhknojfpjheoaa.P
open Go.RowKit Go.Proofs.YtnhknojfpjheoaaW.PrintWords Go.Proofs.YtnhknojfpjheoaaW.PrintLast Go.Proofs.YtnhknojfpjheoaaW.PrintMore
attribute [local go_sem] max2_int min2_int max_two min_two max_three min_three max_four min_four
set_option linter.all false
def dn.l0:Nat->Int->Int->Option (Int)
 |0,_,_=>none
 |k+1,x0,x1=>if x1=0 then (some (mx x0 (wrap64 (-x0)))) else (dn.l0 k x1 (Int.tmod x0 x1))
def dn.f (k:Nat) (a0:Int) (a1:Int):Option (Int):=dn.l0 k a0 a1
theorem dn.cH:∀k,(∀y0 y1,aW (dn.l0 k y0 y1) (dn.l0 (k+1) y0 y1))
 |0=>fun _ _ r h=>by simp [dn.l0] at h
 |k+1=>by
  have dP:=dn.cH k
  ·intro y0 y1
   unfold dn.l0
   repeat' first
   |(with_reducible exact dP _ _)
   |(with_reducible exact aW.refl _)
   |(with_reducible exact aW.none _)
   |(with_reducible refine aW.ite ?_ ?_)
   |(with_reducible refine aW.bind ?_ (fun _=>?_))
theorem dn.mono:∀a0 a1 k,aW (dn.f k a0 a1) (dn.f (k+1) a0 a1):=by
 intro a0 a1 k
 have dP:=dn.cH k
 unfold dn.f
 repeat' first
  |(with_reducible exact dP _ _)
  |(with_reducible exact aW.refl _)
  |(with_reducible exact aW.none _)
  |(with_reducible refine aW.ite ?_ ?_)
  |(with_reducible refine aW.bind ?_ (fun _=>?_))
set_option maxHeartbeats 8000000 in
set_option maxRecDepth 100000 in
theorem dn.calls (k:Nat) (a0:Int) (a1:Int) (r:Int) (w:World) (h:dn.f k a0 a1=some r):
 Calls Try.prog 61 #[.int .i64 a0,.int .i64 a1] w fun e w'=>e= .returned (.int .i64 r)/\Below w.heap.size w w':=by
 have HB:=Aside0.mk (Below.refl w.heap.size w)
 have H:(dn.l0 k a0 a1)=some r:=h
 clear h
 have H':=Aside0.mk H
 clear H
 go_enter Try.func61,Try.ntmps61
 go_wp2
 repeat (go_quiet (fail);try go_wp2)
 go_loopg [0,1] k (fun kq v0 v1 w'=>∃(fS:Int) (eE:Int),v0= .int .i64 fS/\v1= .int .i64 eE/\Aside0 (dn.l0 kq fS eE=some r)/\Aside0 (kq<=k)/\Aside0 (Below w.heap.size w w'))
 case atStart=>exact ⟨(a0),(a1),(by first|rfl|(simp;done)|(simp [*];done)),(by first|rfl|(simp;done)|(simp [*];done)),H',⟨Nat.le_refl _⟩,⟨ax⟩⟩
 case round=>
  clear H'
  try clear p2
  obtain ⟨fS,eE,rfl,rfl,HA,fI,HB⟩:=hrel
  cases gk with
  |zero=>exact absurd HA.out (by simp [dn.l0])
  |succ k1=>
   have H:=HA.out
   clear HA
   simp only [dn.l0] at H
   by_cases c3:eE=0
   ·rw [if_pos c3] at H
    have gw:(eE==0)=true:=beq_iff_eq.mpr c3
    have mz:(eE !=0)=false:=bne_eq_false_iff_eq.mpr c3
    clear c3
    obtain ⟨ji4,UJ⟩:∃j_:Int,(mx fS (wrap64 (-fS)))=j_:=⟨_,rfl⟩
    replace H:(some ji4)=some r:=by first|(rw [UJ] at H;exact H)|(simp only [UJ] at H⊢;exact H)
    have hji4_:(if fS<(wrap64 (-fS)) then (wrap64 (-fS)) else fS)=ji4:=UJ
    obtain rfl:=Option.some.inj H
    go_wp2
    repeat (go_quiet (fail);try go_wp2)
    go_ret
    exact ⟨by first|rfl|(simp [aM,aQ]<;>rfl)|(simp only [<-UJ];first|rfl|(simp [aM,aQ]<;>rfl))|(simp [*,aM,aQ]<;>rfl),ax⟩
   ·rw [if_neg c3] at H
    have gw:(eE==0)=false:=beq_eq_false_iff_ne.mpr c3
    have mz:(eE !=0)=true:=bne_iff_ne.mpr c3
    have H':=Aside0.mk H
    clear H
    go_wp2
    repeat (go_quiet (fail);try go_wp2)
    go_roundg k1
    case measure=>have:=fI.out;omega
    case rel=>exact ⟨(eE),(Int.tmod fS eE),(by first|rfl|(simp;done)|(simp [*];done)),(by first|rfl|(simp;done)|(simp [*];done)),H',⟨by have:=fI.out;omega⟩,⟨ax⟩⟩
def dA.f (a0:Int) (a1:Int) (a2:Int):Option (Bool):=if a0>=a1 then (some (decide (a0<=a2))) else (some false)
set_option maxHeartbeats 8000000 in
set_option maxRecDepth 100000 in
theorem dA.calls (a0:Int) (a1:Int) (a2:Int) (r:Bool) (w:World) (h:dA.f a0 a1 a2=some r):
 Calls Try.prog 44 #[.int .i64 a0,.int .i64 a1,.int .i64 a2] w fun e w'=>e= .returned (.bool r)/\bl w w':=by
 have H:(if a0>=a1 then (some (decide (a0<=a2))) else (some false))=some r:=h
 clear h
 by_cases c4:a0>=a1
 ·rw [if_pos c4] at H
  have kP:decide (a1<=a0)=true:=decide_eq_true c4
  clear c4
  obtain rfl:=Option.some.inj H
  go_enter Try.func44,Try.ntmps44
  go_wp2
  go_ret
  exact ⟨by first|rfl|(simp;done)|(simp [*];done),by repeat (first|exact bl.refl _|apply bl.step)⟩
 ·rw [if_neg c4] at H
  have kP:decide (a1<=a0)=false:=decide_eq_false c4
  clear c4
  obtain rfl:=Option.some.inj H
  go_enter Try.func44,Try.ntmps44
  go_wp2
  go_ret
  exact ⟨by first|rfl|(simp;done)|(simp [*];done),by repeat (first|exact bl.refl _|apply bl.step)⟩
def bS.f (k:Nat) (aH:Int) (aG:Int):Option (Bool):=(dA.f aG 1 1000000).bind fun Ky=>(if Ky=true then ((dA.f aH (-1000000) 1000000).bind fun yh=>(if yh=true then ((dn.f k aH aG).bind fun sA=>(some (sA==1))) else (some false))) else (some false))
theorem bS.mono:∀a0 a1 k,aW (bS.f k a0 a1) (bS.f (k+1) a0 a1):=by
 intro a0 a1 k
 unfold bS.f
 repeat' first
  |(with_reducible exact dn.mono _ _ _)
  |(with_reducible exact aW.refl _)
  |(with_reducible exact aW.none _)
  |(with_reducible refine aW.ite ?_ ?_)
  |(with_reducible refine aW.bind ?_ (fun _=>?_))
set_option maxHeartbeats 8000000 in
set_option maxRecDepth 100000 in
theorem bS.calls (k:Nat) (aH:Int) (aG:Int) (r:Bool) (w:World) (h:bS.f k aH aG=some r):
 Calls Try.prog 46 #[.agg #[.int .i64 aH,.int .i64 aG]] w fun e w'=>e= .returned (.bool r)/\Below w.heap.size w w':=by
 have lY:=Try.underlying26
 have HB:=Aside0.mk (Below.refl w.heap.size w)
 have H:((dA.f aG 1 1000000).bind fun Ky=>(if Ky=true then ((dA.f aH (-1000000) 1000000).bind fun yh=>(if yh=true then ((dn.f k aH aG).bind fun sA=>(some (sA==1))) else (some false))) else (some false)))=some r:=h
 clear h
 replace H:=Option.bind_eq_some_iff.mp H
 obtain ⟨Ky,WX,H⟩:=H
 replace H:(if Ky=true then ((dA.f aH (-1000000) 1000000).bind fun yh=>(if yh=true then ((dn.f k aH aG).bind fun sA=>(some (sA==1))) else (some false))) else (some false))=some r:=H
 have A2:=Aside0.mk WX
 clear WX
 by_cases c3:Ky=true
 ·subst c3
  have H1:((dA.f aH (-1000000) 1000000).bind fun yh=>(if yh=true then ((dn.f k aH aG).bind fun sA=>(some (sA==1))) else (some false)))=some r:=by rw [if_pos rfl] at H;exact H
  clear H
  have H:=H1
  clear H1
  replace H:=Option.bind_eq_some_iff.mp H
  obtain ⟨yh,xE,H⟩:=H
  replace H:(if yh=true then ((dn.f k aH aG).bind fun sA=>(some (sA==1))) else (some false))=some r:=H
  have A4:=Aside0.mk xE
  clear xE
  by_cases c5:yh=true
  ·subst c5
   have H1:((dn.f k aH aG).bind fun sA=>(some (sA==1)))=some r:=by rw [if_pos rfl] at H;exact H
   clear H
   have H:=H1
   clear H1
   replace H:=Option.bind_eq_some_iff.mp H
   obtain ⟨sA,rO,H⟩:=H
   replace H:(some (sA==1))=some r:=H
   have A6:=Aside0.mk rO
   clear rO
   obtain rfl:=Option.some.inj H
   go_enter Try.func46,Try.ntmps46
   go_wp2_with (first|((with_reducible refine bk (N:=1) rfl ?_);refine bp ?hg (N:=1) ?hd (cs:= #[.int .i64 aH,.int .i64 aG]) (t:=26) ?hr ?_;(case hd=>rfl);(case hg=>rfl);(case hr=>first|(go_simp;done)|(go_simp;rfl));intro ov hg w7 aU hb;have ay:=Aside0.mk (ai ax hb);have aA:=Aside0.mk (aU);have aD:=Aside0.mk ((by rw [hg];exact (av ax):w.heap.size<=ov));have aR:=Aside0.mk ((by rw [hg];exact (av ax):w.heap.size<=ov));clear HB;have HB:=ay;have mK:=aA;have a3F:=aD;have a3G:=aR;clear ay aA aD aR;clear hb aU hg;have Oy:w7.cell? ⟨ov,0,none⟩=some (.int .i64 aH):=(ag mK.out 0).trans rfl;have Oz:w7.cell? ⟨ov,1,none⟩=some (.int .i64 aG):=(ag mK.out 1).trans rfl;have OA:=aa mK.out 0;have OB:=aa mK.out 1)|((with_reducible refine aZ (f:=44) rfl ?_);refine bO (some 5) rfl rfl Try.func44 (by kernel_rfl) rfl #[.int .i64 aG,.int .i64 1,.int .i64 1000000] rfl (by (try simp only [List.map_toArray,List.map_cons,List.map_nil]);first|done|rfl|(simp only [List.length_drop,List.length_take];rfl)) ?_;(with_reducible refine (dA.calls aG 1 1000000 true _ A2.out).mono ?_);rintro e w' ⟨rfl,⟨nd,rfl⟩⟩;refine ⟨_,rfl,?_⟩)|(go_at_call 44;(with_reducible refine (dA.calls aH (-1000000) 1000000 true _ A4.out).mono ?_);rintro e w' ⟨rfl,⟨nd,rfl⟩⟩)|(go_at_call 61;(with_reducible refine (dn.calls k aH aG sA _ A6.out).mono ?_);rintro e w9 ⟨rfl,hb⟩;have ay:=Aside0.mk (ah (g:=ov) (o:= .cells #[.int .i64 aH,.int .i64 aG] 26 (0,0)) (aJ mK) hb);have aA:=Aside0.mk (ai ax hb);clear mK;clear HB;have mK:=ay;have HB:=aA;clear ay aA;(try clear hb);(try clear hb2);(try clear hk);(try clear hi)))
   go_ret
   exact ⟨by first|rfl|(simp [aM,aQ]<;>rfl)|(simp [*,aM,aQ]<;>rfl),ax⟩
  ·replace c5:=Bool.eq_false_iff.mpr c5
   subst c5
   have H1:(some false)=some r:=by rw [if_neg (show ¬(false=true) by decide)] at H;exact H
   clear H
   have H:=H1
   clear H1
   obtain rfl:=Option.some.inj H
   go_enter Try.func46,Try.ntmps46
   go_wp2_with (first|((with_reducible refine bk (N:=1) rfl ?_);refine bp ?hg (N:=1) ?hd (cs:= #[.int .i64 aH,.int .i64 aG]) (t:=26) ?hr ?_;(case hd=>rfl);(case hg=>rfl);(case hr=>first|(go_simp;done)|(go_simp;rfl));intro ov hg lO aU hb;have ay:=Aside0.mk (ai ax hb);have aA:=Aside0.mk (aU);have aD:=Aside0.mk ((by rw [hg];exact (av ax):w.heap.size<=ov));have aR:=Aside0.mk ((by rw [hg];exact (av ax):w.heap.size<=ov));clear HB;have HB:=ay;have mK:=aA;have a3F:=aD;have a3G:=aR;clear ay aA aD aR;clear hb aU hg;have tF:lO.cell? ⟨ov,0,none⟩=some (.int .i64 aH):=(ag mK.out 0).trans rfl;have tG:lO.cell? ⟨ov,1,none⟩=some (.int .i64 aG):=(ag mK.out 1).trans rfl;have tH:=aa mK.out 0;have tI:=aa mK.out 1)|((with_reducible refine aZ (f:=44) rfl ?_);refine bO (some 5) rfl rfl Try.func44 (by kernel_rfl) rfl #[.int .i64 aG,.int .i64 1,.int .i64 1000000] rfl (by (try simp only [List.map_toArray,List.map_cons,List.map_nil]);first|done|rfl|(simp only [List.length_drop,List.length_take];rfl)) ?_;(with_reducible refine (dA.calls aG 1 1000000 true _ A2.out).mono ?_);rintro e w' ⟨rfl,⟨nd,rfl⟩⟩;refine ⟨_,rfl,?_⟩)|(go_at_call 44;(with_reducible refine (dA.calls aH (-1000000) 1000000 false _ A4.out).mono ?_);rintro e w' ⟨rfl,⟨nd,rfl⟩⟩))
   go_ret
   exact ⟨by first|rfl|(simp [aM,aQ]<;>rfl)|(simp [*,aM,aQ]<;>rfl),ax⟩
 ·replace c3:=Bool.eq_false_iff.mpr c3
  subst c3
  have H1:(some false)=some r:=by rw [if_neg (show ¬(false=true) by decide)] at H;exact H
  clear H
  have H:=H1
  clear H1
  obtain rfl:=Option.some.inj H
  go_enter Try.func46,Try.ntmps46
  go_wp2_with (first|((with_reducible refine bk (N:=1) rfl ?_);refine bp ?hg (N:=1) ?hd (cs:= #[.int .i64 aH,.int .i64 aG]) (t:=26) ?hr ?_;(case hd=>rfl);(case hg=>rfl);(case hr=>first|(go_simp;done)|(go_simp;rfl));intro ov hg lD aU hb;have ay:=Aside0.mk (ai ax hb);have aA:=Aside0.mk (aU);have aD:=Aside0.mk ((by rw [hg];exact (av ax):w.heap.size<=ov));have aR:=Aside0.mk ((by rw [hg];exact (av ax):w.heap.size<=ov));clear HB;have HB:=ay;have mK:=aA;have a3F:=aD;have a3G:=aR;clear ay aA aD aR;clear hb aU hg;have nC:lD.cell? ⟨ov,0,none⟩=some (.int .i64 aH):=(ag mK.out 0).trans rfl;have nD:lD.cell? ⟨ov,1,none⟩=some (.int .i64 aG):=(ag mK.out 1).trans rfl;have nE:=aa mK.out 0;have nG:=aa mK.out 1)|((with_reducible refine aZ (f:=44) rfl ?_);refine bO (some 5) rfl rfl Try.func44 (by kernel_rfl) rfl #[.int .i64 aG,.int .i64 1,.int .i64 1000000] rfl (by (try simp only [List.map_toArray,List.map_cons,List.map_nil]);first|done|rfl|(simp only [List.length_drop,List.length_take];rfl)) ?_;(with_reducible refine (dA.calls aG 1 1000000 false _ A2.out).mono ?_);rintro e w' ⟨rfl,⟨nd,rfl⟩⟩;refine ⟨_,rfl,?_⟩))
  go_ret
  exact ⟨by first|rfl|(simp [aM,aQ]<;>rfl)|(simp [*,aM,aQ]<;>rfl),ax⟩
end Go.Proofs.Ytnhknojfpjheoaa.P
