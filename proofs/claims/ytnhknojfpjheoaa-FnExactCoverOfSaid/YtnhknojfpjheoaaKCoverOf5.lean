/-
  Part 5 of the proof of this: The law FnExactCoverOf answers true at every argument.
-/
import Derived.Test.YtnhknojfpjheoaaKCoverOf2
import Derived.Test.YtnhknojfpjheoaaKCoverOf4
import Derived.Test.YtnhknojfpjheoaaProg
set_option linter.unusedVariables false
set_option linter.unusedSimpArgs false
namespace Go.Proofs.Ytnhknojfpjheoaa.Lp
def jO:Nat->Rat
 |0=>1
 |n+1=> - jO n
def minor (M:Nat->Nat->Rat) (j:Nat):Nat->Nat->Rat:=fun i k=>M (i+1) (if k<j then k else k+1)
def er:Nat->(Nat->Nat->Rat)->Rat
 |0,_=>1
 |n+1,M=>S (n+1) fun j=>jO j*M 0 j*er n (minor M j)
def upd (M:Nat->Nat->Rat) (c:Nat) (v:Nat->Rat):Nat->Nat->Rat:=fun i j=>if j=c then v i else M i j
theorem mm:∀(n:Nat) {M M':Nat->Nat->Rat},(∀i j,i<n->j<n->M i j=M' i j)->er n M=er n M'
 |0,_,_,_=>rfl
 |n+1,M,M',h=>by
  simp only [er]
  refine dw (fun j hj=>?_)
  rw [h 0 j (by omega) hj,mm n (M:=minor M j) (M':=minor M' j) (fun i k hi hk=>?_)]
  unfold minor
  split
  ·exact h _ _ (by omega) (by omega)
  ·exact h _ _ (by omega) (by omega)
theorem sF (M:Nat->Nat->Rat) (c:Nat) (v:Nat->Rat):minor (upd M c v) c=minor M c:=by
 funext i k;unfold minor upd
 by_cases h:k<c
 ·rw [if_pos h,if_neg (by omega)]
 ·rw [if_neg h,if_neg (by omega)]
theorem vJ (M:Nat->Nat->Rat) {c j:Nat} (v:Nat->Rat) (h:c<j):minor (upd M c v) j=upd (minor M j) c (fun i=>v (i+1)):=by
 funext i k;unfold minor upd
 by_cases h1:k<j
 ·simp only [if_pos h1]
 ·simp only [if_neg h1]
  rw [if_neg (by omega),if_neg (by omega)]
theorem vK (M:Nat->Nat->Rat) {c j:Nat} (v:Nat->Rat) (h:j<c):minor (upd M c v) j=upd (minor M j) (c - 1) (fun i=>v (i+1)):=by
 funext i k;unfold minor upd
 by_cases h1:k<j
 ·simp only [if_pos h1]
  rw [if_neg (by omega),if_neg (by omega)]
 ·simp only [if_neg h1]
  by_cases h2:k=c - 1
  ·rw [if_pos (by omega),if_pos h2]
  ·rw [if_neg (by omega),if_neg h2]
theorem Ch:∀(n:Nat) (M:Nat->Nat->Rat) (c:Nat),c<n->∀(a b:Rat) (v w:Nat->Rat),er n (upd M c (fun i=>a*v i+b*w i))=a*er n (upd M c v)+b*er n (upd M c w)
 |0,_,_,hc,_,_,_,_=>by omega
 |n+1,M,c,hc,a,b,v,w=>by
  simp only [er]
  rw [<-pV,<-pV,<-zq]
  refine dw (fun j hj=>?_)
  rcases Nat.lt_trichotomy c j with h|h|h
  ·rw [vJ _ _ h,vJ _ _ h,vJ _ _ h,Ch n (minor M j) c (by omega) a b (fun i=>v (i+1)) (fun i=>w (i+1))]
   have e:∀u:Nat->Rat,upd M c u 0 j=M 0 j:=fun u=>if_neg (by omega)
   rw [e,e,e];grind
  ·subst h
   rw [sF,sF,sF]
   have e:∀u:Nat->Rat,upd M c u 0 c=u 0:=fun u=>if_pos rfl
   rw [e,e,e];grind
  ·rw [vK _ _ h,vK _ _ h,vK _ _ h,Ch n (minor M j) (c - 1) (by omega) a b (fun i=>v (i+1)) (fun i=>w (i+1))]
   have e:∀u:Nat->Rat,upd M c u 0 j=M 0 j:=fun u=>if_neg (by omega)
   rw [e,e,e];grind
def swp (p j:Nat):Nat:=if j=p then p+1 else if j=p+1 then p else j
theorem zw:∀(n:Nat) (M:Nat->Nat->Rat) (p:Nat),p+1<n->er n (fun i j=>M i (swp p j))= - er n M
 |0,_,_,h=>by omega
 |n+1,M,p,hp=>by
  simp only [er]
  have key:∀j,j<n+1->j≠p->j≠p+1->jO j*M 0 (swp p j)*er n (minor (fun i j=>M i (swp p j)) j)= -(jO j*M 0 j*er n (minor M j)):=by
   intro j hj h1 h2
   have e0:swp p j=j:=by unfold swp;rw [if_neg h1,if_neg h2]
   by_cases h:j<p
   ·have e:minor (fun i j=>M i (swp p j)) j=fun i k=>minor M j i (swp (p - 1) k):=by
     funext i k;unfold minor swp
     congr 1
     clear e0
     grind
    rw [e,zw n (minor M j) (p - 1) (by omega),e0];grind
   ·have e:minor (fun i j=>M i (swp p j)) j=fun i k=>minor M j i (swp p k):=by
     funext i k;unfold minor swp
     congr 1
     clear e0
     grind
    rw [e,zw n (minor M j) p (by omega),e0];grind
  have ep:jO p*M 0 (swp p p)*er n (minor (fun i j=>M i (swp p j)) p)= -(jO (p+1)*M 0 (p+1)*er n (minor M (p+1))):=by
   have e:minor (fun i j=>M i (swp p j)) p=minor M (p+1):=by
    funext i k;unfold minor swp
    congr 1
    grind
   have e0:swp p p=p+1:=by unfold swp;rw [if_pos rfl]
   rw [e,e0];simp only [jO];grind
  have ep1:jO (p+1)*M 0 (swp p (p+1))*er n (minor (fun i j=>M i (swp p j)) (p+1))= -(jO p*M 0 p*er n (minor M p)):=by
   have e:minor (fun i j=>M i (swp p j)) (p+1)=minor M p:=by
    funext i k;unfold minor swp
    congr 1
    grind
   have e0:swp p (p+1)=p:=by unfold swp;rw [if_neg (by omega),if_pos rfl]
   rw [e,e0];simp only [jO];grind
  have all:S (n+1) (fun j=>jO j*M 0 (swp p j)*er n (minor (fun i j=>M i (swp p j)) j))
   =S (n+1) (fun j=>(-1)*(jO j*M 0 j*er n (minor M j))
      +((if j=p then jO p*M 0 p*er n (minor M p)- jO (p+1)*M 0 (p+1)*er n (minor M (p+1)) else 0)
       +(if j=p+1 then jO (p+1)*M 0 (p+1)*er n (minor M (p+1))- jO p*M 0 p*er n (minor M p) else 0))):=by
   refine dw (fun j hj=>?_)
   by_cases h1:j=p
   ·subst h1;rw [ep,if_pos rfl,if_neg (by omega)];grind
   ·by_cases h2:j=p+1
    ·subst h2;rw [ep1,if_neg h1,if_pos rfl];grind
    ·rw [key j hj h1 h2,if_neg h1,if_neg h2];grind
  rw [all,zq,zq,pV,gl (by omega) (fun _=>jO p*M 0 p*er n (minor M p)- jO (p+1)*M 0 (p+1)*er n (minor M (p+1))),
   gl (by omega) (fun _=>jO (p+1)*M 0 (p+1)*er n (minor M (p+1))- jO p*M 0 p*er n (minor M p))]
  grind
theorem Iy (n:Nat):∀(d p:Nat) (M:Nat->Nat->Rat),p+d+1<n->(∀i,i<n->M i p=M i (p+d+1))->er n M=0
 |0,p,M,hq,h=>by
  have h1:=zw n M p (by omega)
  have h2:er n (fun i j=>M i (swp p j))=er n M:=by
   refine mm n (fun i j hi hj=>?_)
   unfold swp
   by_cases e:j=p
   ·subst e;rw [if_pos rfl];exact (h i hi).symm
   ·rw [if_neg e]
    by_cases e2:j=p+1
    ·subst e2;rw [if_pos rfl];exact h i hi
    ·rw [if_neg e2]
  rw [h2] at h1;grind
 |d+1,p,M,hq,h=>by
  have h1:=zw n M (p+d+1) (by omega)
  have h2:=Iy n d p (fun i j=>M i (swp (p+d+1) j)) (by omega) (fun i hi=>by
   have e1:swp (p+d+1) p=p:=by unfold swp;rw [if_neg (by omega),if_neg (by omega)]
   have e2:swp (p+d+1) (p+d+1)=p+(d+1)+1:=by unfold swp;rw [if_pos rfl];omega
   show M i (swp (p+d+1) p)=M i (swp (p+d+1) (p+d+1))
   rw [e1,e2];exact h i hi)
  rw [h2] at h1;grind
theorem Na {n p q:Nat} {M:Nat->Nat->Rat} (hp:p<n) (hq:q<n) (hne:p≠q) (h:∀i,i<n->M i p=M i q):er n M=0:=by
 rcases Nat.lt_or_gt_of_ne hne with hl|hl
 ·refine Iy n (q - p - 1) p M (by omega) (fun i hi=>?_)
  have:p+(q - p - 1)+1=q:=by omega
  rw [this];exact h i hi
 ·refine Iy n (p - q - 1) q M (by omega) (fun i hi=>?_)
  have:q+(p - q - 1)+1=p:=by omega
  rw [this];exact (h i hi).symm
theorem upd_same (M:Nat->Nat->Rat) (c:Nat):upd M c (fun i=>M i c)=M:=by
 funext i j;unfold upd;split
 ·next h=>rw [h]
 ·rfl
theorem AB {n:Nat} (M:Nat->Nat->Rat) {c:Nat} (hc:c<n):er n (upd M c (fun _=>0))=0:=by
 have h:=Ch n M c hc 0 0 (fun _=>0) (fun _=>0)
 have e:(fun i:Nat=>(0:Rat)*(fun _=>0:Nat->Rat) i+0*(fun _=>0:Nat->Rat) i)=fun _=>0:=by funext i;grind
 rw [e] at h;rw [h];grind
theorem b0R {n:Nat} (M:Nat->Nat->Rat) {c:Nat} (hc:c<n) (x:Nat->Rat) (v:Nat->Nat->Rat) (l:Nat):
 er n (upd M c (fun i=>S l (fun r=>x r*v r i)))=S l (fun r=>x r*er n (upd M c (v r))):=by
 induction l with
 |zero=>simp only [S];exact AB M hc
 |succ l ih=>
  have h:=Ch n M c hc 1 (x l) (fun i=>S l (fun r=>x r*v r i)) (v l)
  have e:(fun i:Nat=>(1:Rat)*(fun i=>S l (fun r=>x r*v r i)) i+x l*v l i)=fun i=>S (l+1) (fun r=>x r*v r i):=by
   funext i;simp only [S];grind
  rw [e,ih] at h;rw [h];simp only [S];grind
theorem VA {n:Nat} {M:Nat->Nat->Rat} {x a:Nat->Rat} (h:∀i,i<n->a i=S n (fun r=>x r*M i r)) {c:Nat} (hc:c<n):er n (upd M c a)=x c*er n M:=by
 have h1:er n (upd M c a)=er n (upd M c (fun i=>S n (fun r=>x r*(fun r i=>M i r) r i))):=by
  refine mm n (fun i j hi _=>?_)
  unfold upd;split
  ·exact h i hi
  ·rfl
 rw [h1,b0R M hc x (fun r i=>M i r) n]
 rw [<-gl hc (fun r=>x r*er n M)]
 refine dw (fun r hr=>?_)
 by_cases e:r=c
 ·subst e;rw [if_pos rfl,upd_same]
 ·rw [if_neg e,Na (p:=c) (q:=r) hc hr (fun h=>e h.symm) (fun i _=>?_)]
  ·grind
  ·unfold upd;rw [if_pos rfl,if_neg e]
theorem DX:∀(n:Nat) (M:Nat->Nat->Rat),(∀i,i<n->M i n=0)->M n n=1->er (n+1) M=er n M
 |0,M,_,h1=>by simp only [er,S,jO];rw [h1];grind
 |n+1,M,h0,h1=>by
  have:er (n+1+1) M=S (n+1+1) (fun j=>jO j*M 0 j*er (n+1) (minor M j)):=rfl
  rw [this]
  have e:S (n+1+1) (fun j=>jO j*M 0 j*er (n+1) (minor M j))=S (n+1) (fun j=>jO j*M 0 j*er (n+1) (minor M j))+jO (n+1)*M 0 (n+1)*er (n+1) (minor M (n+1)):=rfl
  rw [e,h0 0 (by omega)]
  have e2:er (n+1) M=S (n+1) (fun j=>jO j*M 0 j*er n (minor M j)):=rfl
  rw [e2]
  have:S (n+1) (fun j=>jO j*M 0 j*er (n+1) (minor M j))=S (n+1) (fun j=>jO j*M 0 j*er n (minor M j)):=by
   refine dw (fun j hj=>?_)
   rw [DX n (minor M j) (fun i hi=>by unfold minor;rw [if_neg (by omega)];exact h0 _ (by omega)) (by unfold minor;rw [if_neg (by omega)];exact h1)]
  rw [this];grind
theorem Qb:∀(n:Nat) (M:Nat->Nat->Rat),(∀i j,i<n->j<n->M i j=if i=j then 1 else 0)->er n M=1
 |0,_,_=>rfl
 |n+1,M,h=>by
  rw [DX n M (fun i hi=>by rw [h i n (by omega) (by omega),if_neg (by omega)]) (by rw [h n n (by omega) (by omega),if_pos rfl])]
  exact Qb n M (fun i j hi hj=>h i j (by omega) (by omega))
def Bd (b:Nat) (q:Rat):Prop:=∃z:Int,q=(z:Rat)/\z.natAbs<=b
theorem Bd.add {a b:Nat} {p q:Rat} (h:Bd a p) (h':Bd b q):Bd (a+b) (p+q):=by
 obtain ⟨x,rfl,hx⟩:=h
 obtain ⟨y,rfl,hy⟩:=h'
 exact ⟨x+y,by rw [Rat.intCast_add],by omega⟩
theorem Bd.zero (b:Nat):Bd b 0:=⟨0,rfl,by simp⟩
theorem Bd.neg {b:Nat} {q:Rat} (h:Bd b q):Bd b (-q):=by
 obtain ⟨x,rfl,hx⟩:=h
 exact ⟨-x,by rw [Rat.intCast_neg],by omega⟩
theorem Bd.sum {b n:Nat} {f:Nat->Rat} (h:∀j,j<n->Bd b (f j)):Bd (n*b) (S n f):=by
 induction n with
 |zero=>simp only [S];exact Bd.zero _
 |succ n ih=>
  have:=(ih (fun j hj=>h j (by omega))).add (h n (by omega))
  simp only [S]
  rw [Nat.succ_mul];exact this
def Sg (x:Rat):Prop:=x=1∨x= -1
theorem Sg.mul {x y:Rat} (h:Sg x) (h':Sg y):Sg (x*y):=by
 unfold Sg at*;rcases h with h|h<;>rcases h' with h'|h'<;>rw [h,h']<;>grind
theorem Nb:∀n,Sg (jO n)
 |0=> .inl rfl
 |n+1=>by
  have:=Nb n
  unfold Sg at*;simp only [jO];grind
theorem Bd.sg {b:Nat} {q x:Rat} (hx:Sg x) (h:Bd b q):Bd b (x*q):=by
 rcases hx with hx|hx
 ·rw [hx];have:1*q=q:=by grind
  rw [this];exact h
 ·rw [hx];have: -1*q= -q:=by grind
  rw [this];exact h.neg
def Fw (n:Nat) (M:Nat->Nat->Rat):Prop:=∃σ τ:Nat->Rat,(∀j,Sg (σ j))/\(∀i,Sg (τ i))/\∀i j,i<n->j<n->M i j=0∨M i j=σ j*τ i
theorem Fw.minor {n:Nat} {M:Nat->Nat->Rat} (h:Fw (n+1) M) (j:Nat):Fw n (minor M j):=by
 obtain ⟨σ,τ,h1,h2,h3⟩:=h
 refine ⟨fun k=>σ (if k<j then k else k+1),fun i=>τ (i+1),fun k=>h1 _,fun i=>h2 _,fun i k hi hk=>?_⟩
 exact h3 (i+1) _ (by omega) (by split<;>omega)
def AD:Nat->Nat
 |0=>1
 |1=>1
 |2=>2
 |3=>2
 |n+4=>(n+4)*AD (n+3)
def rZ (b:Bool):Int:=if b then 1 else 0
def d3 (a b c d e f g h i:Bool):Int:=rZ a*(rZ e*rZ i - rZ f*rZ h)- rZ b*(rZ d*rZ i - rZ f*rZ g)+rZ c*(rZ d*rZ h - rZ e*rZ g)
theorem b0S:∀a b c d e f g h i:Bool,(d3 a b c d e f g h i).natAbs<=2:=by decide
theorem entry {x s:Rat} (h:x=0∨x=s):∃b:Bool,x=s*((rZ b:Int):Rat):=by
 rcases h with h|h
 ·exact ⟨false,by rw [h];simp [rZ]⟩
 ·exact ⟨true,by rw [h];simp [rZ]⟩
theorem b4S {M:Nat->Nat->Rat} (h:Fw 3 M):Bd 2 (er 3 M):=by
 obtain ⟨σ,τ,h1,h2,h3⟩:=h
 obtain ⟨a,ea⟩:=entry (h3 0 0 (by omega) (by omega))
 obtain ⟨b,eb⟩:=entry (h3 0 1 (by omega) (by omega))
 obtain ⟨c,ec⟩:=entry (h3 0 2 (by omega) (by omega))
 obtain ⟨d,ed⟩:=entry (h3 1 0 (by omega) (by omega))
 obtain ⟨e,ee⟩:=entry (h3 1 1 (by omega) (by omega))
 obtain ⟨f,ef⟩:=entry (h3 1 2 (by omega) (by omega))
 obtain ⟨g,eg⟩:=entry (h3 2 0 (by omega) (by omega))
 obtain ⟨h,eh⟩:=entry (h3 2 1 (by omega) (by omega))
 obtain ⟨i,ei⟩:=entry (h3 2 2 (by omega) (by omega))
 have hd:er 3 M=(σ 0*σ 1*σ 2*(τ 0*τ 1*τ 2))*((d3 a b c d e f g h i:Int):Rat):=by
  simp only [er,S,jO,minor]
  simp only [Nat.lt_irrefl,if_false,if_true,Nat.zero_add,Nat.lt_add_one,show ¬(1<0) by omega,show (0<2) by omega,show (1<2) by omega,Nat.reduceAdd]
  rw [ea,eb,ec,ed,ee,ef,eg,eh,ei]
  unfold d3
  simp only [Rat.intCast_sub,Rat.intCast_add,Rat.intCast_mul]
  grind
 rw [hd]
 exact Bd.sg (((h1 0).mul (h1 1)).mul (h1 2)|>.mul (((h2 0).mul (h2 1)).mul (h2 2))) ⟨_,rfl,b0S _ _ _ _ _ _ _ _ _⟩
theorem zx {n b:Nat} {M:Nat->Nat->Rat} (h:Fw (n+1) M) (ih:∀j,j<n+1->Bd b (er n (minor M j))):Bd ((n+1)*b) (er (n+1) M):=by
 obtain ⟨σ,τ,h1,h2,h3⟩:=h
 simp only [er]
 refine Bd.sum (fun j hj=>?_)
 rcases h3 0 j (by omega) hj with e|e
 ·rw [e];have:jO j*0*er n (minor M j)=0:=by grind
  rw [this];exact Bd.zero _
 ·rw [e];exact Bd.sg ((Nb j).mul ((h1 j).mul (h2 0))) (ih j hj)
theorem Fx:∀(n:Nat) {M:Nat->Nat->Rat},Fw n M->Bd (AD n) (er n M)
 |0,_,_=>⟨1,rfl,by simp [AD]⟩
 |1,M,h=>by
  have:=zx (n:=0) (b:=1) h (fun j _=>⟨1,rfl,by simp⟩)
  simpa [AD] using this
 |2,M,h=>by
  have:=zx (n:=1) (b:=1) h (fun j _=>by
   have:=zx (n:=0) (b:=1) (h.minor j) (fun j _=>⟨1,rfl,by simp⟩)
   simpa using this)
  simpa [AD] using this
 |3,M,h=>b4S h
 |n+4,M,h=>zx (n:=n+3) h (fun j _=>Fx (n+3) (h.minor j))
end Go.Proofs.Ytnhknojfpjheoaa.Lp
set_option linter.unusedVariables false
set_option linter.unusedSimpArgs false
namespace Go.Proofs.Ytnhknojfpjheoaa.Lp
def wG (m N K:Nat) (t0 t:bq):Prop:=∀i,i<m+K->∀j,j<=N->t0.cell i j=S m (fun r=>t.cell r j*t0.cell i (t.basis r))+(if i<m then 0 else t.cell i j)
theorem wG.pivot {m N K:Nat} {t0 t:bq} (h:wG m N K t0 t) {r c:Nat} (hr:r<m) (hc:c<N) (hp:t.cell r c≠0):wG m N K t0 (t.pivot r c):=by
 intro i hi j hj
 have hj':=h i hi j hj
 have hc':=h i hi c (by omega)
 have e:S m (fun r'=>(t.pivot r c).cell r' j*t0.cell i ((t.pivot r c).basis r'))
  =S m (fun r'=>t.cell r' j*t0.cell i (t.basis r'))-(t.cell r j/t.cell r c)*S m (fun r'=>t.cell r' c*t0.cell i (t.basis r'))+(t.cell r j/t.cell r c)*t0.cell i c:=by
  rw [<-pV,<-a1T]
  have e2:(t.cell r j/t.cell r c)*t0.cell i c=S m (fun r'=>if r'=r then (t.cell r j/t.cell r c)*t0.cell i c else 0):=
   (gl hr (fun _=>(t.cell r j/t.cell r c)*t0.cell i c)).symm
  rw [e2,<-zq]
  refine dw (fun r' hr'=>?_)
  simp only [bq.pivot]
  by_cases e:r'=r
  ·subst e;simp only [if_true];grind
  ·simp only [if_neg e];grind
 rw [e]
 by_cases hm:i<m
 ·rw [if_pos hm] at hj' hc'⊢;grind
 ·rw [if_neg hm] at hj' hc'⊢
  have:(t.pivot r c).cell i j=t.cell i j - t.cell i c*(t.cell r j/t.cell r c):=if_neg (by omega)
  rw [this];grind
def bq.D (t0 t:bq) (m:Nat):Rat:=er m (fun i r=>t0.cell i (t.basis r))
theorem wG.DY {m N K:Nat} {t0 t:bq} (h:wG m N K t0 t) {r j:Nat} (hr:r<m) (hj:j<=N):
 t.cell r j*t0.D t m=er m (upd (fun i r=>t0.cell i (t.basis r)) r (fun i=>t0.cell i j)):=by
 unfold bq.D
 rw [VA (x:=fun r=>t.cell r j) (fun i hi=>by rw [h i (by omega) j hj,if_pos hi];grind) hr]
theorem Iz {m N K:Nat} {t0 t:bq} (h:wG m N K t0 t) {r c:Nat} (hr:r<m) (hc:c<N):t0.D (t.pivot r c) m=t.cell r c*t0.D t m:=by
 rw [h.DY hr (by omega)]
 unfold bq.D
 refine mm m (fun i j _ _=>?_)
 unfold upd bq.pivot
 show t0.cell i (if j=r then c else t.basis j)=_
 split<;>rfl
def mU (m:Nat) (t0 t:bq) (k:Nat) (v:Nat->Rat) (i r:Nat):Rat:=if r<m then (if i<m then t0.cell i (t.basis r) else t0.cell (m+k) (t.basis r)) else v i
theorem wG.Nc {m N K:Nat} {t0 t:bq} (h:wG m N K t0 t) {k j:Nat} (hk:k<K) (hj:j<=N):
 t.cell (m+k) j*t0.D t m=er (m+1) (mU m t0 t k (fun i=>if i<m then t0.cell i j else t0.cell (m+k) j)):=by
 have e0:er (m+1) (mU m t0 t k (fun i=>if i=m then 1 else 0))=t0.D t m:=by
  rw [DX m _ (fun i hi=>by unfold mU;rw [if_neg (by omega)];exact if_neg (by omega)) (by unfold mU;rw [if_neg (by omega)];exact if_pos rfl)]
  unfold bq.D
  exact mm m (fun i r hi hr=>by unfold mU;rw [if_pos hr,if_pos hi])
 have hcr:=VA (n:=m+1) (M:=mU m t0 t k (fun i=>if i=m then 1 else 0)) (x:=fun r=>if r<m then t.cell r j else t.cell (m+k) j)
  (a:=fun i=>if i<m then t0.cell i j else t0.cell (m+k) j) (fun i hi=>by
    show _=S m _+_
    have:S m (fun r=>(if r<m then t.cell r j else t.cell (m+k) j)*mU m t0 t k (fun i=>if i=m then 1 else 0) i r)
     =S m (fun r=>t.cell r j*(if i<m then t0.cell i (t.basis r) else t0.cell (m+k) (t.basis r))):=
     dw (fun r hr=>by unfold mU;rw [if_pos hr,if_pos hr])
    rw [this]
    show _=_+(if m<m then t.cell m j else t.cell (m+k) j)*mU m t0 t k (fun i=>if i=m then 1 else 0) i m
    have e2:mU m t0 t k (fun i=>if i=m then 1 else 0) i m=if i=m then 1 else 0:=by unfold mU;rw [if_neg (by omega)]
    rw [e2,if_neg (show ¬m<m by omega)]
    by_cases hm:i<m
    ·rw [if_pos hm,if_neg (show ¬i=m by omega),h i (by omega) j hj,if_pos hm]
     simp only [if_pos hm];grind
    ·have:i=m:=by omega
     subst this
     rw [if_neg hm,if_pos rfl,h (i+k) (by omega) j hj,if_neg (show ¬i+k<i by omega)]
     simp only [if_neg hm];grind) (c:=m) (by omega)
 rw [e0] at hcr
 simp only [if_neg (show ¬m<m by omega)] at hcr
 rw [<-hcr]
 refine mm (m+1) (fun i r hi hr=>?_)
 unfold upd mU
 by_cases hm:r<m
 ·rw [if_neg (by omega),if_pos hm,if_pos hm]
 ·rw [if_pos (by omega),if_neg hm]
def sV (m N K:Nat) (t0:bq):Prop:=∃σ τ:Nat->Rat,(∀j,Sg (σ j))/\(∀i,Sg (τ i))/\∀i j,i<m+K->j<=N->t0.cell i j=0∨t0.cell i j=σ j*τ i
theorem b0T {m N K:Nat} {t0 t:bq} (hs:sV m N K t0) (hB:∀r,r<m->t.basis r<N):Fw m (fun i r=>t0.cell i (t.basis r)):=by
 obtain ⟨σ,τ,h1,h2,h3⟩:=hs
 exact ⟨fun r=>σ (t.basis r),τ,fun r=>h1 _,h2,fun i r hi hr=>h3 i _ (by omega) (by have:=hB r hr;omega)⟩
theorem Zy {m N K:Nat} {t0 t:bq} (hs:sV m N K t0) (hB:∀r,r<m->t.basis r<N) (r:Nat) {j:Nat} (hj:j<=N):Fw m (upd (fun i r=>t0.cell i (t.basis r)) r (fun i=>t0.cell i j)):=by
 obtain ⟨σ,τ,h1,h2,h3⟩:=hs
 refine ⟨fun q=>if q=r then σ j else σ (t.basis q),τ,fun q=>by show Sg (if _ then _ else _);split<;>exact h1 _,h2,fun i q hi hq=>?_⟩
 unfold upd
 by_cases e:q=r
 ·simp only [if_pos e];exact h3 i j (by omega) hj
 ·simp only [if_neg e];exact h3 i _ (by omega) (by have:=hB q hq;omega)
theorem Zz {m N K:Nat} {t0 t:bq} (hs:sV m N K t0) (hB:∀r,r<m->t.basis r<N) {k j:Nat} (hk:k<K) (hj:j<=N):
 Fw (m+1) (mU m t0 t k (fun i=>if i<m then t0.cell i j else t0.cell (m+k) j)):=by
 obtain ⟨σ,τ,h1,h2,h3⟩:=hs
 refine ⟨fun r=>if r<m then σ (t.basis r) else σ j,fun i=>if i<m then τ i else τ (m+k),fun q=>by show Sg (if _ then _ else _);split<;>exact h1 _,
  fun q=>by show Sg (if _ then _ else _);split<;>exact h2 _,fun i r hi hr=>?_⟩
 unfold mU
 by_cases e:r<m
 ·simp only [if_pos e]
  have:=hB r e
  by_cases f:i<m
  ·simp only [if_pos f];exact h3 i _ (by omega) (by omega)
  ·simp only [if_neg f];exact h3 _ _ (by omega) (by omega)
 ·simp only [if_neg e]
  by_cases f:i<m
  ·simp only [if_pos f];exact h3 i _ (by omega) (by omega)
  ·simp only [if_neg f];exact h3 _ _ (by omega) (by omega)
structure Small (m N K:Nat) (t0 t:bq) (d:Int):Prop where
 ne:d≠0
 den:d.natAbs<=AD m
 row:∀r,r<m->∀j,j<=N->∃a:Int,t.cell r j*(d:Rat)=(a:Rat)/\a.natAbs<=AD m
 cost:∀k,k<K->∀j,j<=N->∃a:Int,t.cell (m+k) j*(d:Rat)=(a:Rat)/\a.natAbs<=AD (m+1)
theorem small {m N K:Nat} {t0 t:bq} (hs:sV m N K t0) (hB:∀r,r<m->t.basis r<N) (h:wG m N K t0 t) (hD:t0.D t m≠0):∃d:Int,(d:Rat)=t0.D t m/\Small m N K t0 t d:=by
 obtain ⟨d,hd,hdb⟩:=Fx m (b0T hs hB)
 have hd':t0.D t m=(d:Rat):=hd
 refine ⟨d,hd'.symm,⟨?_,hdb,?_,?_⟩⟩
 ·intro e;apply hD;rw [hd',e];rfl
 ·intro r hr j hj
  obtain ⟨a,ha,hab⟩:=Fx m (Zy hs hB r hj)
  exact ⟨a,by rw [<-hd',h.DY hr hj];exact ha,hab⟩
 ·intro k hk j hj
  obtain ⟨a,ha,hab⟩:=Fx (m+1) (Zz hs hB hk hj)
  exact ⟨a,by rw [<-hd',h.Nc hk hj];exact ha,hab⟩
end Go.Proofs.Ytnhknojfpjheoaa.Lp
set_option linter.unusedVariables false
set_option linter.unusedSimpArgs false
namespace Go.Proofs.Ytnhknojfpjheoaa.Lp
def init (n m:Nat) (A:Nat->Nat->Rat) (right:Nat->Rat) (s:Rat):bq where
 cell i j:=if i<m then (if j<n then A i j else if j=n+m then right i else if j=n+i then 1 else 0)
  else if i=m then (if j<n then s else 0) else (if j<n/\j+(m+1)=i then 1 else 0)
 basis i:=n+i
def ext (n:Nat) (A:Nat->Nat->Rat) (right:Nat->Rat) (x:Nat->Rat) (j:Nat):Rat:=if j<n then x j else right (j - n)- S n (fun c=>A (j - n) c*x c)
section
variable {n m:Nat} {A:Nat->Nat->Rat} {right:Nat->Rat} {s:Rat}
theorem qT (h:Rat) (x:Nat->Rat) {i:Nat} (hi:i<m):(init n m A right s).F (n+m) h x i=S n (fun j=>A i j*x j)+x (n+i)- right i*h:=by
 unfold bq.F
 rw [Iq]
 have e1:S n (fun j=>(init n m A right s).cell i j*x j)=S n (fun j=>A i j*x j):=dw (fun j hj=>by simp only [init];rw [if_pos hi,if_pos hj])
 have e2:S m (fun q=>(init n m A right s).cell i (n+q)*x (n+q))=S m (fun q=>if q=i then x (n+q) else 0):=dw (fun q hq=>by
  simp only [init];rw [if_pos hi,if_neg (by omega),if_neg (by omega)]
  by_cases e:q=i
  ·rw [if_pos (by omega),if_pos e];grind
  ·rw [if_neg (by omega),if_neg e];grind)
 have e3:(init n m A right s).cell i (n+m)=right i:=by simp only [init];rw [if_pos hi,if_neg (by omega)];simp
 rw [e1,e2,e3,gl hi (fun q=>x (n+q))]
theorem ZA (h:Rat) (x:Nat->Rat):(init n m A right s).F (n+m) h x (m+0)=s*S n x:=by
 unfold bq.F
 rw [Iq]
 have e1:S n (fun j=>(init n m A right s).cell (m+0) j*x j)=S n (fun j=>s*x j):=dw (fun j hj=>by simp only [init];rw [if_neg (by omega),if_pos (by omega),if_pos hj])
 have e2:S m (fun q=>(init n m A right s).cell (m+0) (n+q)*x (n+q))=0:=jL (fun q hq=>by
  simp only [init];rw [if_neg (by omega),if_pos (by omega),if_neg (by omega)];grind)
 have e3:(init n m A right s).cell (m+0) (n+m)=0:=by simp only [init];rw [if_neg (by omega),if_pos (by omega),if_neg (by omega)]
 rw [e1,e2,e3,pV];grind
theorem Kj (h:Rat) (x:Nat->Rat) {k:Nat} (hk:k<n):(init n m A right s).F (n+m) h x (m+(k+1))=x k:=by
 unfold bq.F
 rw [Iq]
 have e1:S n (fun j=>(init n m A right s).cell (m+(k+1)) j*x j)=S n (fun j=>if j=k then x j else 0):=dw (fun j hj=>by
  simp only [init];rw [if_neg (by omega),if_neg (by omega)]
  by_cases e:j=k
  ·rw [if_pos (by omega),if_pos e];grind
  ·rw [if_neg (by omega),if_neg e];grind)
 have e2:S m (fun q=>(init n m A right s).cell (m+(k+1)) (n+q)*x (n+q))=0:=jL (fun q hq=>by
  simp only [init];rw [if_neg (by omega),if_neg (by omega),if_neg (by omega)];grind)
 have e3:(init n m A right s).cell (m+(k+1)) (n+m)=0:=by simp only [init];rw [if_neg (by omega),if_neg (by omega),if_neg (by omega)]
 rw [e1,e2,e3,gl hk x];grind
theorem rN:Valid m (n+m) (n+1) (init n m A right s) (init n m A right s):=by
 refine ⟨fun r hr=>by simp only [init];omega,fun r hr i hi=>?_,fun _ _=>Iff.rfl,fun _ _ _ _ _=>rfl⟩
 simp only [init]
 by_cases h:i<m
 ·rw [if_pos h,if_neg (by omega),if_neg (by omega)]
  by_cases e:i=r
  ·rw [if_pos (by omega),if_pos e]
  ·rw [if_neg (by omega),if_neg e]
 ·rw [if_neg h,if_neg (show ¬i=r by omega)]
  by_cases e:i=m
  ·rw [if_pos e,if_neg (by omega)]
  ·rw [if_neg e,if_neg (by omega)]
theorem DZ:wG m (n+m) (n+1) (init n m A right s) (init n m A right s):=by
 intro i hi j hj
 have v:=rN (n:=n) (m:=m) (A:=A) (right:=right) (s:=s)
 have e:S m (fun r=>(init n m A right s).cell r j*(init n m A right s).cell i ((init n m A right s).basis r))=S m (fun r=>if r=i then (init n m A right s).cell r j else 0):=by
  refine dw (fun r hr=>?_)
  rw [v.unit r hr i hi]
  by_cases e:i=r
  ·rw [if_pos e,if_pos e.symm];grind
  ·rw [if_neg e,if_neg (fun h=>e h.symm)];grind
 rw [e]
 by_cases h:i<m
 ·rw [if_pos h,gl h (fun r=>(init n m A right s).cell r j)];grind
 ·rw [if_neg h,jL (fun r hr=>if_neg (by omega))];grind
theorem Nd:(init n m A right s).D (init n m A right s) m=1:=by
 unfold bq.D
 exact Qb m _ (fun i j hi hj=>rN.unit j hj i (by omega))
theorem SI:LC m (n+m) (n+1) (init n m A right s):=by
 intro d h1 h2 j hj
 have hst:∀j,j<n->d j=0:=fun j hj=>by
  have:=h2 (j+1) (by omega);rwa [Kj 0 d hj] at this
 by_cases h:j<n
 ·exact hst j h
 ·have:=h1 (j - n) (by omega)
  rw [qT 0 d (by omega),jL (fun c hc=>by rw [hst c hc];grind)] at this
  have e:n+(j - n)=j:=by omega
  rw [e] at this;grind
theorem zy {a ρ:Rat} (ha:Sg a) (hρ:Sg ρ) (hA:∀i j,i<m->j<n->A i j=0∨A i j=a) (hr:∀i,i<m->right i=0∨right i=ρ) (hs:Sg s):
 sV m (n+m) (n+1) (init n m A right s):=by
 refine ⟨fun j=>if j<n then a else if j=n+m then ρ else 1,fun i=>if i<m then 1 else if i=m then s*a else a,fun j=>?_,fun i=>?_,fun i j hi hj=>?_⟩
 ·show Sg (if _ then _ else if _ then _ else _)
  (repeat' split)<;>first|exact ha|exact hρ|exact .inl rfl
 ·show Sg (if _ then _ else if _ then _ else _)
  (repeat' split)<;>first|exact .inl rfl|exact hs.mul ha|exact ha
 ·have haa:a*a=1:=by rcases ha with h|h<;>rw [h]<;>grind
  simp only [init]
  by_cases h1:i<m
  ·simp only [if_pos h1]
   by_cases h2:j<n
   ·simp only [if_pos h2]
    rcases hA i j h1 h2 with h|h
    ·exact .inl h
    ·exact .inr (by rw [h];grind)
   ·simp only [if_neg h2]
    by_cases h3:j=n+m
    ·simp only [if_pos h3]
     rcases hr i h1 with h|h
     ·exact .inl h
     ·exact .inr (by rw [h];grind)
    ·simp only [if_neg h3]
     split
     ·exact .inr (by grind)
     ·exact .inl rfl
  ·simp only [if_neg h1]
   by_cases h2:i=m
   ·simp only [if_pos h2]
    by_cases h3:j<n
    ·simp only [if_pos h3];exact .inr (by grind)
    ·simp only [if_neg h3];exact .inl trivial
   ·simp only [if_neg h2]
    by_cases h3:j<n
    ·simp only [if_pos h3]
     split
     ·exact .inr haa.symm
     ·exact .inl rfl
    ·rw [if_neg (by omega)];simp
def AE (n m:Nat) (A:Nat->Nat->Rat) (right:Nat->Rat) (x:Nat->Rat):Prop:=(∀j,j<n->0<=x j)/\∀i,i<m->S n (fun j=>A i j*x j)<=right i
def fM (n:Nat) (s:Rat) (x:Nat->Rat) (k:Nat):Rat:=if k=0 then s*S n x else x (k - 1)
def Nf (n m:Nat) (A:Nat->Nat->Rat) (right:Nat->Rat) (s:Rat) (x:Nat->Rat):Prop:=
 AE n m A right x/\∀y,AE n m A right y->¬eD (n+1) (fun k=>fM n s y k - fM n s x k)
theorem SJ {x:Nat->Rat} {i:Nat} (hi:i<m):(init n m A right s).F (n+m) 1 (ext n A right x) i=0:=by
 rw [qT 1 _ hi]
 have e1:S n (fun j=>A i j*ext n A right x j)=S n (fun j=>A i j*x j):=dw (fun j hj=>by unfold ext;rw [if_pos hj])
 have e2:ext n A right x (n+i)=right i - S n (fun c=>A i c*x c):=by
  unfold ext;rw [if_neg (by omega)]
  have:n+i - n=i:=by omega
  rw [this]
 rw [e1,e2];grind
theorem Fy {x:Nat->Rat} (h:AE n m A right x):∀j,j<n+m->0<=ext n A right x j:=by
 intro j hj
 unfold ext
 split
 ·next h1=>exact h.1 j h1
 ·have:=h.2 (j - n) (by omega);grind
theorem AG (x:Nat->Rat) {k:Nat} (hk:k<n+1):(init n m A right s).F (n+m) 1 x (m+k)=fM n s x k:=by
 unfold fM
 by_cases h:k=0
 ·subst h;rw [if_pos rfl];exact ZA 1 x
 ·rw [if_neg h]
  have e:k=(k - 1)+1:=by omega
  rw [e,Kj 1 x (by omega)];rfl
theorem rO {x y:Nat->Rat} (h:∀j,j<n->x j=y j) {k:Nat} (hk:k<n+1):fM n s x k=fM n s y k:=by
 unfold fM
 split
 ·rw [dw h]
 ·exact h _ (by omega)
theorem SK {x y:Nat->Rat} (h:∀j,j<n->x j=y j) (hx:AE n m A right x):AE n m A right y:=
 ⟨fun j hj=>h j hj ▸ hx.1 j hj,fun i hi=>by
  have:=hx.2 i hi
  rwa [dw (g:=fun j=>A i j*y j) (fun j hj=>by rw [h j hj])] at this⟩
theorem Qc {t:bq} (v:Valid m (n+m) (n+1) (init n m A right s) t) (hc:∀j,j<n+m->¬eD (n+1) (t.cost m j)) (hr:∀r,r<m->0<=t.cell r (n+m)):
 Nf n m A right s (t.X m (n+m)):=by
 have hX:∀j,0<=t.X m (n+m) j:=fun j=>pE (fun r hr'=>by
  split
  ·exact hr r hr'
  ·grind)
 have hF:∀i,i<m->(init n m A right s).F (n+m) 1 (t.X m (n+m)) i=0:=(v.ur 1 _).2 (fun i hi=>v.MV hi)
 refine ⟨⟨fun j _=>hX j,fun i hi=>?_⟩,fun y hy=>?_⟩
 ·have:=hF i hi
  rw [qT 1 _ hi] at this
  have:=hX (n+i);grind
 ·refine NN.congr (opt v hc (Fy hy) (fun i hi=>SJ hi)) (fun k hk=>?_)
  rw [AG _ hk,AG _ hk]
  rw [rO (x:=ext n A right y) (y:=y) (fun j hj=>by unfold ext;rw [if_pos hj]) hk]
theorem Kk {t:bq} (v:Valid m (n+m) (n+1) (init n m A right s) t) {y:Nat->Rat} (h1:∀j,j<n->¬iO m t j->y j=0) (h2:∀i,i<m->¬iO m t (n+i)->S n (fun j=>A i j*y j)=right i):
 ∀j,j<n->y j=t.X m (n+m) j:=by
 have hz:∀j,j<n+m->(∀r,r<m->t.basis r≠j)->ext n A right y j=0:=by
  intro j hj hb
  unfold ext
  by_cases h:j<n
  ·rw [if_pos h];exact h1 j h (fun ⟨r,hr,e⟩=>hb r hr e)
  ·rw [if_neg h]
   have e:n+(j - n)=j:=by omega
   have:=h2 (j - n) (by omega) (fun ⟨r,hr,e2⟩=>hb r hr (e2.trans e))
   rw [this];grind
 have hs:∀i,i<m->t.F (n+m) 1 (ext n A right y) i=0:=(v.ur 1 _).1 (fun i hi=>SJ hi)
 intro j hj
 have e:y j=ext n A right y j:=by unfold ext;rw [if_pos hj]
 by_cases hb:iO m t j
 ·obtain ⟨r,hr,rfl⟩:=hb
  rw [e,xm v hz hs hr,Ay v hr];grind
 ·rw [zu (fun r hr e2=>hb ⟨r,hr,e2⟩)]
  exact h1 j hj hb
theorem Ea {t:bq} (v:Valid m (n+m) (n+1) (init n m A right s) t):(∀j,j<n->¬iO m t j->t.X m (n+m) j=0)/\(∀i,i<m->¬iO m t (n+i)->S n (fun j=>A i j*t.X m (n+m) j)=right i):=by
 refine ⟨fun j _ hb=>zu (fun r hr e=>hb ⟨r,hr,e⟩),fun i hi hb=>?_⟩
 have hF:=(v.ur 1 (t.X m (n+m))).2 (fun i hi=>v.MV hi) i hi
 rw [qT 1 _ hi,zu (j:=n+i) (fun r hr e=>hb ⟨r,hr,e⟩)] at hF
 grind
end
end Go.Proofs.Ytnhknojfpjheoaa.Lp
set_option linter.unusedVariables false
set_option linter.unusedSimpArgs false
namespace Go.Proofs.Ytnhknojfpjheoaa.Num
theorem Ng (a b:Int):Int.gcd b (a.tmod b)=Int.gcd a b:=by
 unfold Int.gcd
 rw [Int.natAbs_tmod,Nat.gcd_comm a.natAbs,Nat.gcd_rec b.natAbs a.natAbs,Nat.gcd_comm]
def lN (n d:Int):Int:=if d<0 then -(n/(Int.gcd n d:Int)) else n/(Int.gcd n d:Int)
def kP (n d:Int):Int:=if d<0 then -(d/(Int.gcd n d:Int)) else d/(Int.gcd n d:Int)
theorem sG {n d:Int} (h:d≠0):0<(Int.gcd n d:Int):=by
 have:=Int.gcd_pos_of_ne_zero_right n h
 omega
theorem ue (n d:Int):Int.tdiv n (Int.gcd n d:Int)=n/(Int.gcd n d:Int):=
 Int.tdiv_eq_ediv_of_dvd (Int.gcd_dvd_left n d)
theorem sH (n d:Int):Int.tdiv d (Int.gcd n d:Int)=d/(Int.gcd n d:Int):=
 Int.tdiv_eq_ediv_of_dvd (Int.gcd_dvd_right n d)
theorem uu (n d:Int):Int.tdiv n (-(Int.gcd n d:Int))= -(n/(Int.gcd n d:Int)):=by
 rw [Int.tdiv_neg,ue]
theorem tL (n d:Int):Int.tdiv d (-(Int.gcd n d:Int))= -(d/(Int.gcd n d:Int)):=by
 rw [Int.tdiv_neg,sH]
theorem CM {n d:Int} (h:d≠0):Int.gcd (n/(Int.gcd n d:Int)) (d/(Int.gcd n d:Int))=1:=by
 rw [Int.gcd_ediv (Int.gcd_dvd_left n d) (Int.gcd_dvd_right n d)]
 have:=sG (n:=n) h
 simp only [Int.natAbs_natCast]
 exact Nat.div_self (by omega)
theorem Nh {n d:Int} (h:d≠0):Int.gcd (lN n d) (kP n d)=1:=by
 unfold lN kP
 split
 ·rw [Int.gcd_neg,Int.neg_gcd];exact CM h
 ·exact CM h
theorem VB {n d:Int} (h:d≠0):0<kP n d:=by
 have hg:=sG (n:=n) h
 have hd:=Int.ediv_mul_cancel (Int.gcd_dvd_right n d)
 unfold kP
 generalize (Int.gcd n d:Int)=g at*
 generalize d/g=q at*
 split
 ·have:q<0:=by
   apply Int.lt_of_not_ge;intro hq
   have:=Int.mul_nonneg hq (Int.le_of_lt hg);omega
  omega
 ·have:0<q:=by
   apply Int.lt_of_not_ge;intro hq
   have:=Int.mul_nonpos_of_nonpos_of_nonneg hq (Int.le_of_lt hg);omega
  omega
theorem Ld (n d:Int):lN n d*(Int.gcd n d:Int)=if d<0 then -n else n:=by
 unfold lN;split
 ·rw [Int.neg_mul,Int.ediv_mul_cancel (Int.gcd_dvd_left n d)]
 ·rw [Int.ediv_mul_cancel (Int.gcd_dvd_left n d)]
theorem IA (n d:Int):kP n d*(Int.gcd n d:Int)=if d<0 then -d else d:=by
 unfold kP;split
 ·rw [Int.neg_mul,Int.ediv_mul_cancel (Int.gcd_dvd_right n d)]
 ·rw [Int.ediv_mul_cancel (Int.gcd_dvd_right n d)]
theorem Fz (a g:Int) (hg:0<g) (h:g∣a):(a/g).natAbs<=a.natAbs:=by
 obtain ⟨c,rfl⟩:=h
 rw [Int.mul_ediv_cancel_left _ (by omega),Int.natAbs_mul]
 exact Nat.le_mul_of_pos_left _ (by omega)
theorem AH {n d:Int} (h:d≠0):(lN n d).natAbs<=n.natAbs:=by
 unfold lN
 have:=Fz n _ (sG h) (Int.gcd_dvd_left n d)
 split<;>omega
theorem AJ {n d:Int} (h:d≠0):(kP n d).natAbs<=d.natAbs:=by
 unfold kP
 have:=Fz d _ (sG h) (Int.gcd_dvd_right n d)
 split<;>omega
end Go.Proofs.Ytnhknojfpjheoaa.Num
set_option linter.unusedVariables false
set_option linter.unusedSimpArgs false
namespace Go.Proofs.Ytnhknojfpjheoaa.Lp
open Go.Proofs.Ytnhknojfpjheoaa.Num
def P (q:Rat):Int×Int:=(q.num,(q.den:Int))
theorem IB {a b c d:Int} (hb:0<b) (hd:0<d) (h1:Int.gcd a b=1) (h2:Int.gcd c d=1) (h:a*d=c*b):a=c/\b=d:=by
 have k1:b∣d:=by
  have:b∣a*d:=⟨c,by rw [h,Int.mul_comm]⟩
  have h3:=Int.dvd_gcd_mul_iff_dvd_mul.2 this
  rw [Int.gcd_comm,h1] at h3;simpa using h3
 have k2:d∣b:=by
  have:d∣c*b:=⟨a,by rw [<-h,Int.mul_comm]⟩
  have h3:=Int.dvd_gcd_mul_iff_dvd_mul.2 this
  rw [Int.gcd_comm,h2] at h3;simpa using h3
 have hbd:b=d:=Int.dvd_antisymm (by omega) (by omega) k1 k2
 subst hbd
 exact ⟨Int.eq_of_mul_eq_mul_right (by omega) h,rfl⟩
theorem wH (q:Rat):Int.gcd q.num (q.den:Int)=1:=by
 have:=q.reduced
 unfold Int.gcd
 simpa using this
theorem Eb (q:Rat):0<(q.den:Int):=by have:=q.den_pos;omega
theorem pW (q:Rat):q*(q.den:Rat)=(q.num:Rat):=by
 have h:=Rat.num_divInt_den q
 rw [Rat.divInt_eq_div] at h
 have hd:((q.den:Int):Rat)≠0:=by
  intro e
  have:((q.den:Int):Rat)=((0:Int):Rat):=e
  have:=Rat.intCast_inj.1 this
  have:=q.den_pos;omega
 have e1:((q.den:Int):Rat)=(q.den:Rat):=rfl
 rw [<-e1]
 have h2:(q.num:Rat)/((q.den:Int):Rat)*((q.den:Int):Rat)=(q.num:Rat):=by grind
 rw [h] at h2;exact h2
theorem xo {a b:Int} (h:(a:Rat)=(b:Rat)):a=b:=by exact_mod_cast h
theorem Nk {n d:Int} (hd:d≠0) {q:Rat} (h:q*(d:Rat)=(n:Rat)):(lN n d,kP n d)=P q:=by
 have e1:=Ld n d
 have e2:=IA n d
 have hg:=sG (n:=n) hd
 have h3:q.num*d=n*(q.den:Int):=by
  apply xo
  rw [Rat.intCast_mul,Rat.intCast_mul,<-h]
  have hm:=pW q
  have:(((q.den:Int):Rat))=(q.den:Rat):=rfl
  rw [this]
  grind
 have key:lN n d*(q.den:Int)=q.num*kP n d:=by
  have:(lN n d*(q.den:Int))*(Int.gcd n d:Int)=(q.num*kP n d)*(Int.gcd n d:Int):=by
   have a1:(lN n d*(q.den:Int))*(Int.gcd n d:Int)=(lN n d*(Int.gcd n d:Int))*(q.den:Int):=by grind
   have a2:(q.num*kP n d)*(Int.gcd n d:Int)=q.num*(kP n d*(Int.gcd n d:Int)):=by grind
   rw [a1,a2,e1,e2]
   split<;>grind
  exact Int.eq_of_mul_eq_mul_right (by omega) this
 obtain ⟨k1,k2⟩:=IB (VB (n:=n) hd) (Eb q) (Nh hd) (wH q) key
 rw [k1,k2];rfl
def Qu (a b:Nat) (q:Rat):Prop:=∃x y:Int,y≠0/\q*(y:Rat)=(x:Rat)/\x.natAbs<=a/\y.natAbs<=b
theorem Qu.num {a b:Nat} {q:Rat} (h:Qu a b q):q.num.natAbs<=a/\q.den<=b:=by
 obtain ⟨x,y,hy,e,hx,hb⟩:=h
 have hP:=Nk hy e
 have h1:lN x y=q.num:=congrArg Prod.fst hP
 have h2:kP x y=(q.den:Int):=congrArg Prod.snd hP
 have h3:=AH (n:=x) hy
 have h4:=AJ (n:=x) hy
 omega
theorem Qu.mono {a b a' b':Nat} {q:Rat} (h:Qu a b q) (ha:a<=a') (hb:b<=b'):Qu a' b' q:=by
 obtain ⟨x,y,hy,e,hx,hb'⟩:=h
 exact ⟨x,y,hy,e,by omega,by omega⟩
theorem Qu.mul {a b a' b':Nat} {p q:Rat} (h:Qu a b p) (h':Qu a' b' q):Qu (a*a') (b*b') (p*q):=by
 obtain ⟨x,y,hy,e,hx,hb⟩:=h
 obtain ⟨x',y',hy',e',hx',hb'⟩:=h'
 exact ⟨x*x',y*y',Int.mul_ne_zero hy hy',by rw [Rat.intCast_mul,Rat.intCast_mul,<-e,<-e'];grind,by rw [Int.natAbs_mul];exact Nat.mul_le_mul hx hx',by rw [Int.natAbs_mul];exact Nat.mul_le_mul hb hb'⟩
theorem IC {y:Int} (h:y≠0):(y:Rat)≠0:=fun e=>h (xo (e.trans rfl))
theorem Qu.FA {x y:Int} (hy:y≠0) {a b:Nat} (hx:x.natAbs<=a) (hb:y.natAbs<=b) {q:Rat} (e:q*(y:Rat)=(x:Rat)):Qu a b q:=⟨x,y,hy,e,hx,hb⟩
theorem Qu.sub {a b a' b':Nat} {p q:Rat} (h:Qu a b p) (h':Qu a' b' q):Qu (a*b'+a'*b) (b*b') (p - q):=by
 obtain ⟨x,y,hy,e,hx,hb⟩:=h
 obtain ⟨x',y',hy',e',hx',hb'⟩:=h'
 refine ⟨x*y' - x'*y,y*y',Int.mul_ne_zero hy hy',by rw [Rat.intCast_sub,Rat.intCast_mul,Rat.intCast_mul,Rat.intCast_mul,<-e,<-e'];grind,?_,by rw [Int.natAbs_mul];exact Nat.mul_le_mul hb hb'⟩
 have h1:(x*y').natAbs<=a*b':=by rw [Int.natAbs_mul];exact Nat.mul_le_mul hx hb'
 have h2:(x'*y).natAbs<=a'*b:=by rw [Int.natAbs_mul];exact Nat.mul_le_mul hx' hb
 omega
theorem Qu.add {a b a' b':Nat} {p q:Rat} (h:Qu a b p) (h':Qu a' b' q):Qu (a*b'+a'*b) (b*b') (p+q):=by
 obtain ⟨x,y,hy,e,hx,hb⟩:=h
 obtain ⟨x',y',hy',e',hx',hb'⟩:=h'
 refine ⟨x*y'+x'*y,y*y',Int.mul_ne_zero hy hy',by rw [Rat.intCast_add,Rat.intCast_mul,Rat.intCast_mul,Rat.intCast_mul,<-e,<-e'];grind,?_,by rw [Int.natAbs_mul];exact Nat.mul_le_mul hb hb'⟩
 have h1:(x*y').natAbs<=a*b':=by rw [Int.natAbs_mul];exact Nat.mul_le_mul hx hb'
 have h2:(x'*y).natAbs<=a'*b:=by rw [Int.natAbs_mul];exact Nat.mul_le_mul hx' hb
 omega
theorem Qu.pos {a b:Nat} {q:Rat} (h:Qu a b q):0<b:=by obtain ⟨x,y,hy,_,_,hb⟩:=h;omega
theorem sub_mul (x y:Rat):(x - y)*((x.den*y.den:Int):Rat)=((x.num*y.den - y.num*x.den:Int):Rat):=by
 have h1:=pW x
 have h2:=pW y
 simp only [Rat.intCast_sub,Rat.intCast_mul]
 have e1:((x.den:Int):Rat)=(x.den:Rat):=rfl
 have e2:((y.den:Int):Rat)=(y.den:Rat):=rfl
 rw [e1,e2,<-h1,<-h2];grind
theorem add_mul (x y:Rat):(x+y)*((x.den*y.den:Int):Rat)=((x.num*y.den+y.num*x.den:Int):Rat):=by
 have h1:=pW x
 have h2:=pW y
 simp only [Rat.intCast_add,Rat.intCast_mul]
 have e1:((x.den:Int):Rat)=(x.den:Rat):=rfl
 have e2:((y.den:Int):Rat)=(y.den:Rat):=rfl
 rw [e1,e2,<-h1,<-h2];grind
theorem Qd (x y:Rat):(x*y)*((x.den*y.den:Int):Rat)=((x.num*y.num:Int):Rat):=by
 have h1:=pW x
 have h2:=pW y
 simp only [Rat.intCast_mul]
 have e1:((x.den:Int):Rat)=(x.den:Rat):=rfl
 have e2:((y.den:Int):Rat)=(y.den:Rat):=rfl
 rw [e1,e2,<-h1,<-h2];grind
theorem VC {y:Rat} (h:y≠0):y.num≠0:=fun e=>h (Rat.num_eq_zero.1 e)
theorem div_mul (x:Rat) {y:Rat} (hy:y≠0):(x/y)*((x.den*y.num:Int):Rat)=((x.num*y.den:Int):Rat):=by
 have h1:=pW x
 have h2:=pW y
 simp only [Rat.intCast_mul]
 have e1:((x.den:Int):Rat)=(x.den:Rat):=rfl
 have e2:((y.den:Int):Rat)=(y.den:Rat):=rfl
 rw [e1,e2,<-h1,<-h2];grind
theorem sign_neg {q:Rat}:q.num<0↔q<0:=by
 have:=@Rat.num_nonneg q
 constructor
 ·intro h;apply Rat.not_le.1;intro h2;have:=this.2 h2;omega
 ·intro h;apply Int.lt_of_not_ge;intro h2;exact Rat.not_le.2 h (this.1 h2)
theorem ZB {q:Rat}:0<q.num↔0<q:=by
 have h1:=@sign_neg (-q)
 rw [Rat.neg_num] at h1
 constructor
 ·intro h;have:=h1.1 (by omega);grind
 ·intro h;have:=h1.2 (by grind);omega
theorem sign_zero {q:Rat}:q.num=0↔q=0:=Rat.num_eq_zero
end Go.Proofs.Ytnhknojfpjheoaa.Lp
namespace Go.Proofs.Ytnhknojfpjheoaa.P
open Go.RowKit Go.Proofs.YtnhknojfpjheoaaW.PrintWords Go.Proofs.YtnhknojfpjheoaaW.PrintLast Go.Proofs.YtnhknojfpjheoaaW.PrintMore
attribute [local go_sem] max2_int min2_int max_two min_two max_three min_three max_four min_four
set_option linter.all false
def dg.l0:Nat->Int->Int->Option (Int)
 |0,_,_=>none
 |k+1,x0,x1=>if x1=0 then (some (mx x0 (wrap64 (-x0)))) else (dg.l0 k x1 (Int.tmod x0 x1))
def dg.f (k:Nat) (a0:Int) (a1:Int):Option (Int):=dg.l0 k a0 a1
theorem dg.cI:∀k,(∀y0 y1,aT (dg.l0 k y0 y1) (dg.l0 (k+1) y0 y1))
 |0=>fun _ _ r h=>by simp [dg.l0] at h
 |k+1=>by
  have dL:=dg.cI k
  ·intro y0 y1
   unfold dg.l0
   repeat' first
   |(with_reducible exact dL _ _)
   |(with_reducible exact aT.refl _)
   |(with_reducible exact aT.none _)
   |(with_reducible refine aT.ite ?_ ?_)
   |(with_reducible refine aT.bind ?_ (fun _=>?_))
theorem dg.mono:∀a0 a1 k,aT (dg.f k a0 a1) (dg.f (k+1) a0 a1):=by
 intro a0 a1 k
 have dL:=dg.cI k
 unfold dg.f
 repeat' first
  |(with_reducible exact dL _ _)
  |(with_reducible exact aT.refl _)
  |(with_reducible exact aT.none _)
  |(with_reducible refine aT.ite ?_ ?_)
  |(with_reducible refine aT.bind ?_ (fun _=>?_))
set_option maxHeartbeats 8000000 in
set_option maxRecDepth 100000 in
theorem dg.calls (k:Nat) (a0:Int) (a1:Int) (r:Int) (w:World) (h:dg.f k a0 a1=some r):
 Calls Try.prog 61 #[.int .i64 a0,.int .i64 a1] w fun e w'=>e= .returned (.int .i64 r)/\Below w.heap.size w w':=by
 have HB:=Aside0.mk (Below.refl w.heap.size w)
 have H:(dg.l0 k a0 a1)=some r:=h
 clear h
 have H':=Aside0.mk H
 clear H
 go_enter Try.func61,Try.ntmps61
 go_wp2
 repeat (go_quiet (fail);try go_wp2)
 go_loopg [0,1] k (fun kq v0 v1 w'=>∃(fB:Int) (dV:Int),v0= .int .i64 fB/\v1= .int .i64 dV/\Aside0 (dg.l0 kq fB dV=some r)/\Aside0 (kq<=k)/\Aside0 (Below w.heap.size w w'))
 case atStart=>exact ⟨(a0),(a1),(by first|rfl|(simp;done)|(simp [*];done)),(by first|rfl|(simp;done)|(simp [*];done)),H',⟨Nat.le_refl _⟩,⟨ax⟩⟩
 case round=>
  clear H'
  try clear p2
  obtain ⟨fB,dV,rfl,rfl,HA,fR,HB⟩:=hrel
  cases gk with
  |zero=>exact absurd HA.out (by simp [dg.l0])
  |succ k1=>
   have H:=HA.out
   clear HA
   simp only [dg.l0] at H
   by_cases c3:dV=0
   ·rw [if_pos c3] at H
    have gv:(dV==0)=true:=beq_iff_eq.mpr c3
    have mX:(dV !=0)=false:=bne_eq_false_iff_eq.mpr c3
    clear c3
    obtain ⟨ji4,SL⟩:∃j_:Int,(mx fB (wrap64 (-fB)))=j_:=⟨_,rfl⟩
    replace H:(some ji4)=some r:=by first|(rw [SL] at H;exact H)|(simp only [SL] at H⊢;exact H)
    have hji4_:(if fB<(wrap64 (-fB)) then (wrap64 (-fB)) else fB)=ji4:=SL
    obtain rfl:=Option.some.inj H
    go_wp2
    repeat (go_quiet (fail);try go_wp2)
    go_ret
    exact ⟨by first|rfl|(simp [aQ,aR]<;>rfl)|(simp only [<-SL];first|rfl|(simp [aQ,aR]<;>rfl))|(simp [*,aQ,aR]<;>rfl),ax⟩
   ·rw [if_neg c3] at H
    have gv:(dV==0)=false:=beq_eq_false_iff_ne.mpr c3
    have mX:(dV !=0)=true:=bne_iff_ne.mpr c3
    have H':=Aside0.mk H
    clear H
    go_wp2
    repeat (go_quiet (fail);try go_wp2)
    go_roundg k1
    case measure=>have:=fR.out;omega
    case rel=>exact ⟨(dV),(Int.tmod fB dV),(by first|rfl|(simp;done)|(simp [*];done)),(by first|rfl|(simp;done)|(simp [*];done)),H',⟨by have:=fR.out;omega⟩,⟨ax⟩⟩
def fI.f (a0:Int) (a1:Int) (a2:Int):Option (Bool):=if a0>=a1 then (some (decide (a0<=a2))) else (some false)
set_option maxHeartbeats 8000000 in
set_option maxRecDepth 100000 in
theorem fI.calls (a0:Int) (a1:Int) (a2:Int) (r:Bool) (w:World) (h:fI.f a0 a1 a2=some r):
 Calls Try.prog 44 #[.int .i64 a0,.int .i64 a1,.int .i64 a2] w fun e w'=>e= .returned (.bool r)/\bg w w':=by
 have H:(if a0>=a1 then (some (decide (a0<=a2))) else (some false))=some r:=h
 clear h
 by_cases c4:a0>=a1
 ·rw [if_pos c4] at H
  have kC:decide (a1<=a0)=true:=decide_eq_true c4
  clear c4
  obtain rfl:=Option.some.inj H
  go_enter Try.func44,Try.ntmps44
  go_wp2
  go_ret
  exact ⟨by first|rfl|(simp;done)|(simp [*];done),by repeat (first|exact bg.refl _|apply bg.step)⟩
 ·rw [if_neg c4] at H
  have kC:decide (a1<=a0)=false:=decide_eq_false c4
  clear c4
  obtain rfl:=Option.some.inj H
  go_enter Try.func44,Try.ntmps44
  go_wp2
  go_ret
  exact ⟨by first|rfl|(simp;done)|(simp [*];done),by repeat (first|exact bg.refl _|apply bg.step)⟩
def cM.f (k:Nat) (aH:Int) (aG:Int):Option (Bool):=(fI.f aG 1 1000000).bind fun ID=>(if ID=true then ((fI.f aH (-1000000) 1000000).bind fun xp=>(if xp=true then ((dg.f k aH aG).bind fun rP=>(some (rP==1))) else (some false))) else (some false))
theorem cM.mono:∀a0 a1 k,aT (cM.f k a0 a1) (cM.f (k+1) a0 a1):=by
 intro a0 a1 k
 unfold cM.f
 repeat' first
  |(with_reducible exact dg.mono _ _ _)
  |(with_reducible exact aT.refl _)
  |(with_reducible exact aT.none _)
  |(with_reducible refine aT.ite ?_ ?_)
  |(with_reducible refine aT.bind ?_ (fun _=>?_))
set_option maxHeartbeats 8000000 in
set_option maxRecDepth 100000 in
theorem cM.calls (k:Nat) (aH:Int) (aG:Int) (r:Bool) (w:World) (h:cM.f k aH aG=some r):
 Calls Try.prog 46 #[.agg #[.int .i64 aH,.int .i64 aG]] w fun e w'=>e= .returned (.bool r)/\Below w.heap.size w w':=by
 have mM:=Try.underlying26
 have HB:=Aside0.mk (Below.refl w.heap.size w)
 have H:((fI.f aG 1 1000000).bind fun ID=>(if ID=true then ((fI.f aH (-1000000) 1000000).bind fun xp=>(if xp=true then ((dg.f k aH aG).bind fun rP=>(some (rP==1))) else (some false))) else (some false)))=some r:=h
 clear h
 replace H:=Option.bind_eq_some_iff.mp H
 obtain ⟨ID,VD,H⟩:=H
 replace H:(if ID=true then ((fI.f aH (-1000000) 1000000).bind fun xp=>(if xp=true then ((dg.f k aH aG).bind fun rP=>(some (rP==1))) else (some false))) else (some false))=some r:=H
 have A2:=Aside0.mk VD
 clear VD
 by_cases c3:ID=true
 ·subst c3
  have H1:((fI.f aH (-1000000) 1000000).bind fun xp=>(if xp=true then ((dg.f k aH aG).bind fun rP=>(some (rP==1))) else (some false)))=some r:=by rw [if_pos rfl] at H;exact H
  clear H
  have H:=H1
  clear H1
  replace H:=Option.bind_eq_some_iff.mp H
  obtain ⟨xp,wB,H⟩:=H
  replace H:(if xp=true then ((dg.f k aH aG).bind fun rP=>(some (rP==1))) else (some false))=some r:=H
  have A4:=Aside0.mk wB
  clear wB
  by_cases c5:xp=true
  ·subst c5
   have H1:((dg.f k aH aG).bind fun rP=>(some (rP==1)))=some r:=by rw [if_pos rfl] at H;exact H
   clear H
   have H:=H1
   clear H1
   replace H:=Option.bind_eq_some_iff.mp H
   obtain ⟨rP,wh,H⟩:=H
   replace H:(some (rP==1))=some r:=H
   have A6:=Aside0.mk wh
   clear wh
   obtain rfl:=Option.some.inj H
   go_enter Try.func46,Try.ntmps46
   go_wp2_with (first|((with_reducible refine bp (N:=1) rfl ?_);refine bw ?hg (N:=1) ?hd (cs:= #[.int .i64 aH,.int .i64 aG]) (t:=26) ?hr ?_;(case hd=>rfl);(case hg=>rfl);(case hr=>first|(go_simp;done)|(go_simp;rfl));intro nK hg w7 aU hb;have aA:=Aside0.mk (ah ax hb);have aC:=Aside0.mk (aU);have aD:=Aside0.mk ((by rw [hg];exact (av ax):w.heap.size<=nK));have aJ:=Aside0.mk ((by rw [hg];exact (av ax):w.heap.size<=nK));clear HB;have HB:=aA;have mo:=aC;have a1X:=aD;have a1Y:=aJ;clear aA aC aD aJ;clear hb aU hg;have Ms:w7.cell? ⟨nK,0,none⟩=some (.int .i64 aH):=(af mo.out 0).trans rfl;have Mt:w7.cell? ⟨nK,1,none⟩=some (.int .i64 aG):=(af mo.out 1).trans rfl;have Mu:=aa mo.out 0;have Mv:=aa mo.out 1)|((with_reducible refine aY (f:=44) rfl ?_);refine bP (some 5) rfl rfl Try.func44 (by kernel_rfl) rfl #[.int .i64 aG,.int .i64 1,.int .i64 1000000] rfl (by (try simp only [List.map_toArray,List.map_cons,List.map_nil]);first|done|rfl|(simp only [List.length_drop,List.length_take];rfl)) ?_;(with_reducible refine (fI.calls aG 1 1000000 true _ A2.out).mono ?_);rintro e w' ⟨rfl,⟨nd,rfl⟩⟩;refine ⟨_,rfl,?_⟩)|(go_at_call 44;(with_reducible refine (fI.calls aH (-1000000) 1000000 true _ A4.out).mono ?_);rintro e w' ⟨rfl,⟨nd,rfl⟩⟩)|(go_at_call 61;(with_reducible refine (dg.calls k aH aG rP _ A6.out).mono ?_);rintro e w9 ⟨rfl,hb⟩;have aA:=Aside0.mk (ai (g:=nK) (o:= .cells #[.int .i64 aH,.int .i64 aG] 26 (0,0)) (aI mo) hb);have aC:=Aside0.mk (ah ax hb);clear mo;clear HB;have mo:=aA;have HB:=aC;clear aA aC;(try clear hb);(try clear hb2);(try clear hk);(try clear hi)))
   go_ret
   exact ⟨by first|rfl|(simp [aQ,aR]<;>rfl)|(simp [*,aQ,aR]<;>rfl),ax⟩
  ·replace c5:=Bool.eq_false_iff.mpr c5
   subst c5
   have H1:(some false)=some r:=by rw [if_neg (show ¬(false=true) by decide)] at H;exact H
   clear H
   have H:=H1
   clear H1
   obtain rfl:=Option.some.inj H
   go_enter Try.func46,Try.ntmps46
   go_wp2_with (first|((with_reducible refine bp (N:=1) rfl ?_);refine bw ?hg (N:=1) ?hd (cs:= #[.int .i64 aH,.int .i64 aG]) (t:=26) ?hr ?_;(case hd=>rfl);(case hg=>rfl);(case hr=>first|(go_simp;done)|(go_simp;rfl));intro nK hg jY aU hb;have aA:=Aside0.mk (ah ax hb);have aC:=Aside0.mk (aU);have aD:=Aside0.mk ((by rw [hg];exact (av ax):w.heap.size<=nK));have aJ:=Aside0.mk ((by rw [hg];exact (av ax):w.heap.size<=nK));clear HB;have HB:=aA;have mo:=aC;have a1X:=aD;have a1Y:=aJ;clear aA aC aD aJ;clear hb aU hg;have sI:jY.cell? ⟨nK,0,none⟩=some (.int .i64 aH):=(af mo.out 0).trans rfl;have sJ:jY.cell? ⟨nK,1,none⟩=some (.int .i64 aG):=(af mo.out 1).trans rfl;have sK:=aa mo.out 0;have sL:=aa mo.out 1)|((with_reducible refine aY (f:=44) rfl ?_);refine bP (some 5) rfl rfl Try.func44 (by kernel_rfl) rfl #[.int .i64 aG,.int .i64 1,.int .i64 1000000] rfl (by (try simp only [List.map_toArray,List.map_cons,List.map_nil]);first|done|rfl|(simp only [List.length_drop,List.length_take];rfl)) ?_;(with_reducible refine (fI.calls aG 1 1000000 true _ A2.out).mono ?_);rintro e w' ⟨rfl,⟨nd,rfl⟩⟩;refine ⟨_,rfl,?_⟩)|(go_at_call 44;(with_reducible refine (fI.calls aH (-1000000) 1000000 false _ A4.out).mono ?_);rintro e w' ⟨rfl,⟨nd,rfl⟩⟩))
   go_ret
   exact ⟨by first|rfl|(simp [aQ,aR]<;>rfl)|(simp [*,aQ,aR]<;>rfl),ax⟩
 ·replace c3:=Bool.eq_false_iff.mpr c3
  subst c3
  have H1:(some false)=some r:=by rw [if_neg (show ¬(false=true) by decide)] at H;exact H
  clear H
  have H:=H1
  clear H1
  obtain rfl:=Option.some.inj H
  go_enter Try.func46,Try.ntmps46
  go_wp2_with (first|((with_reducible refine bp (N:=1) rfl ?_);refine bw ?hg (N:=1) ?hd (cs:= #[.int .i64 aH,.int .i64 aG]) (t:=26) ?hr ?_;(case hd=>rfl);(case hg=>rfl);(case hr=>first|(go_simp;done)|(go_simp;rfl));intro nK hg jN aU hb;have aA:=Aside0.mk (ah ax hb);have aC:=Aside0.mk (aU);have aD:=Aside0.mk ((by rw [hg];exact (av ax):w.heap.size<=nK));have aJ:=Aside0.mk ((by rw [hg];exact (av ax):w.heap.size<=nK));clear HB;have HB:=aA;have mo:=aC;have a1X:=aD;have a1Y:=aJ;clear aA aC aD aJ;clear hb aU hg;have oh:jN.cell? ⟨nK,0,none⟩=some (.int .i64 aH):=(af mo.out 0).trans rfl;have om:jN.cell? ⟨nK,1,none⟩=some (.int .i64 aG):=(af mo.out 1).trans rfl;have oo:=aa mo.out 0;have oq:=aa mo.out 1)|((with_reducible refine aY (f:=44) rfl ?_);refine bP (some 5) rfl rfl Try.func44 (by kernel_rfl) rfl #[.int .i64 aG,.int .i64 1,.int .i64 1000000] rfl (by (try simp only [List.map_toArray,List.map_cons,List.map_nil]);first|done|rfl|(simp only [List.length_drop,List.length_take];rfl)) ?_;(with_reducible refine (fI.calls aG 1 1000000 false _ A2.out).mono ?_);rintro e w' ⟨rfl,⟨nd,rfl⟩⟩;refine ⟨_,rfl,?_⟩))
  go_ret
  exact ⟨by first|rfl|(simp [aQ,aR]<;>rfl)|(simp [*,aQ,aR]<;>rfl),ax⟩
def bG.f (k:Nat) (a0:Int) (a1:Int):Option (Int×Int):=(dg.f k a0 a1).bind fun cL=>(if a1<0 then (if (wrap64 (-cL))=0 then (none) else ((cM.f k (wrap64 (Int.tdiv a0 (wrap64 (-cL)))) (wrap64 (Int.tdiv a1 (wrap64 (-cL))))).bind fun AK=>(if AK=true then (some (wrap64 (Int.tdiv a0 (wrap64 (-cL))),wrap64 (Int.tdiv a1 (wrap64 (-cL))))) else (some (0,0))))) else (if cL=0 then (none) else ((cM.f k (wrap64 (Int.tdiv a0 cL)) (wrap64 (Int.tdiv a1 cL))).bind fun AL=>(if AL=true then (some (wrap64 (Int.tdiv a0 cL),wrap64 (Int.tdiv a1 cL))) else (some (0,0))))))
theorem bG.mono:∀a0 a1 k,aT (bG.f k a0 a1) (bG.f (k+1) a0 a1):=by
 intro a0 a1 k
 unfold bG.f
 repeat' first
  |(with_reducible exact cM.mono _ _ _)
  |(with_reducible exact dg.mono _ _ _)
  |(with_reducible exact aT.refl _)
  |(with_reducible exact aT.none _)
  |(with_reducible refine aT.ite ?_ ?_)
  |(with_reducible refine aT.bind ?_ (fun _=>?_))
def bG.T4:Bool×List (List Nat×List Nat):=(true,[([],[]),([],[]),([0,1],[0,1]),([],[]),([],[]),([3,4],[3,4]),([2,5],[2,5]),([],[]),([7,6,0,1,2,3,4,5,6,7],[6,7])])
def bG.B4:List Nat:=[0,0,3,0,0,24,63,0,255]
theorem bG.Ec:ke .any (opsOf Try.f45 4)=bG.T4:=by kernel_rfl
theorem bG.zz:pQ bG.T4.2 bG.B4=true:=by kernel_rfl
set_option maxHeartbeats 8000000 in
set_option maxRecDepth 100000 in
theorem bG.calls (k:Nat) (a0:Int) (a1:Int) (r1:Int) (r2:Int) (w:World) (h:bG.f k a0 a1=some (r1,r2)):
 Calls Try.prog 45 #[.int .i64 a0,.int .i64 a1] w fun e w'=>e= .returned (.agg #[.int .i64 r1,.int .i64 r2])/\Below w.heap.size w w':=by
 have mM:=Try.underlying26
 have HB:=Aside0.mk (Below.refl w.heap.size w)
 have H:((dg.f k a0 a1).bind fun cL=>(if a1<0 then (if (wrap64 (-cL))=0 then (none) else ((cM.f k (wrap64 (Int.tdiv a0 (wrap64 (-cL)))) (wrap64 (Int.tdiv a1 (wrap64 (-cL))))).bind fun AK=>(if AK=true then (some (wrap64 (Int.tdiv a0 (wrap64 (-cL))),wrap64 (Int.tdiv a1 (wrap64 (-cL))))) else (some (0,0))))) else (if cL=0 then (none) else ((cM.f k (wrap64 (Int.tdiv a0 cL)) (wrap64 (Int.tdiv a1 cL))).bind fun AL=>(if AL=true then (some (wrap64 (Int.tdiv a0 cL),wrap64 (Int.tdiv a1 cL))) else (some (0,0)))))))=some (r1,r2):=h
 clear h
 replace H:=Option.bind_eq_some_iff.mp H
 obtain ⟨cL,jc,H⟩:=H
 replace H:(if a1<0 then (if (wrap64 (-cL))=0 then (none) else ((cM.f k (wrap64 (Int.tdiv a0 (wrap64 (-cL)))) (wrap64 (Int.tdiv a1 (wrap64 (-cL))))).bind fun AK=>(if AK=true then (some (wrap64 (Int.tdiv a0 (wrap64 (-cL))),wrap64 (Int.tdiv a1 (wrap64 (-cL))))) else (some (0,0))))) else (if cL=0 then (none) else ((cM.f k (wrap64 (Int.tdiv a0 cL)) (wrap64 (Int.tdiv a1 cL))).bind fun AL=>(if AL=true then (some (wrap64 (Int.tdiv a0 cL),wrap64 (Int.tdiv a1 cL))) else (some (0,0))))))=some (r1,r2):=H
 have A3:=Aside0.mk jc
 clear jc
 by_cases c4:a1<0
 ·rw [if_pos c4] at H
  have kC:decide (a1<0)=true:=decide_eq_true c4
  clear c4
  by_cases c5:(wrap64 (-cL))=0
  ·rw [if_pos c5] at H
   exact absurd H (by simp)
  ·rw [if_neg c5] at H
   have uY:((wrap64 (-cL))==0)=false:=beq_eq_false_iff_ne.mpr c5
   have a6L:((wrap64 (-cL)) !=0)=true:=bne_iff_ne.mpr c5
   replace H:=Option.bind_eq_some_iff.mp H
   obtain ⟨AK,wh,H⟩:=H
   replace H:(if AK=true then (some (wrap64 (Int.tdiv a0 (wrap64 (-cL))),wrap64 (Int.tdiv a1 (wrap64 (-cL))))) else (some (0,0)))=some (r1,r2):=H
   have A6:=Aside0.mk wh
   clear wh
   by_cases c7:AK=true
   ·subst c7
    have H1:(some (wrap64 (Int.tdiv a0 (wrap64 (-cL))),wrap64 (Int.tdiv a1 (wrap64 (-cL)))))=some (r1,r2):=by rw [if_pos rfl] at H;exact H
    clear H
    have H:=H1
    clear H1
    simp only [Option.some.injEq,Prod.mk.injEq] at H
    obtain ⟨rfl,rfl⟩:=H
    go_enter Try.func45,Try.ntmps45
    try go_wp2_with (first|((with_reducible refine bp (N:=4) rfl ?_);refine bw ?hg (N:=4) ?hd (cs:= #[.int .i64 0,.int .i64 0]) (t:=26) ?hr ?_;(case hd=>rfl);(case hg=>rfl);(case hr=>first|(go_simp;done)|(go_simp;rfl));intro dJ hg w8 aU hb;have aA:=Aside0.mk (ah ax hb);have aC:=Aside0.mk (aU);have aD:=Aside0.mk ((by rw [hg];exact (av ax):w.heap.size<=dJ));have aJ:=Aside0.mk ((by rw [hg];exact (av ax):w.heap.size<=dJ));clear HB;have HB:=aA;have bZ:=aC;have SM:=aD;have SN:=aJ;clear aA aC aD aJ;clear hb aU hg)|((with_reducible refine aY (f:=61) rfl ?_);refine bP (some 9) rfl rfl Try.func61 (by kernel_rfl) rfl #[.int .i64 a0,.int .i64 a1] rfl (by (try simp only [List.map_toArray,List.map_cons,List.map_nil]);first|done|rfl|(simp only [List.length_drop,List.length_take];rfl)) ?_;(with_reducible refine (dg.calls k a0 a1 cL _ A3.out).mono ?_);rintro e w9 ⟨rfl,hb⟩;refine ⟨_,rfl,?_⟩;have aA:=Aside0.mk (ai (g:=dJ) (o:= .cells #[.int .i64 0,.int .i64 0] 26 (0,0)) (aI bZ) hb);have aC:=Aside0.mk (ah ax hb);clear bZ;clear HB;have bZ:=aA;have HB:=aC;clear aA aC;(try clear hb);(try clear hb2);(try clear hk);(try clear hi)))
    have aA:=Aside0.mk (aj bZ.out)
    have aC:=Aside0.mk (bB HB.out)
    clear bZ
    clear HB
    have bZ:=aA
    have HB:=aC
    clear aA aC
    refine eX (n:=9) (S:=fun w'=>True) (ds:=[]) #[false,false,false,false,false,false,false,false,false] (by kernel_rfl) rfl rfl trivial (fun hHeld=>?_);refine iY bG.Ec bG.zz (fun bW ny=>?_)
    generalize w9.drew=jY at bZ HB hHeld⊢
    refine bT bW (i:=0) (N:=some 14) ?_
    refine bT bW (i:=1) (N:=some 15) ?_
    refine bT bW (i:=2) (N:=some 16) ?_
    refine bT bW (i:=3) (N:=some 17) ?_
    refine bT bW (i:=4) (N:=some 18) ?_
    refine bT bW (i:=5) (N:=some 19) ?_
    refine bT bW (i:=6) (N:=some 20) ?_
    refine fA (i:=7) (N:=some 6) #[true,true,true,true,true,true,true,true,false] rfl rfl (kB bW.out (by kernel_rfl)) (by decide) (fun K hK=>?_)
    refine yY ?hg (N:=6) ?hd (cs:= #[.int .i64 0,.int .i64 0]) (t:=26) ?hr ?_;(case hd=>rfl);(case hg=>rfl);(case hr=>first|(go_simp;done)|(go_simp;rfl))
    intro ko hg ja aU hb
    have aA:=Aside0.mk (ai (g:=dJ) (o:= .cells #[.int .i64 0,.int .i64 0] 26 (0,0)) (aI bZ) hb)
    have aC:=Aside0.mk (ah ax hb)
    have aD:=Aside0.mk (aU)
    have aJ:=Aside0.mk ((by rw [hg];exact (av ax):w.heap.size<=ko))
    have bJ:=Aside0.mk ((by rw [hg];exact (av ax):w.heap.size<=ko))
    have bS:=Aside0.mk ((by rw [hg];exact Nat.ne_of_lt (aZ (g:=dJ) (o:= .cells #[.int .i64 0,.int .i64 0] 26 (0,0)) (aI bZ)):dJ≠ko))
    have cw:=Aside0.mk ((by rw [hg];exact Nat.ne_of_gt (aZ (g:=dJ) (o:= .cells #[.int .i64 0,.int .i64 0] 26 (0,0)) (aI bZ)):ko≠dJ))
    clear bZ
    clear HB
    have bZ:=aA
    have HB:=aC
    have iz:=aD
    have b0U:=aJ
    have b0V:=bJ
    have kG:=bS
    have pF:=cw
    clear aA aC aD aJ bJ bS cw
    clear hb aU hg
    refine hK.out _ _ trivial (fun hHeld=>?_)
    clear hK K
    refine eF (a':=?_) ?_ ?_
    rotate_left
    ·show Act.put _ (some 6) _=_
     simp only [Act.put,List.setIfInBounds_toArray,List.set_cons_zero,List.set_cons_succ,cZ,dX]
     rfl
    refine fA (i:=8) (N:=none) #[true,true,true,true,true,true,true,true,true] rfl rfl (kB bW.out (by kernel_rfl)) (by decide) (fun K hK=>?_)
    have hs12:ja.cell? ⟨ko,0,none⟩=some (.int .i64 0):=(af iz.out 0).trans rfl
    have hfs12:=aa iz.out 0
    have hns12_0:=kG.out
    have hms12_0:=pF.out
    have hs13:ja.cell? ⟨ko,1,none⟩=some (.int .i64 0):=(af iz.out 1).trans rfl
    have hfs13:=aa iz.out 1
    have hns13_0:=kG.out
    have hms13_0:=pF.out
    refine kY (w1:=?_) (by rfl) rfl ?_ ?_
    rotate_left
    ·go_simp
     rfl
    refine hK.out _ _ trivial (fun hHeld=>?_)
    clear hK K
    refine fV (lA bW.out (by kernel_rfl)) ?_
    have b0W:=pF.out
    have b0X:=kG.out
    have IE:ja.cell? ⟨ko,0,none⟩=some (.int .i64 0):=(af iz.out 0).trans rfl
    have IG:ja.cell? ⟨ko,1,none⟩=some (.int .i64 0):=(af iz.out 1).trans rfl
    have II:=aa iz.out 0
    have IJ:=aa iz.out 1
    try go_wp2_with (first|((with_reducible refine aY (f:=46) rfl ?_);refine bP (some 22) rfl rfl Try.func46 (by kernel_rfl) rfl #[.agg #[.int .i64 (wrap64 (Int.tdiv a0 (wrap64 (-cL)))),.int .i64 (wrap64 (Int.tdiv a1 (wrap64 (-cL))))]] rfl (by (try simp only [List.map_toArray,List.map_cons,List.map_nil]);first|done|rfl|(simp only [List.length_drop,List.length_take];rfl)) ?_;(with_reducible refine (cM.calls k (wrap64 (Int.tdiv a0 (wrap64 (-cL)))) (wrap64 (Int.tdiv a1 (wrap64 (-cL)))) true _ A6.out).mono ?_);rintro e jb ⟨rfl,hb⟩;refine ⟨_,rfl,?_⟩;have aA:=Aside0.mk (ai (g:=dJ) (o:= .cells #[.int .i64 0,.int .i64 0] 26 (0,0)) (by (with_reducible repeat (first|refine aq ?_ _|refine aj ?_|refine ak ?_ _));refine dm ?_ kG.out _;(with_reducible repeat (first|refine aq ?_ _|refine aj ?_|refine ak ?_ _));refine dm ?_ kG.out _;(with_reducible repeat (first|refine aq ?_ _|refine aj ?_|refine ak ?_ _));exact bZ.out) hb);have aC:=Aside0.mk (ai (g:=ko) (o:= .cells #[.int .i64 (wrap64 (Int.tdiv a0 (wrap64 (-cL)))),.int .i64 (wrap64 (Int.tdiv a1 (wrap64 (-cL))))] 26 (0,0)) (by (with_reducible repeat (first|refine aq ?_ _|refine aj ?_|refine ak ?_ _));refine aK (cs:= #[.int .i64 (wrap64 (Int.tdiv a0 (wrap64 (-cL)))),.int .i64 0]) ?_ 1 _ rfl;(with_reducible repeat (first|refine aq ?_ _|refine aj ?_|refine ak ?_ _));refine aK (cs:= #[.int .i64 0,.int .i64 0]) ?_ 0 _ rfl;(with_reducible repeat (first|refine aq ?_ _|refine aj ?_|refine ak ?_ _));exact iz.out) hb);have aD:=Aside0.mk (ah ax hb);clear bZ;clear iz;clear HB;have bZ:=aA;have iz:=aC;have HB:=aD;clear aA aC aD;(try clear hb);(try clear hb2);(try clear hk);(try clear hi);have a4p:jb.cell? ⟨ko,0,none⟩=some (.int .i64 (wrap64 (Int.tdiv a0 (wrap64 (-cL))))):=(af iz.out 0).trans rfl;have a4q:jb.cell? ⟨ko,1,none⟩=some (.int .i64 (wrap64 (Int.tdiv a1 (wrap64 (-cL))))):=(af iz.out 1).trans rfl;have a4r:=aa iz.out 0;have a4s:=aa iz.out 1;have Hp:jb.cell? ⟨dJ,0,none⟩=some (.int .i64 0):=(af bZ.out 0).trans rfl;have Hq:jb.cell? ⟨dJ,1,none⟩=some (.int .i64 0):=(af bZ.out 1).trans rfl;have Hr:=aa bZ.out 0;have Hs:=aa bZ.out 1))
    refine bodyPost_ret (results_cell_row rfl _ _ dJ 26 #[.int .i64 (wrap64 (Int.tdiv a0 (wrap64 (-cL)))),.int .i64 (wrap64 (Int.tdiv a1 (wrap64 (-cL))))] (0,0) _ rfl (by (with_reducible repeat (first|refine aq ?_ _|refine aj ?_|refine ak ?_ _));refine aK (cs:= #[.int .i64 (wrap64 (Int.tdiv a0 (wrap64 (-cL)))),.int .i64 0]) ?_ 1 _ rfl;(with_reducible repeat (first|refine aq ?_ _|refine aj ?_|refine ak ?_ _));refine aK (cs:= #[.int .i64 0,.int .i64 0]) ?_ 0 _ rfl;(with_reducible repeat (first|refine aq ?_ _|refine aj ?_|refine ak ?_ _));exact bZ.out) Try.underlying26 rfl (by kernel_rfl)) rfl ?_
    exact ⟨by first|rfl|(simp [aQ,aR]<;>rfl)|(simp [*,aQ,aR]<;>rfl),ax⟩
   ·replace c7:=Bool.eq_false_iff.mpr c7
    subst c7
    have H1:(some (0,0))=some (r1,r2):=by rw [if_neg (show ¬(false=true) by decide)] at H;exact H
    clear H
    have H:=H1
    clear H1
    simp only [Option.some.injEq,Prod.mk.injEq] at H
    obtain ⟨rfl,rfl⟩:=H
    go_enter Try.func45,Try.ntmps45
    try go_wp2_with (first|((with_reducible refine bp (N:=4) rfl ?_);refine bw ?hg (N:=4) ?hd (cs:= #[.int .i64 0,.int .i64 0]) (t:=26) ?hr ?_;(case hd=>rfl);(case hg=>rfl);(case hr=>first|(go_simp;done)|(go_simp;rfl));intro dJ hg wF aU hb;have aA:=Aside0.mk (ah ax hb);have aC:=Aside0.mk (aU);have aD:=Aside0.mk ((by rw [hg];exact (av ax):w.heap.size<=dJ));have aJ:=Aside0.mk ((by rw [hg];exact (av ax):w.heap.size<=dJ));clear HB;have HB:=aA;have bZ:=aC;have SM:=aD;have SN:=aJ;clear aA aC aD aJ;clear hb aU hg)|((with_reducible refine aY (f:=61) rfl ?_);refine bP (some 9) rfl rfl Try.func61 (by kernel_rfl) rfl #[.int .i64 a0,.int .i64 a1] rfl (by (try simp only [List.map_toArray,List.map_cons,List.map_nil]);first|done|rfl|(simp only [List.length_drop,List.length_take];rfl)) ?_;(with_reducible refine (dg.calls k a0 a1 cL _ A3.out).mono ?_);rintro e kF ⟨rfl,hb⟩;refine ⟨_,rfl,?_⟩;have aA:=Aside0.mk (ai (g:=dJ) (o:= .cells #[.int .i64 0,.int .i64 0] 26 (0,0)) (aI bZ) hb);have aC:=Aside0.mk (ah ax hb);clear bZ;clear HB;have bZ:=aA;have HB:=aC;clear aA aC;(try clear hb);(try clear hb2);(try clear hk);(try clear hi)))
    have aA:=Aside0.mk (aj bZ.out)
    have aC:=Aside0.mk (bB HB.out)
    clear bZ
    clear HB
    have bZ:=aA
    have HB:=aC
    clear aA aC
    refine eX (n:=9) (S:=fun w'=>True) (ds:=[]) #[false,false,false,false,false,false,false,false,false] (by kernel_rfl) rfl rfl trivial (fun hHeld=>?_);refine iY bG.Ec bG.zz (fun bW ny=>?_)
    generalize kF.drew=Kg at bZ HB hHeld⊢
    refine bT bW (i:=0) (N:=some 14) ?_
    refine bT bW (i:=1) (N:=some 15) ?_
    refine bT bW (i:=2) (N:=some 16) ?_
    refine bT bW (i:=3) (N:=some 17) ?_
    refine bT bW (i:=4) (N:=some 18) ?_
    refine bT bW (i:=5) (N:=some 19) ?_
    refine bT bW (i:=6) (N:=some 20) ?_
    refine fA (i:=7) (N:=some 6) #[true,true,true,true,true,true,true,true,false] rfl rfl (kB bW.out (by kernel_rfl)) (by decide) (fun K hK=>?_)
    refine yY ?hg (N:=6) ?hd (cs:= #[.int .i64 0,.int .i64 0]) (t:=26) ?hr ?_;(case hd=>rfl);(case hg=>rfl);(case hr=>first|(go_simp;done)|(go_simp;rfl))
    intro ko hg wI aU hb
    have aA:=Aside0.mk (ai (g:=dJ) (o:= .cells #[.int .i64 0,.int .i64 0] 26 (0,0)) (aI bZ) hb)
    have aC:=Aside0.mk (ah ax hb)
    have aD:=Aside0.mk (aU)
    have aJ:=Aside0.mk ((by rw [hg];exact (av ax):w.heap.size<=ko))
    have bJ:=Aside0.mk ((by rw [hg];exact (av ax):w.heap.size<=ko))
    have bS:=Aside0.mk ((by rw [hg];exact Nat.ne_of_lt (aZ (g:=dJ) (o:= .cells #[.int .i64 0,.int .i64 0] 26 (0,0)) (aI bZ)):dJ≠ko))
    have cw:=Aside0.mk ((by rw [hg];exact Nat.ne_of_gt (aZ (g:=dJ) (o:= .cells #[.int .i64 0,.int .i64 0] 26 (0,0)) (aI bZ)):ko≠dJ))
    clear bZ
    clear HB
    have bZ:=aA
    have HB:=aC
    have iz:=aD
    have b0U:=aJ
    have b0V:=bJ
    have kG:=bS
    have pF:=cw
    clear aA aC aD aJ bJ bS cw
    clear hb aU hg
    refine hK.out _ _ trivial (fun hHeld=>?_)
    clear hK K
    refine eF (a':=?_) ?_ ?_
    rotate_left
    ·show Act.put _ (some 6) _=_
     simp only [Act.put,List.setIfInBounds_toArray,List.set_cons_zero,List.set_cons_succ,cZ,dX]
     rfl
    refine fA (i:=8) (N:=none) #[true,true,true,true,true,true,true,true,true] rfl rfl (kB bW.out (by kernel_rfl)) (by decide) (fun K hK=>?_)
    have hs23:wI.cell? ⟨ko,0,none⟩=some (.int .i64 0):=(af iz.out 0).trans rfl
    have hfs23:=aa iz.out 0
    have hns23_0:=kG.out
    have hms23_0:=pF.out
    have hs24:wI.cell? ⟨ko,1,none⟩=some (.int .i64 0):=(af iz.out 1).trans rfl
    have hfs24:=aa iz.out 1
    have hns24_0:=kG.out
    have hms24_0:=pF.out
    refine kY (w1:=?_) (by rfl) rfl ?_ ?_
    rotate_left
    ·go_simp
     rfl
    refine hK.out _ _ trivial (fun hHeld=>?_)
    clear hK K
    refine fV (lA bW.out (by kernel_rfl)) ?_
    have b0Y:=pF.out
    have b0Z:=kG.out
    have IK:wI.cell? ⟨ko,0,none⟩=some (.int .i64 0):=(af iz.out 0).trans rfl
    have IL:wI.cell? ⟨ko,1,none⟩=some (.int .i64 0):=(af iz.out 1).trans rfl
    have IM:=aa iz.out 0
    have IP:=aa iz.out 1
    try go_wp2_with (first|((with_reducible refine aY (f:=46) rfl ?_);refine bP (some 22) rfl rfl Try.func46 (by kernel_rfl) rfl #[.agg #[.int .i64 (wrap64 (Int.tdiv a0 (wrap64 (-cL)))),.int .i64 (wrap64 (Int.tdiv a1 (wrap64 (-cL))))]] rfl (by (try simp only [List.map_toArray,List.map_cons,List.map_nil]);first|done|rfl|(simp only [List.length_drop,List.length_take];rfl)) ?_;(with_reducible refine (cM.calls k (wrap64 (Int.tdiv a0 (wrap64 (-cL)))) (wrap64 (Int.tdiv a1 (wrap64 (-cL)))) false _ A6.out).mono ?_);rintro e JZ ⟨rfl,hb⟩;refine ⟨_,rfl,?_⟩;have aA:=Aside0.mk (ai (g:=dJ) (o:= .cells #[.int .i64 0,.int .i64 0] 26 (0,0)) (by (with_reducible repeat (first|refine aq ?_ _|refine aj ?_|refine ak ?_ _));refine dm ?_ kG.out _;(with_reducible repeat (first|refine aq ?_ _|refine aj ?_|refine ak ?_ _));refine dm ?_ kG.out _;(with_reducible repeat (first|refine aq ?_ _|refine aj ?_|refine ak ?_ _));exact bZ.out) hb);have aC:=Aside0.mk (ai (g:=ko) (o:= .cells #[.int .i64 (wrap64 (Int.tdiv a0 (wrap64 (-cL)))),.int .i64 (wrap64 (Int.tdiv a1 (wrap64 (-cL))))] 26 (0,0)) (by (with_reducible repeat (first|refine aq ?_ _|refine aj ?_|refine ak ?_ _));refine aK (cs:= #[.int .i64 (wrap64 (Int.tdiv a0 (wrap64 (-cL)))),.int .i64 0]) ?_ 1 _ rfl;(with_reducible repeat (first|refine aq ?_ _|refine aj ?_|refine ak ?_ _));refine aK (cs:= #[.int .i64 0,.int .i64 0]) ?_ 0 _ rfl;(with_reducible repeat (first|refine aq ?_ _|refine aj ?_|refine ak ?_ _));exact iz.out) hb);have aD:=Aside0.mk (ah ax hb);clear bZ;clear iz;clear HB;have bZ:=aA;have iz:=aC;have HB:=aD;clear aA aC aD;(try clear hb);(try clear hb2);(try clear hk);(try clear hi);have uR:JZ.cell? ⟨dJ,0,none⟩=some (.int .i64 0):=(af bZ.out 0).trans rfl;have uS:JZ.cell? ⟨dJ,1,none⟩=some (.int .i64 0):=(af bZ.out 1).trans rfl;have uT:=aa bZ.out 0;have uU:=aa bZ.out 1))
    refine bodyPost_ret (results_cell_row rfl _ _ dJ 26 #[.int .i64 0,.int .i64 0] (0,0) _ rfl (by (with_reducible repeat (first|refine aq ?_ _|refine aj ?_|refine ak ?_ _));refine aK (cs:= #[.int .i64 0,.int .i64 0]) ?_ 1 _ rfl;(with_reducible repeat (first|refine aq ?_ _|refine aj ?_|refine ak ?_ _));refine aK (cs:= #[.int .i64 0,.int .i64 0]) ?_ 0 _ rfl;(with_reducible repeat (first|refine aq ?_ _|refine aj ?_|refine ak ?_ _));exact bZ.out) Try.underlying26 rfl (by kernel_rfl)) rfl ?_
    exact ⟨by first|rfl|(simp [aQ,aR]<;>rfl)|(simp [*,aQ,aR]<;>rfl),ax⟩
 ·rw [if_neg c4] at H
  have kC:decide (a1<0)=false:=decide_eq_false c4
  clear c4
  by_cases c29:cL=0
  ·rw [if_pos c29] at H
   exact absurd H (by simp)
  ·rw [if_neg c29] at H
   have c29b0:(cL==0)=false:=beq_eq_false_iff_ne.mpr c29
   have c29b1:(cL !=0)=true:=bne_iff_ne.mpr c29
   replace H:=Option.bind_eq_some_iff.mp H
   obtain ⟨AL,a7x,H⟩:=H
   replace H:(if AL=true then (some (wrap64 (Int.tdiv a0 cL),wrap64 (Int.tdiv a1 cL))) else (some (0,0)))=some (r1,r2):=H
   have jc:=Aside0.mk a7x
   clear a7x
   by_cases c31:AL=true
   ·subst c31
    have H1:(some (wrap64 (Int.tdiv a0 cL),wrap64 (Int.tdiv a1 cL)))=some (r1,r2):=by rw [if_pos rfl] at H;exact H
    clear H
    have H:=H1
    clear H1
    simp only [Option.some.injEq,Prod.mk.injEq] at H
    obtain ⟨rfl,rfl⟩:=H
    go_enter Try.func45,Try.ntmps45
    try go_wp2_with (first|((with_reducible refine bp (N:=4) rfl ?_);refine bw ?hg (N:=4) ?hd (cs:= #[.int .i64 0,.int .i64 0]) (t:=26) ?hr ?_;(case hd=>rfl);(case hg=>rfl);(case hr=>first|(go_simp;done)|(go_simp;rfl));intro dJ hg qd aU hb;have aA:=Aside0.mk (ah ax hb);have aC:=Aside0.mk (aU);have aD:=Aside0.mk ((by rw [hg];exact (av ax):w.heap.size<=dJ));have aJ:=Aside0.mk ((by rw [hg];exact (av ax):w.heap.size<=dJ));clear HB;have HB:=aA;have bZ:=aC;have SM:=aD;have SN:=aJ;clear aA aC aD aJ;clear hb aU hg)|((with_reducible refine aY (f:=61) rfl ?_);refine bP (some 9) rfl rfl Try.func61 (by kernel_rfl) rfl #[.int .i64 a0,.int .i64 a1] rfl (by (try simp only [List.map_toArray,List.map_cons,List.map_nil]);first|done|rfl|(simp only [List.length_drop,List.length_take];rfl)) ?_;(with_reducible refine (dg.calls k a0 a1 cL _ A3.out).mono ?_);rintro e w33 ⟨rfl,hb⟩;refine ⟨_,rfl,?_⟩;have aA:=Aside0.mk (ai (g:=dJ) (o:= .cells #[.int .i64 0,.int .i64 0] 26 (0,0)) (aI bZ) hb);have aC:=Aside0.mk (ah ax hb);clear bZ;clear HB;have bZ:=aA;have HB:=aC;clear aA aC;(try clear hb);(try clear hb2);(try clear hk);(try clear hi)))
    have aA:=Aside0.mk (aj bZ.out)
    have aC:=Aside0.mk (bB HB.out)
    clear bZ
    clear HB
    have bZ:=aA
    have HB:=aC
    clear aA aC
    refine eX (n:=9) (S:=fun w'=>True) (ds:=[]) #[false,false,false,false,false,false,false,false,false] (by kernel_rfl) rfl rfl trivial (fun hHeld=>?_);refine iY bG.Ec bG.zz (fun bW ny=>?_)
    generalize w33.drew=w34 at bZ HB hHeld⊢
    refine bT bW (i:=0) (N:=some 14) ?_
    refine bT bW (i:=1) (N:=some 15) ?_
    refine bT bW (i:=2) (N:=some 16) ?_
    refine bT bW (i:=3) (N:=some 17) ?_
    refine bT bW (i:=4) (N:=some 18) ?_
    refine bT bW (i:=5) (N:=some 19) ?_
    refine bT bW (i:=6) (N:=some 20) ?_
    refine fA (i:=7) (N:=some 6) #[true,true,true,true,true,true,true,true,false] rfl rfl (kB bW.out (by kernel_rfl)) (by decide) (fun K hK=>?_)
    refine yY ?hg (N:=6) ?hd (cs:= #[.int .i64 0,.int .i64 0]) (t:=26) ?hr ?_;(case hd=>rfl);(case hg=>rfl);(case hr=>first|(go_simp;done)|(go_simp;rfl))
    intro kr hg pg aU hb
    have aA:=Aside0.mk (ai (g:=dJ) (o:= .cells #[.int .i64 0,.int .i64 0] 26 (0,0)) (aI bZ) hb)
    have aC:=Aside0.mk (ah ax hb)
    have aD:=Aside0.mk (aU)
    have aJ:=Aside0.mk ((by rw [hg];exact (av ax):w.heap.size<=kr))
    have bJ:=Aside0.mk ((by rw [hg];exact (av ax):w.heap.size<=kr))
    have bS:=Aside0.mk ((by rw [hg];exact Nat.ne_of_lt (aZ (g:=dJ) (o:= .cells #[.int .i64 0,.int .i64 0] 26 (0,0)) (aI bZ)):dJ≠kr))
    have cw:=Aside0.mk ((by rw [hg];exact Nat.ne_of_gt (aZ (g:=dJ) (o:= .cells #[.int .i64 0,.int .i64 0] 26 (0,0)) (aI bZ)):kr≠dJ))
    clear bZ
    clear HB
    have bZ:=aA
    have HB:=aC
    have iA:=aD
    have b1a:=aJ
    have b1b:=bJ
    have kH:=bS
    have pG:=cw
    clear aA aC aD aJ bJ bS cw
    clear hb aU hg
    refine hK.out _ _ trivial (fun hHeld=>?_)
    clear hK K
    refine eF (a':=?_) ?_ ?_
    rotate_left
    ·show Act.put _ (some 6) _=_
     simp only [Act.put,List.setIfInBounds_toArray,List.set_cons_zero,List.set_cons_succ,cZ,dX]
     rfl
    refine fA (i:=8) (N:=none) #[true,true,true,true,true,true,true,true,true] rfl rfl (kB bW.out (by kernel_rfl)) (by decide) (fun K hK=>?_)
    have hs36:pg.cell? ⟨kr,0,none⟩=some (.int .i64 0):=(af iA.out 0).trans rfl
    have hfs36:=aa iA.out 0
    have hns36_0:=kH.out
    have hms36_0:=pG.out
    have hs37:pg.cell? ⟨kr,1,none⟩=some (.int .i64 0):=(af iA.out 1).trans rfl
    have hfs37:=aa iA.out 1
    have hns37_0:=kH.out
    have hms37_0:=pG.out
    refine kY (w1:=?_) (by rfl) rfl ?_ ?_
    rotate_left
    ·go_simp
     rfl
    refine hK.out _ _ trivial (fun hHeld=>?_)
    clear hK K
    refine fV (lA bW.out (by kernel_rfl)) ?_
    have b1c:=pG.out
    have b1d:=kH.out
    have Ci:pg.cell? ⟨kr,0,none⟩=some (.int .i64 0):=(af iA.out 0).trans rfl
    have Cj:pg.cell? ⟨kr,1,none⟩=some (.int .i64 0):=(af iA.out 1).trans rfl
    have Ck:=aa iA.out 0
    have Cl:=aa iA.out 1
    try go_wp2_with (first|((with_reducible refine aY (f:=46) rfl ?_);refine bP (some 22) rfl rfl Try.func46 (by kernel_rfl) rfl #[.agg #[.int .i64 (wrap64 (Int.tdiv a0 cL)),.int .i64 (wrap64 (Int.tdiv a1 cL))]] rfl (by (try simp only [List.map_toArray,List.map_cons,List.map_nil]);first|done|rfl|(simp only [List.length_drop,List.length_take];rfl)) ?_;(with_reducible refine (cM.calls k (wrap64 (Int.tdiv a0 cL)) (wrap64 (Int.tdiv a1 cL)) true _ jc.out).mono ?_);rintro e vz ⟨rfl,hb⟩;refine ⟨_,rfl,?_⟩;have aA:=Aside0.mk (ai (g:=dJ) (o:= .cells #[.int .i64 0,.int .i64 0] 26 (0,0)) (by (with_reducible repeat (first|refine aq ?_ _|refine aj ?_|refine ak ?_ _));refine dm ?_ kH.out _;(with_reducible repeat (first|refine aq ?_ _|refine aj ?_|refine ak ?_ _));refine dm ?_ kH.out _;(with_reducible repeat (first|refine aq ?_ _|refine aj ?_|refine ak ?_ _));exact bZ.out) hb);have aC:=Aside0.mk (ai (g:=kr) (o:= .cells #[.int .i64 (wrap64 (Int.tdiv a0 cL)),.int .i64 (wrap64 (Int.tdiv a1 cL))] 26 (0,0)) (by (with_reducible repeat (first|refine aq ?_ _|refine aj ?_|refine ak ?_ _));refine aK (cs:= #[.int .i64 (wrap64 (Int.tdiv a0 cL)),.int .i64 0]) ?_ 1 _ rfl;(with_reducible repeat (first|refine aq ?_ _|refine aj ?_|refine ak ?_ _));refine aK (cs:= #[.int .i64 0,.int .i64 0]) ?_ 0 _ rfl;(with_reducible repeat (first|refine aq ?_ _|refine aj ?_|refine ak ?_ _));exact iA.out) hb);have aD:=Aside0.mk (ah ax hb);clear bZ;clear iA;clear HB;have bZ:=aA;have iA:=aC;have HB:=aD;clear aA aC aD;(try clear hb);(try clear hb2);(try clear hk);(try clear hi);have IQ:vz.cell? ⟨kr,0,none⟩=some (.int .i64 (wrap64 (Int.tdiv a0 cL))):=(af iA.out 0).trans rfl;have IU:vz.cell? ⟨kr,1,none⟩=some (.int .i64 (wrap64 (Int.tdiv a1 cL))):=(af iA.out 1).trans rfl;have IV:=aa iA.out 0;have IW:=aa iA.out 1;have a3O:vz.cell? ⟨dJ,0,none⟩=some (.int .i64 0):=(af bZ.out 0).trans rfl;have a3P:vz.cell? ⟨dJ,1,none⟩=some (.int .i64 0):=(af bZ.out 1).trans rfl;have a3Q:=aa bZ.out 0;have a3R:=aa bZ.out 1))
    refine bodyPost_ret (results_cell_row rfl _ _ dJ 26 #[.int .i64 (wrap64 (Int.tdiv a0 cL)),.int .i64 (wrap64 (Int.tdiv a1 cL))] (0,0) _ rfl (by (with_reducible repeat (first|refine aq ?_ _|refine aj ?_|refine ak ?_ _));refine aK (cs:= #[.int .i64 (wrap64 (Int.tdiv a0 cL)),.int .i64 0]) ?_ 1 _ rfl;(with_reducible repeat (first|refine aq ?_ _|refine aj ?_|refine ak ?_ _));refine aK (cs:= #[.int .i64 0,.int .i64 0]) ?_ 0 _ rfl;(with_reducible repeat (first|refine aq ?_ _|refine aj ?_|refine ak ?_ _));exact bZ.out) Try.underlying26 rfl (by kernel_rfl)) rfl ?_
    exact ⟨by first|rfl|(simp [aQ,aR]<;>rfl)|(simp [*,aQ,aR]<;>rfl),ax⟩
   ·replace c31:=Bool.eq_false_iff.mpr c31
    subst c31
    have H1:(some (0,0))=some (r1,r2):=by rw [if_neg (show ¬(false=true) by decide)] at H;exact H
    clear H
    have H:=H1
    clear H1
    simp only [Option.some.injEq,Prod.mk.injEq] at H
    obtain ⟨rfl,rfl⟩:=H
    go_enter Try.func45,Try.ntmps45
    try go_wp2_with (first|((with_reducible refine bp (N:=4) rfl ?_);refine bw ?hg (N:=4) ?hd (cs:= #[.int .i64 0,.int .i64 0]) (t:=26) ?hr ?_;(case hd=>rfl);(case hg=>rfl);(case hr=>first|(go_simp;done)|(go_simp;rfl));intro dJ hg w43 aU hb;have aA:=Aside0.mk (ah ax hb);have aC:=Aside0.mk (aU);have aD:=Aside0.mk ((by rw [hg];exact (av ax):w.heap.size<=dJ));have aJ:=Aside0.mk ((by rw [hg];exact (av ax):w.heap.size<=dJ));clear HB;have HB:=aA;have bZ:=aC;have SM:=aD;have SN:=aJ;clear aA aC aD aJ;clear hb aU hg)|((with_reducible refine aY (f:=61) rfl ?_);refine bP (some 9) rfl rfl Try.func61 (by kernel_rfl) rfl #[.int .i64 a0,.int .i64 a1] rfl (by (try simp only [List.map_toArray,List.map_cons,List.map_nil]);first|done|rfl|(simp only [List.length_drop,List.length_take];rfl)) ?_;(with_reducible refine (dg.calls k a0 a1 cL _ A3.out).mono ?_);rintro e zP ⟨rfl,hb⟩;refine ⟨_,rfl,?_⟩;have aA:=Aside0.mk (ai (g:=dJ) (o:= .cells #[.int .i64 0,.int .i64 0] 26 (0,0)) (aI bZ) hb);have aC:=Aside0.mk (ah ax hb);clear bZ;clear HB;have bZ:=aA;have HB:=aC;clear aA aC;(try clear hb);(try clear hb2);(try clear hk);(try clear hi)))
    have aA:=Aside0.mk (aj bZ.out)
    have aC:=Aside0.mk (bB HB.out)
    clear bZ
    clear HB
    have bZ:=aA
    have HB:=aC
    clear aA aC
    refine eX (n:=9) (S:=fun w'=>True) (ds:=[]) #[false,false,false,false,false,false,false,false,false] (by kernel_rfl) rfl rfl trivial (fun hHeld=>?_);refine iY bG.Ec bG.zz (fun bW ny=>?_)
    generalize zP.drew=w45 at bZ HB hHeld⊢
    refine bT bW (i:=0) (N:=some 14) ?_
    refine bT bW (i:=1) (N:=some 15) ?_
    refine bT bW (i:=2) (N:=some 16) ?_
    refine bT bW (i:=3) (N:=some 17) ?_
    refine bT bW (i:=4) (N:=some 18) ?_
    refine bT bW (i:=5) (N:=some 19) ?_
    refine bT bW (i:=6) (N:=some 20) ?_
    refine fA (i:=7) (N:=some 6) #[true,true,true,true,true,true,true,true,false] rfl rfl (kB bW.out (by kernel_rfl)) (by decide) (fun K hK=>?_)
    refine yY ?hg (N:=6) ?hd (cs:= #[.int .i64 0,.int .i64 0]) (t:=26) ?hr ?_;(case hd=>rfl);(case hg=>rfl);(case hr=>first|(go_simp;done)|(go_simp;rfl))
    intro kr hg w46 aU hb
    have aA:=Aside0.mk (ai (g:=dJ) (o:= .cells #[.int .i64 0,.int .i64 0] 26 (0,0)) (aI bZ) hb)
    have aC:=Aside0.mk (ah ax hb)
    have aD:=Aside0.mk (aU)
    have aJ:=Aside0.mk ((by rw [hg];exact (av ax):w.heap.size<=kr))
    have bJ:=Aside0.mk ((by rw [hg];exact (av ax):w.heap.size<=kr))
    have bS:=Aside0.mk ((by rw [hg];exact Nat.ne_of_lt (aZ (g:=dJ) (o:= .cells #[.int .i64 0,.int .i64 0] 26 (0,0)) (aI bZ)):dJ≠kr))
    have cw:=Aside0.mk ((by rw [hg];exact Nat.ne_of_gt (aZ (g:=dJ) (o:= .cells #[.int .i64 0,.int .i64 0] 26 (0,0)) (aI bZ)):kr≠dJ))
    clear bZ
    clear HB
    have bZ:=aA
    have HB:=aC
    have iA:=aD
    have b1a:=aJ
    have b1b:=bJ
    have kH:=bS
    have pG:=cw
    clear aA aC aD aJ bJ bS cw
    clear hb aU hg
    refine hK.out _ _ trivial (fun hHeld=>?_)
    clear hK K
    refine eF (a':=?_) ?_ ?_
    rotate_left
    ·show Act.put _ (some 6) _=_
     simp only [Act.put,List.setIfInBounds_toArray,List.set_cons_zero,List.set_cons_succ,cZ,dX]
     rfl
    refine fA (i:=8) (N:=none) #[true,true,true,true,true,true,true,true,true] rfl rfl (kB bW.out (by kernel_rfl)) (by decide) (fun K hK=>?_)
    have hs47:w46.cell? ⟨kr,0,none⟩=some (.int .i64 0):=(af iA.out 0).trans rfl
    have hfs47:=aa iA.out 0
    have hns47_0:=kH.out
    have hms47_0:=pG.out
    have hs48:w46.cell? ⟨kr,1,none⟩=some (.int .i64 0):=(af iA.out 1).trans rfl
    have hfs48:=aa iA.out 1
    have hns48_0:=kH.out
    have hms48_0:=pG.out
    refine kY (w1:=?_) (by rfl) rfl ?_ ?_
    rotate_left
    ·go_simp
     rfl
    refine hK.out _ _ trivial (fun hHeld=>?_)
    clear hK K
    refine fV (lA bW.out (by kernel_rfl)) ?_
    have hnb49:=pG.out
    have hnc49:=kH.out
    have hcz50_0:w46.cell? ⟨kr,0,none⟩=some (.int .i64 0):=(af iA.out 0).trans rfl
    have hcz50_1:w46.cell? ⟨kr,1,none⟩=some (.int .i64 0):=(af iA.out 1).trans rfl
    have hfz50_0:=aa iA.out 0
    have hfz50_1:=aa iA.out 1
    try go_wp2_with (first|((with_reducible refine aY (f:=46) rfl ?_);refine bP (some 22) rfl rfl Try.func46 (by kernel_rfl) rfl #[.agg #[.int .i64 (wrap64 (Int.tdiv a0 cL)),.int .i64 (wrap64 (Int.tdiv a1 cL))]] rfl (by (try simp only [List.map_toArray,List.map_cons,List.map_nil]);first|done|rfl|(simp only [List.length_drop,List.length_take];rfl)) ?_;(with_reducible refine (cM.calls k (wrap64 (Int.tdiv a0 cL)) (wrap64 (Int.tdiv a1 cL)) false _ jc.out).mono ?_);rintro e w51 ⟨rfl,hb⟩;refine ⟨_,rfl,?_⟩;have aA:=Aside0.mk (ai (g:=dJ) (o:= .cells #[.int .i64 0,.int .i64 0] 26 (0,0)) (by (with_reducible repeat (first|refine aq ?_ _|refine aj ?_|refine ak ?_ _));refine dm ?_ kH.out _;(with_reducible repeat (first|refine aq ?_ _|refine aj ?_|refine ak ?_ _));refine dm ?_ kH.out _;(with_reducible repeat (first|refine aq ?_ _|refine aj ?_|refine ak ?_ _));exact bZ.out) hb);have aC:=Aside0.mk (ai (g:=kr) (o:= .cells #[.int .i64 (wrap64 (Int.tdiv a0 cL)),.int .i64 (wrap64 (Int.tdiv a1 cL))] 26 (0,0)) (by (with_reducible repeat (first|refine aq ?_ _|refine aj ?_|refine ak ?_ _));refine aK (cs:= #[.int .i64 (wrap64 (Int.tdiv a0 cL)),.int .i64 0]) ?_ 1 _ rfl;(with_reducible repeat (first|refine aq ?_ _|refine aj ?_|refine ak ?_ _));refine aK (cs:= #[.int .i64 0,.int .i64 0]) ?_ 0 _ rfl;(with_reducible repeat (first|refine aq ?_ _|refine aj ?_|refine ak ?_ _));exact iA.out) hb);have aD:=Aside0.mk (ah ax hb);clear bZ;clear iA;clear HB;have bZ:=aA;have iA:=aC;have HB:=aD;clear aA aC aD;(try clear hb);(try clear hb2);(try clear hk);(try clear hi);have a3S:w51.cell? ⟨dJ,0,none⟩=some (.int .i64 0):=(af bZ.out 0).trans rfl;have a3T:w51.cell? ⟨dJ,1,none⟩=some (.int .i64 0):=(af bZ.out 1).trans rfl;have a3U:=aa bZ.out 0;have a3V:=aa bZ.out 1))
    refine bodyPost_ret (results_cell_row rfl _ _ dJ 26 #[.int .i64 0,.int .i64 0] (0,0) _ rfl (by (with_reducible repeat (first|refine aq ?_ _|refine aj ?_|refine ak ?_ _));refine aK (cs:= #[.int .i64 0,.int .i64 0]) ?_ 1 _ rfl;(with_reducible repeat (first|refine aq ?_ _|refine aj ?_|refine ak ?_ _));refine aK (cs:= #[.int .i64 0,.int .i64 0]) ?_ 0 _ rfl;(with_reducible repeat (first|refine aq ?_ _|refine aj ?_|refine ak ?_ _));exact bZ.out) Try.underlying26 rfl (by kernel_rfl)) rfl ?_
    exact ⟨by first|rfl|(simp [aQ,aR]<;>rfl)|(simp [*,aQ,aR]<;>rfl),ax⟩
def jd.f (k:Nat) (aH:Int) (aG:Int) (bh:Int) (aV:Int):Option (Int×Int):=(bG.f k (wrap64 ((wrap64 (aH*aV))-(wrap64 (bh*aG)))) (wrap64 (aG*aV))).bind fun FB=>(some (FB.1,FB.2))
theorem jd.mono:∀a0 a1 a2 a3 k,aT (jd.f k a0 a1 a2 a3) (jd.f (k+1) a0 a1 a2 a3):=by
 intro a0 a1 a2 a3 k
 unfold jd.f
 repeat' first
  |(with_reducible exact bG.mono _ _ _)
  |(with_reducible exact aT.refl _)
  |(with_reducible exact aT.none _)
  |(with_reducible refine aT.ite ?_ ?_)
  |(with_reducible refine aT.bind ?_ (fun _=>?_))
set_option maxHeartbeats 8000000 in
set_option maxRecDepth 100000 in
theorem jd.calls (k:Nat) (aH:Int) (aG:Int) (bh:Int) (aV:Int) (r1:Int) (r2:Int) (w:World) (h:jd.f k aH aG bh aV=some (r1,r2)):
 Calls Try.prog 85 #[.agg #[.int .i64 aH,.int .i64 aG],.agg #[.int .i64 bh,.int .i64 aV]] w fun e w'=>e= .returned (.agg #[.int .i64 r1,.int .i64 r2])/\Below w.heap.size w w':=by
 have mM:=Try.underlying26
 have HB:=Aside0.mk (Below.refl w.heap.size w)
 have H:((bG.f k (wrap64 ((wrap64 (aH*aV))-(wrap64 (bh*aG)))) (wrap64 (aG*aV))).bind fun FB=>(some (FB.1,FB.2)))=some (r1,r2):=h
 clear h
 replace H:=Option.bind_eq_some_iff.mp H
 obtain ⟨⟨SP,ZC⟩,jc,H⟩:=H
 replace H:(some (SP,ZC))=some (r1,r2):=H
 have A3:=Aside0.mk jc
 clear jc
 simp only [Option.some.injEq,Prod.mk.injEq] at H
 obtain ⟨rfl,rfl⟩:=H
 go_enter Try.func85,Try.ntmps85
 go_wp2_with (first|((with_reducible refine bp (N:=2) rfl ?_);refine bw ?hg (N:=2) ?hd (cs:= #[.int .i64 aH,.int .i64 aG]) (t:=26) ?hr ?_;(case hd=>rfl);(case hg=>rfl);(case hr=>first|(go_simp;done)|(go_simp;rfl));intro nL hg w4 aU hb;have aA:=Aside0.mk (ah ax hb);have aC:=Aside0.mk (aU);have aD:=Aside0.mk ((by rw [hg];exact (av ax):w.heap.size<=nL));have aJ:=Aside0.mk ((by rw [hg];exact (av ax):w.heap.size<=nL));clear HB;have HB:=aA;have mq:=aC;have GW377:=aD;have GE377:=aJ;clear aA aC aD aJ;clear hb aU hg)|((with_reducible refine bp (N:=3) rfl ?_);refine bw ?hg (N:=3) ?hd (cs:= #[.int .i64 bh,.int .i64 aV]) (t:=26) ?hr ?_;(case hd=>rfl);(case hg=>rfl);(case hr=>first|(go_simp;done)|(go_simp;rfl));intro qB hg w5 aU hb;have aA:=Aside0.mk (ai (g:=nL) (o:= .cells #[.int .i64 aH,.int .i64 aG] 26 (0,0)) (aI mq) hb);have aC:=Aside0.mk (ah ax hb);have aD:=Aside0.mk (aU);have aJ:=Aside0.mk ((by rw [hg];exact (av ax):w.heap.size<=qB));have bJ:=Aside0.mk ((by rw [hg];exact (av ax):w.heap.size<=qB));have bS:=Aside0.mk ((by rw [hg];exact Nat.ne_of_lt (aZ (g:=nL) (o:= .cells #[.int .i64 aH,.int .i64 aG] 26 (0,0)) (aI mq)):nL≠qB));have cw:=Aside0.mk ((by rw [hg];exact Nat.ne_of_gt (aZ (g:=nL) (o:= .cells #[.int .i64 aH,.int .i64 aG] 26 (0,0)) (aI mq)):qB≠nL));clear mq;clear HB;have mq:=aA;have HB:=aC;have qC:=aD;have GW378:=aJ;have GE378:=bJ;have VE:=bS;have VF:=cw;clear aA aC aD aJ bJ bS cw;clear hb aU hg)|((with_reducible refine bp (N:=4) rfl ?_);refine bw ?hg (N:=4) ?hd (cs:= #[.int .i64 0,.int .i64 0]) (t:=26) ?hr ?_;(case hd=>rfl);(case hg=>rfl);(case hr=>first|(go_simp;done)|(go_simp;rfl));intro sW hg w6 aU hb;have aA:=Aside0.mk (ai (g:=nL) (o:= .cells #[.int .i64 aH,.int .i64 aG] 26 (0,0)) (aI mq) hb);have aC:=Aside0.mk (ai (g:=qB) (o:= .cells #[.int .i64 bh,.int .i64 aV] 26 (0,0)) (aI qC) hb);have aD:=Aside0.mk (ah ax hb);have aJ:=Aside0.mk (aU);have bJ:=Aside0.mk ((by rw [hg];exact (av ax):w.heap.size<=sW));have bS:=Aside0.mk ((by rw [hg];exact (av ax):w.heap.size<=sW));have cw:=Aside0.mk ((by rw [hg];exact Nat.ne_of_lt (aZ (g:=nL) (o:= .cells #[.int .i64 aH,.int .i64 aG] 26 (0,0)) (aI mq)):nL≠sW));have iL:=Aside0.mk ((by rw [hg];exact Nat.ne_of_gt (aZ (g:=nL) (o:= .cells #[.int .i64 aH,.int .i64 aG] 26 (0,0)) (aI mq)):sW≠nL));have je:=Aside0.mk ((by rw [hg];exact Nat.ne_of_lt (aZ (g:=qB) (o:= .cells #[.int .i64 bh,.int .i64 aV] 26 (0,0)) (aI qC)):qB≠sW));have jP:=Aside0.mk ((by rw [hg];exact Nat.ne_of_gt (aZ (g:=qB) (o:= .cells #[.int .i64 bh,.int .i64 aV] 26 (0,0)) (aI qC)):sW≠qB));clear mq;clear qC;clear HB;have mq:=aA;have qC:=aC;have HB:=aD;have wJ:=aJ;have GW379:=bJ;have GE379:=bS;have VG:=cw;have VH:=iL;have VI:=je;have VJ:=jP;clear aA aC aD aJ bJ bS cw iL je jP;clear hb aU hg;have DB:=VE.out;have DC:=VF.out;have IX:=VG.out;have IY:=VH.out;have vo:w6.cell? ⟨nL,0,none⟩=some (.int .i64 aH):=(af mq.out 0).trans rfl;have vr:w6.cell? ⟨nL,1,none⟩=some (.int .i64 aG):=(af mq.out 1).trans rfl;have vv:=aa mq.out 0;have vw:=aa mq.out 1;have Cn:=VI.out;have Co:=VJ.out;have sI:w6.cell? ⟨qB,0,none⟩=some (.int .i64 bh):=(af qC.out 0).trans rfl;have sJ:w6.cell? ⟨qB,1,none⟩=some (.int .i64 aV):=(af qC.out 1).trans rfl;have sK:=aa qC.out 0;have sL:=aa qC.out 1)|((with_reducible refine aY (f:=45) rfl ?_);refine bP (some 21) rfl rfl Try.func45 (by kernel_rfl) rfl #[.int .i64 (wrap64 ((wrap64 (aH*aV))-(wrap64 (bh*aG)))),.int .i64 (wrap64 (aG*aV))] rfl (by (try simp only [List.map_toArray,List.map_cons,List.map_nil]);first|done|rfl|(simp only [List.length_drop,List.length_take];rfl)) ?_;(with_reducible refine (bG.calls k (wrap64 ((wrap64 (aH*aV))-(wrap64 (bh*aG)))) (wrap64 (aG*aV)) SP ZC _ A3.out).mono ?_);rintro e jN ⟨rfl,hb⟩;refine ⟨_,rfl,?_⟩;have aA:=Aside0.mk (ai (g:=nL) (o:= .cells #[.int .i64 aH,.int .i64 aG] 26 (0,0)) (aI mq) hb);have aC:=Aside0.mk (ai (g:=qB) (o:= .cells #[.int .i64 bh,.int .i64 aV] 26 (0,0)) (aI qC) hb);have aD:=Aside0.mk (ai (g:=sW) (o:= .cells #[.int .i64 0,.int .i64 0] 26 (0,0)) (aI wJ) hb);have aJ:=Aside0.mk (ah ax hb);clear mq;clear qC;clear wJ;clear HB;have mq:=aA;have qC:=aC;have wJ:=aD;have HB:=aJ;clear aA aC aD aJ;(try clear hb);(try clear hb2);(try clear hk);(try clear hi);have oh:jN.cell? ⟨sW,0,none⟩=some (.int .i64 0):=(af wJ.out 0).trans rfl;have om:jN.cell? ⟨sW,1,none⟩=some (.int .i64 0):=(af wJ.out 1).trans rfl;have oo:=aa wJ.out 0;have oq:=aa wJ.out 1))
 refine bodyPost_ret (results_cell_row rfl _ _ sW 26 #[.int .i64 SP,.int .i64 ZC] (0,0) _ rfl (by (with_reducible repeat (first|refine aq ?_ _|refine aj ?_|refine ak ?_ _));refine aK (cs:= #[.int .i64 SP,.int .i64 0]) ?_ 1 _ rfl;(with_reducible repeat (first|refine aq ?_ _|refine aj ?_|refine ak ?_ _));refine aK (cs:= #[.int .i64 0,.int .i64 0]) ?_ 0 _ rfl;(with_reducible repeat (first|refine aq ?_ _|refine aj ?_|refine ak ?_ _));exact wJ.out) Try.underlying26 rfl (by kernel_rfl)) rfl ?_
 exact ⟨by first|rfl|(simp [aQ,aR]<;>rfl)|(simp [*,aQ,aR]<;>rfl),ax⟩
def jf.f (k:Nat) (aH:Int) (aG:Int) (bh:Int) (aV:Int):Option (Int×Int):=(bG.f k (wrap64 (aH*bh)) (wrap64 (aG*aV))).bind fun FC=>(some (FC.1,FC.2))
theorem jf.mono:∀a0 a1 a2 a3 k,aT (jf.f k a0 a1 a2 a3) (jf.f (k+1) a0 a1 a2 a3):=by
 intro a0 a1 a2 a3 k
 unfold jf.f
 repeat' first
  |(with_reducible exact bG.mono _ _ _)
  |(with_reducible exact aT.refl _)
  |(with_reducible exact aT.none _)
  |(with_reducible refine aT.ite ?_ ?_)
  |(with_reducible refine aT.bind ?_ (fun _=>?_))
set_option maxHeartbeats 8000000 in
set_option maxRecDepth 100000 in
theorem jf.calls (k:Nat) (aH:Int) (aG:Int) (bh:Int) (aV:Int) (r1:Int) (r2:Int) (w:World) (h:jf.f k aH aG bh aV=some (r1,r2)):
 Calls Try.prog 88 #[.agg #[.int .i64 aH,.int .i64 aG],.agg #[.int .i64 bh,.int .i64 aV]] w fun e w'=>e= .returned (.agg #[.int .i64 r1,.int .i64 r2])/\Below w.heap.size w w':=by
 have mM:=Try.underlying26
 have HB:=Aside0.mk (Below.refl w.heap.size w)
 have H:((bG.f k (wrap64 (aH*bh)) (wrap64 (aG*aV))).bind fun FC=>(some (FC.1,FC.2)))=some (r1,r2):=h
 clear h
 replace H:=Option.bind_eq_some_iff.mp H
 obtain ⟨⟨SQ,ZE⟩,jc,H⟩:=H
 replace H:(some (SQ,ZE))=some (r1,r2):=H
 have A3:=Aside0.mk jc
 clear jc
 simp only [Option.some.injEq,Prod.mk.injEq] at H
 obtain ⟨rfl,rfl⟩:=H
 go_enter Try.func88,Try.ntmps88
 go_wp2_with (first|((with_reducible refine bp (N:=2) rfl ?_);refine bw ?hg (N:=2) ?hd (cs:= #[.int .i64 aH,.int .i64 aG]) (t:=26) ?hr ?_;(case hd=>rfl);(case hg=>rfl);(case hr=>first|(go_simp;done)|(go_simp;rfl));intro nM hg w4 aU hb;have aA:=Aside0.mk (ah ax hb);have aC:=Aside0.mk (aU);have aD:=Aside0.mk ((by rw [hg];exact (av ax):w.heap.size<=nM));have aJ:=Aside0.mk ((by rw [hg];exact (av ax):w.heap.size<=nM));clear HB;have HB:=aA;have mz:=aC;have GW388:=aD;have GE388:=aJ;clear aA aC aD aJ;clear hb aU hg)|((with_reducible refine bp (N:=3) rfl ?_);refine bw ?hg (N:=3) ?hd (cs:= #[.int .i64 bh,.int .i64 aV]) (t:=26) ?hr ?_;(case hd=>rfl);(case hg=>rfl);(case hr=>first|(go_simp;done)|(go_simp;rfl));intro qD hg w5 aU hb;have aA:=Aside0.mk (ai (g:=nM) (o:= .cells #[.int .i64 aH,.int .i64 aG] 26 (0,0)) (aI mz) hb);have aC:=Aside0.mk (ah ax hb);have aD:=Aside0.mk (aU);have aJ:=Aside0.mk ((by rw [hg];exact (av ax):w.heap.size<=qD));have bJ:=Aside0.mk ((by rw [hg];exact (av ax):w.heap.size<=qD));have bS:=Aside0.mk ((by rw [hg];exact Nat.ne_of_lt (aZ (g:=nM) (o:= .cells #[.int .i64 aH,.int .i64 aG] 26 (0,0)) (aI mz)):nM≠qD));have cw:=Aside0.mk ((by rw [hg];exact Nat.ne_of_gt (aZ (g:=nM) (o:= .cells #[.int .i64 aH,.int .i64 aG] 26 (0,0)) (aI mz)):qD≠nM));clear mz;clear HB;have mz:=aA;have HB:=aC;have qE:=aD;have GW389:=aJ;have GE389:=bJ;have VK:=bS;have VL:=cw;clear aA aC aD aJ bJ bS cw;clear hb aU hg)|((with_reducible refine bp (N:=4) rfl ?_);refine bw ?hg (N:=4) ?hd (cs:= #[.int .i64 0,.int .i64 0]) (t:=26) ?hr ?_;(case hd=>rfl);(case hg=>rfl);(case hr=>first|(go_simp;done)|(go_simp;rfl));intro sX hg w6 aU hb;have aA:=Aside0.mk (ai (g:=nM) (o:= .cells #[.int .i64 aH,.int .i64 aG] 26 (0,0)) (aI mz) hb);have aC:=Aside0.mk (ai (g:=qD) (o:= .cells #[.int .i64 bh,.int .i64 aV] 26 (0,0)) (aI qE) hb);have aD:=Aside0.mk (ah ax hb);have aJ:=Aside0.mk (aU);have bJ:=Aside0.mk ((by rw [hg];exact (av ax):w.heap.size<=sX));have bS:=Aside0.mk ((by rw [hg];exact (av ax):w.heap.size<=sX));have cw:=Aside0.mk ((by rw [hg];exact Nat.ne_of_lt (aZ (g:=nM) (o:= .cells #[.int .i64 aH,.int .i64 aG] 26 (0,0)) (aI mz)):nM≠sX));have iL:=Aside0.mk ((by rw [hg];exact Nat.ne_of_gt (aZ (g:=nM) (o:= .cells #[.int .i64 aH,.int .i64 aG] 26 (0,0)) (aI mz)):sX≠nM));have je:=Aside0.mk ((by rw [hg];exact Nat.ne_of_lt (aZ (g:=qD) (o:= .cells #[.int .i64 bh,.int .i64 aV] 26 (0,0)) (aI qE)):qD≠sX));have jP:=Aside0.mk ((by rw [hg];exact Nat.ne_of_gt (aZ (g:=qD) (o:= .cells #[.int .i64 bh,.int .i64 aV] 26 (0,0)) (aI qE)):sX≠qD));clear mz;clear qE;clear HB;have mz:=aA;have qE:=aC;have HB:=aD;have wK:=aJ;have GW390:=bJ;have GE390:=bS;have VM:=cw;have VN:=iL;have VO:=je;have VP:=jP;clear aA aC aD aJ bJ bS cw iL je jP;clear hb aU hg;have DB:=VK.out;have DC:=VL.out;have IX:=VM.out;have IY:=VN.out;have vo:w6.cell? ⟨nM,0,none⟩=some (.int .i64 aH):=(af mz.out 0).trans rfl;have vr:w6.cell? ⟨nM,1,none⟩=some (.int .i64 aG):=(af mz.out 1).trans rfl;have vv:=aa mz.out 0;have vw:=aa mz.out 1;have Cn:=VO.out;have Co:=VP.out;have sI:w6.cell? ⟨qD,0,none⟩=some (.int .i64 bh):=(af qE.out 0).trans rfl;have sJ:w6.cell? ⟨qD,1,none⟩=some (.int .i64 aV):=(af qE.out 1).trans rfl;have sK:=aa qE.out 0;have sL:=aa qE.out 1)|((with_reducible refine aY (f:=45) rfl ?_);refine bP (some 15) rfl rfl Try.func45 (by kernel_rfl) rfl #[.int .i64 (wrap64 (aH*bh)),.int .i64 (wrap64 (aG*aV))] rfl (by (try simp only [List.map_toArray,List.map_cons,List.map_nil]);first|done|rfl|(simp only [List.length_drop,List.length_take];rfl)) ?_;(with_reducible refine (bG.calls k (wrap64 (aH*bh)) (wrap64 (aG*aV)) SQ ZE _ A3.out).mono ?_);rintro e jN ⟨rfl,hb⟩;refine ⟨_,rfl,?_⟩;have aA:=Aside0.mk (ai (g:=nM) (o:= .cells #[.int .i64 aH,.int .i64 aG] 26 (0,0)) (aI mz) hb);have aC:=Aside0.mk (ai (g:=qD) (o:= .cells #[.int .i64 bh,.int .i64 aV] 26 (0,0)) (aI qE) hb);have aD:=Aside0.mk (ai (g:=sX) (o:= .cells #[.int .i64 0,.int .i64 0] 26 (0,0)) (aI wK) hb);have aJ:=Aside0.mk (ah ax hb);clear mz;clear qE;clear wK;clear HB;have mz:=aA;have qE:=aC;have wK:=aD;have HB:=aJ;clear aA aC aD aJ;(try clear hb);(try clear hb2);(try clear hk);(try clear hi);have oh:jN.cell? ⟨sX,0,none⟩=some (.int .i64 0):=(af wK.out 0).trans rfl;have om:jN.cell? ⟨sX,1,none⟩=some (.int .i64 0):=(af wK.out 1).trans rfl;have oo:=aa wK.out 0;have oq:=aa wK.out 1))
 refine bodyPost_ret (results_cell_row rfl _ _ sX 26 #[.int .i64 SQ,.int .i64 ZE] (0,0) _ rfl (by (with_reducible repeat (first|refine aq ?_ _|refine aj ?_|refine ak ?_ _));refine aK (cs:= #[.int .i64 SQ,.int .i64 0]) ?_ 1 _ rfl;(with_reducible repeat (first|refine aq ?_ _|refine aj ?_|refine ak ?_ _));refine aK (cs:= #[.int .i64 0,.int .i64 0]) ?_ 0 _ rfl;(with_reducible repeat (first|refine aq ?_ _|refine aj ?_|refine ak ?_ _));exact wK.out) Try.underlying26 rfl (by kernel_rfl)) rfl ?_
 exact ⟨by first|rfl|(simp [aQ,aR]<;>rfl)|(simp [*,aQ,aR]<;>rfl),ax⟩
def jQ.f (k:Nat) (aH:Int) (aG:Int) (bh:Int) (aV:Int):Option (Int×Int):=(bG.f k (wrap64 (aH*aV)) (wrap64 (aG*bh))).bind fun FD=>(some (FD.1,FD.2))
theorem jQ.mono:∀a0 a1 a2 a3 k,aT (jQ.f k a0 a1 a2 a3) (jQ.f (k+1) a0 a1 a2 a3):=by
 intro a0 a1 a2 a3 k
 unfold jQ.f
 repeat' first
  |(with_reducible exact bG.mono _ _ _)
  |(with_reducible exact aT.refl _)
  |(with_reducible exact aT.none _)
  |(with_reducible refine aT.ite ?_ ?_)
  |(with_reducible refine aT.bind ?_ (fun _=>?_))
set_option maxHeartbeats 8000000 in
set_option maxRecDepth 100000 in
theorem jQ.calls (k:Nat) (aH:Int) (aG:Int) (bh:Int) (aV:Int) (r1:Int) (r2:Int) (w:World) (h:jQ.f k aH aG bh aV=some (r1,r2)):
 Calls Try.prog 86 #[.agg #[.int .i64 aH,.int .i64 aG],.agg #[.int .i64 bh,.int .i64 aV]] w fun e w'=>e= .returned (.agg #[.int .i64 r1,.int .i64 r2])/\Below w.heap.size w w':=by
 have mM:=Try.underlying26
 have HB:=Aside0.mk (Below.refl w.heap.size w)
 have H:((bG.f k (wrap64 (aH*aV)) (wrap64 (aG*bh))).bind fun FD=>(some (FD.1,FD.2)))=some (r1,r2):=h
 clear h
 replace H:=Option.bind_eq_some_iff.mp H
 obtain ⟨⟨SR,ZF⟩,jc,H⟩:=H
 replace H:(some (SR,ZF))=some (r1,r2):=H
 have A3:=Aside0.mk jc
 clear jc
 simp only [Option.some.injEq,Prod.mk.injEq] at H
 obtain ⟨rfl,rfl⟩:=H
 go_enter Try.func86,Try.ntmps86
 go_wp2_with (first|((with_reducible refine bp (N:=2) rfl ?_);refine bw ?hg (N:=2) ?hd (cs:= #[.int .i64 aH,.int .i64 aG]) (t:=26) ?hr ?_;(case hd=>rfl);(case hg=>rfl);(case hr=>first|(go_simp;done)|(go_simp;rfl));intro nN hg w4 aU hb;have aA:=Aside0.mk (ah ax hb);have aC:=Aside0.mk (aU);have aD:=Aside0.mk ((by rw [hg];exact (av ax):w.heap.size<=nN));have aJ:=Aside0.mk ((by rw [hg];exact (av ax):w.heap.size<=nN));clear HB;have HB:=aA;have mA:=aC;have GW382:=aD;have GE382:=aJ;clear aA aC aD aJ;clear hb aU hg)|((with_reducible refine bp (N:=3) rfl ?_);refine bw ?hg (N:=3) ?hd (cs:= #[.int .i64 bh,.int .i64 aV]) (t:=26) ?hr ?_;(case hd=>rfl);(case hg=>rfl);(case hr=>first|(go_simp;done)|(go_simp;rfl));intro qF hg w5 aU hb;have aA:=Aside0.mk (ai (g:=nN) (o:= .cells #[.int .i64 aH,.int .i64 aG] 26 (0,0)) (aI mA) hb);have aC:=Aside0.mk (ah ax hb);have aD:=Aside0.mk (aU);have aJ:=Aside0.mk ((by rw [hg];exact (av ax):w.heap.size<=qF));have bJ:=Aside0.mk ((by rw [hg];exact (av ax):w.heap.size<=qF));have bS:=Aside0.mk ((by rw [hg];exact Nat.ne_of_lt (aZ (g:=nN) (o:= .cells #[.int .i64 aH,.int .i64 aG] 26 (0,0)) (aI mA)):nN≠qF));have cw:=Aside0.mk ((by rw [hg];exact Nat.ne_of_gt (aZ (g:=nN) (o:= .cells #[.int .i64 aH,.int .i64 aG] 26 (0,0)) (aI mA)):qF≠nN));clear mA;clear HB;have mA:=aA;have HB:=aC;have qG:=aD;have GW383:=aJ;have GE383:=bJ;have VQ:=bS;have VR:=cw;clear aA aC aD aJ bJ bS cw;clear hb aU hg)|((with_reducible refine bp (N:=4) rfl ?_);refine bw ?hg (N:=4) ?hd (cs:= #[.int .i64 0,.int .i64 0]) (t:=26) ?hr ?_;(case hd=>rfl);(case hg=>rfl);(case hr=>first|(go_simp;done)|(go_simp;rfl));intro sY hg w6 aU hb;have aA:=Aside0.mk (ai (g:=nN) (o:= .cells #[.int .i64 aH,.int .i64 aG] 26 (0,0)) (aI mA) hb);have aC:=Aside0.mk (ai (g:=qF) (o:= .cells #[.int .i64 bh,.int .i64 aV] 26 (0,0)) (aI qG) hb);have aD:=Aside0.mk (ah ax hb);have aJ:=Aside0.mk (aU);have bJ:=Aside0.mk ((by rw [hg];exact (av ax):w.heap.size<=sY));have bS:=Aside0.mk ((by rw [hg];exact (av ax):w.heap.size<=sY));have cw:=Aside0.mk ((by rw [hg];exact Nat.ne_of_lt (aZ (g:=nN) (o:= .cells #[.int .i64 aH,.int .i64 aG] 26 (0,0)) (aI mA)):nN≠sY));have iL:=Aside0.mk ((by rw [hg];exact Nat.ne_of_gt (aZ (g:=nN) (o:= .cells #[.int .i64 aH,.int .i64 aG] 26 (0,0)) (aI mA)):sY≠nN));have je:=Aside0.mk ((by rw [hg];exact Nat.ne_of_lt (aZ (g:=qF) (o:= .cells #[.int .i64 bh,.int .i64 aV] 26 (0,0)) (aI qG)):qF≠sY));have jP:=Aside0.mk ((by rw [hg];exact Nat.ne_of_gt (aZ (g:=qF) (o:= .cells #[.int .i64 bh,.int .i64 aV] 26 (0,0)) (aI qG)):sY≠qF));clear mA;clear qG;clear HB;have mA:=aA;have qG:=aC;have HB:=aD;have wL:=aJ;have GW384:=bJ;have GE384:=bS;have VS:=cw;have VT:=iL;have VU:=je;have VV:=jP;clear aA aC aD aJ bJ bS cw iL je jP;clear hb aU hg;have DB:=VQ.out;have DC:=VR.out;have IX:=VS.out;have IY:=VT.out;have vo:w6.cell? ⟨nN,0,none⟩=some (.int .i64 aH):=(af mA.out 0).trans rfl;have vr:w6.cell? ⟨nN,1,none⟩=some (.int .i64 aG):=(af mA.out 1).trans rfl;have vv:=aa mA.out 0;have vw:=aa mA.out 1;have Cn:=VU.out;have Co:=VV.out;have sI:w6.cell? ⟨qF,0,none⟩=some (.int .i64 bh):=(af qG.out 0).trans rfl;have sJ:w6.cell? ⟨qF,1,none⟩=some (.int .i64 aV):=(af qG.out 1).trans rfl;have sK:=aa qG.out 0;have sL:=aa qG.out 1)|((with_reducible refine aY (f:=45) rfl ?_);refine bP (some 15) rfl rfl Try.func45 (by kernel_rfl) rfl #[.int .i64 (wrap64 (aH*aV)),.int .i64 (wrap64 (aG*bh))] rfl (by (try simp only [List.map_toArray,List.map_cons,List.map_nil]);first|done|rfl|(simp only [List.length_drop,List.length_take];rfl)) ?_;(with_reducible refine (bG.calls k (wrap64 (aH*aV)) (wrap64 (aG*bh)) SR ZF _ A3.out).mono ?_);rintro e jN ⟨rfl,hb⟩;refine ⟨_,rfl,?_⟩;have aA:=Aside0.mk (ai (g:=nN) (o:= .cells #[.int .i64 aH,.int .i64 aG] 26 (0,0)) (aI mA) hb);have aC:=Aside0.mk (ai (g:=qF) (o:= .cells #[.int .i64 bh,.int .i64 aV] 26 (0,0)) (aI qG) hb);have aD:=Aside0.mk (ai (g:=sY) (o:= .cells #[.int .i64 0,.int .i64 0] 26 (0,0)) (aI wL) hb);have aJ:=Aside0.mk (ah ax hb);clear mA;clear qG;clear wL;clear HB;have mA:=aA;have qG:=aC;have wL:=aD;have HB:=aJ;clear aA aC aD aJ;(try clear hb);(try clear hb2);(try clear hk);(try clear hi);have oh:jN.cell? ⟨sY,0,none⟩=some (.int .i64 0):=(af wL.out 0).trans rfl;have om:jN.cell? ⟨sY,1,none⟩=some (.int .i64 0):=(af wL.out 1).trans rfl;have oo:=aa wL.out 0;have oq:=aa wL.out 1))
 refine bodyPost_ret (results_cell_row rfl _ _ sY 26 #[.int .i64 SR,.int .i64 ZF] (0,0) _ rfl (by (with_reducible repeat (first|refine aq ?_ _|refine aj ?_|refine ak ?_ _));refine aK (cs:= #[.int .i64 SR,.int .i64 0]) ?_ 1 _ rfl;(with_reducible repeat (first|refine aq ?_ _|refine aj ?_|refine ak ?_ _));refine aK (cs:= #[.int .i64 0,.int .i64 0]) ?_ 0 _ rfl;(with_reducible repeat (first|refine aq ?_ _|refine aj ?_|refine ak ?_ _));exact wL.out) Try.underlying26 rfl (by kernel_rfl)) rfl ?_
 exact ⟨by first|rfl|(simp [aQ,aR]<;>rfl)|(simp [*,aQ,aR]<;>rfl),ax⟩
def qH.f (aH:Int) (aG:Int):Option (Int):=some (mn (mx aH (-1)) 1)
set_option maxHeartbeats 8000000 in
set_option maxRecDepth 100000 in
theorem qH.calls (aH:Int) (aG:Int) (r:Int) (w:World) (h:qH.f aH aG=some r):
 Calls Try.prog 87 #[.agg #[.int .i64 aH,.int .i64 aG]] w fun e w'=>e= .returned (.int .i64 r)/\Below w.heap.size w w':=by
 have mM:=Try.underlying26
 have HB:=Aside0.mk (Below.refl w.heap.size w)
 have H:(some (mn (mx aH (-1)) 1))=some r:=h
 clear h
 obtain ⟨VW,SS⟩:∃j_:Int,(mx aH (-1))=j_:=⟨_,rfl⟩
 replace H:(some (mn (VW) 1))=some r:=by first|(rw [SS] at H;exact H)|(simp only [SS] at H⊢;exact H)
 have hji2_:(if aH<(-1) then (-1) else aH)=VW:=SS
 obtain ⟨ji3,SU⟩:∃j_:Int,(mn (VW) 1)=j_:=⟨_,rfl⟩
 replace H:(some ji3)=some r:=by first|(rw [SU] at H;exact H)|(simp only [SU] at H⊢;exact H)
 have hji3_:(if 1<(VW) then 1 else (VW))=ji3:=SU
 obtain rfl:=Option.some.inj H
 go_enter Try.func87,Try.ntmps87
 go_wp2_with (first|((with_reducible refine bp (N:=1) rfl ?_);refine bw ?hg (N:=1) ?hd (cs:= #[.int .i64 aH,.int .i64 aG]) (t:=26) ?hr ?_;(case hd=>rfl);(case hg=>rfl);(case hr=>first|(go_simp;done)|(go_simp;rfl));intro LD hg w4 aU hb;have aA:=Aside0.mk (ah ax hb);have aC:=Aside0.mk (aU);have aD:=Aside0.mk ((by rw [hg];exact (av ax):w.heap.size<=LD));have aJ:=Aside0.mk ((by rw [hg];exact (av ax):w.heap.size<=LD));clear HB;have HB:=aA;have LF:=aC;have GW387:=aD;have GE387:=aJ;clear aA aC aD aJ;clear hb aU hg;have VX:w4.cell? ⟨LD,0,none⟩=some (.int .i64 aH):=(af LF.out 0).trans rfl;have VY:w4.cell? ⟨LD,1,none⟩=some (.int .i64 aG):=(af LF.out 1).trans rfl;have VZ:=aa LF.out 0;have Wa:=aa LF.out 1))
 go_ret
 exact ⟨by first|rfl|(simp [aQ,aR]<;>rfl)|(simp only [<-SS,<-SU];first|rfl|(simp [aQ,aR]<;>rfl))|(simp [*,aQ,aR]<;>rfl),ax⟩
end Go.Proofs.Ytnhknojfpjheoaa.P
