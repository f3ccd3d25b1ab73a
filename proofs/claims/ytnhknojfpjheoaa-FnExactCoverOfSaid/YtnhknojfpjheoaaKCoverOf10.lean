/-
  Part 10 of the proof of this: The law FnExactCoverOf answers true at every argument.
-/
import Derived.Test.YtnhknojfpjheoaaKCoverOf2
import Derived.Test.YtnhknojfpjheoaaKCoverOf9
namespace Go.Proofs.Ytnhknojfpjheoaa.PT
open Go.RowKit Go.Proofs.Ytnhknojfpjheoaa.P Go.Proofs.YtnhknojfpjheoaaW.PrintWords Go.Proofs.YtnhknojfpjheoaaW.PrintLast Go.Proofs.Ytnhknojfpjheoaa.EvKit Go.Proofs.Ytnhknojfpjheoaa.Num Go.Proofs.Ytnhknojfpjheoaa.Lp
set_option linter.all false
theorem KG (x y:Nat->Rat):∀d i,(lexB x y d i=true↔∃k,i<=k/\k<i+d/\(∀j,i<=j->j<k->x j=y j)/\x k<y k)
 |0,i=>by
  simp only [lexB]
  constructor
  ·intro h;exact absurd h (by decide)
  ·rintro ⟨k,h1,h2,_⟩;omega
 |d+1,i=>by
  simp only [lexB]
  by_cases h1:x i<y i
  ·rw [if_pos h1]
   exact ⟨fun _=>⟨i,Nat.le_refl _,by omega,fun j h2 h3=>by omega,h1⟩,fun _=>rfl⟩
  ·rw [if_neg h1]
   by_cases h2:y i<x i
   ·rw [if_pos h2]
    constructor
    ·intro h;exact absurd h (by decide)
    ·rintro ⟨k,h3,h4,h5,h6⟩
     by_cases e:k=i
     ·rw [e] at h6;exact absurd h6 h1
     ·have:=h5 i (Nat.le_refl _) (by omega);rw [this] at h2;grind
   ·rw [if_neg h2,KG x y d (i+1)]
    constructor
    ·rintro ⟨k,h3,h4,h5,h6⟩
     exact ⟨k,by omega,by omega,fun j h7 h8=>by
      by_cases e:j=i
      ·rw [e];grind
      ·exact h5 j (by omega) h8,h6⟩
    ·rintro ⟨k,h3,h4,h5,h6⟩
     have:k≠i:=fun e=>by rw [e] at h6;exact h1 h6
     exact ⟨k,by omega,by omega,fun j h7 h8=>h5 j (by omega) h8,h6⟩
def gW (most:Bool):Rat:=if most=true then ((-1:Int):Rat) else ((1:Int):Rat)
theorem uK {n:Nat} {x y:Nat->Rat} {most:Bool}:gI n x y most=true↔eD (n+1) (fun k=>fM n (gW most) x k - fM n (gW most) y k):=by
 have e0:∀u:Nat->Rat,fM n (gW most) u 0=gW most*S n u:=fun u=>by unfold fM;rw [if_pos rfl]
 have e1:∀(u:Nat->Rat) k,fM n (gW most) u (k+1)=u k:=fun u k=>by unfold fM;rw [if_neg (by omega)];rfl
 have hs:(most=true/\gW most= -1)∨(most=false/\gW most=1):=by
  cases most
  ·exact .inr ⟨rfl,rfl⟩
  ·exact .inl ⟨rfl,rfl⟩
 unfold gI
 by_cases h1:S n x<S n y
 ·rw [if_pos h1]
  rcases hs with ⟨hm,hq⟩|⟨hm,hq⟩
  ·rw [hm]
   constructor
   ·intro h;exact absurd h (by decide)
   ·rintro ⟨k,hk,hz,hn⟩
    exfalso
    by_cases e:k=0
    ·subst e;have hn':fM n (gW most) x 0 - fM n (gW most) y 0<0:=by rw [hm];exact hn
     rw [e0,e0,hq] at hn';grind
    ·have hz':fM n (gW most) x 0 - fM n (gW most) y 0=0:=by rw [hm];exact hz 0 (by omega)
     rw [e0,e0,hq] at hz';grind
  ·rw [hm]
   refine ⟨fun _=>⟨0,by omega,fun i hi=>by omega,?_⟩,fun _=>rfl⟩
   have:fM n (gW most) x 0 - fM n (gW most) y 0<0:=by rw [e0,e0,hq];grind
   rw [hm] at this;exact this
 ·rw [if_neg h1]
  by_cases h2:S n y<S n x
  ·rw [if_pos h2]
   rcases hs with ⟨hm,hq⟩|⟨hm,hq⟩
   ·rw [hm]
    refine ⟨fun _=>⟨0,by omega,fun i hi=>by omega,?_⟩,fun _=>rfl⟩
    have:fM n (gW most) x 0 - fM n (gW most) y 0<0:=by rw [e0,e0,hq];grind
    rw [hm] at this;exact this
   ·rw [hm]
    constructor
    ·intro h;exact absurd h (by decide)
    ·rintro ⟨k,hk,hz,hn⟩
     exfalso
     by_cases e:k=0
     ·subst e;have hn':fM n (gW most) x 0 - fM n (gW most) y 0<0:=by rw [hm];exact hn
      rw [e0,e0,hq] at hn';grind
     ·have hz':fM n (gW most) x 0 - fM n (gW most) y 0=0:=by rw [hm];exact hz 0 (by omega)
      rw [e0,e0,hq] at hz';grind
  ·rw [if_neg h2,KG]
   have hz0:fM n (gW most) x 0 - fM n (gW most) y 0=0:=by rw [e0,e0];have:S n x=S n y:=by grind
                                                          rw [this];grind
   constructor
   ·rintro ⟨k,_,h4,h5,h6⟩
    refine ⟨k+1,by omega,fun i hi=>?_,?_⟩
    ·cases i with
     |zero=>exact hz0
     |succ i=>show fM n (gW most) x (i+1)- fM n (gW most) y (i+1)=0
              rw [e1,e1,h5 i (by omega) (by omega)];grind
    ·show fM n (gW most) x (k+1)- fM n (gW most) y (k+1)<0
     rw [e1,e1];grind
   ·rintro ⟨k,hk,hz,hn⟩
    cases k with
    |zero=>exfalso;have:fM n (gW most) x 0 - fM n (gW most) y 0<0:=hn
           rw [hz0] at this;grind
    |succ k=>
     have hn':fM n (gW most) x (k+1)- fM n (gW most) y (k+1)<0:=hn
     rw [e1,e1] at hn'
     refine ⟨k,Nat.zero_le _,by omega,fun j _ hj=>?_,by grind⟩
     have:fM n (gW most) x (j+1)- fM n (gW most) y (j+1)=0:=hz (j+1) (by omega)
     rw [e1,e1] at this;grind
theorem Bi {n:Nat} {x x' y y':Nat->Rat} (hx:∀j,j<n->x j=x' j) (hy:∀j,j<n->y j=y' j) (most:Bool):gI n x y most=gI n x' y' most:=by
 have:gI n x y most=true↔gI n x' y' most=true:=by
  rw [uK,uK]
  exact ⟨fun h=>h.congr (fun k hk=>by rw [rO hx hk,rO hy hk]),fun h=>h.congr (fun k hk=>by rw [rO hx hk,rO hy hk])⟩
 cases h1:gI n x y most<;>cases h2:gI n x' y' most<;>simp_all
def Jo (all:List cq) (o:Option (Nat->Rat)):Prop:=∀x,o=some x->all.all (iF x)=true
def NV (n:Nat) (B:Nat->Rat) (o:Option (Nat->Rat)):Prop:=∃x,o=some x/\∀j,j<n->x j=B j
def a0w (n:Nat) (B:Nat->Rat) (ch:List cq):Prop:=∃R,fJ n (gK ch n) n=some R/\∀j,j<n->ox R n j=B j
structure Xo (n:Nat) (all:List cq) (most:Bool) (B:Nat->Rat):Prop where
 adm:∀x,(∀j,j<n->x j=B j)->all.all (iF x)=true
 no:∀x,all.all (iF x)=true->gI n x B most=false
 yes:∀x,all.all (iF x)=true->¬(∀j,j<n->x j=B j)->gI n B x most=true
section
variable {n:Nat} {all:List cq} {most:Bool} {B:Nat->Rat}
theorem NW {ch:List cq} {best:Option (Nat->Rat)} (h:Jo all best):Jo all (jW n all most ch best):=by
 intro x hx
 unfold jW at hx
 cases hg:fJ n (gK ch n) n with
 |none=>rw [hg] at hx;exact h x hx
 |some R=>
  rw [hg] at hx
  simp only at hx
  by_cases hm:all.all (iF (ox R n))=true
  ·rw [if_pos hm] at hx
   cases best with
   |none=>simp only [Option.some.injEq] at hx;rw [<-hx];exact hm
   |some b=>
    simp only at hx
    split at hx
    ·simp only [Option.some.injEq] at hx;rw [<-hx];exact hm
    ·exact h x hx
  ·rw [if_neg hm] at hx;exact h x hx
theorem KH (t:Xo n all most B) {ch:List cq} {best:Option (Nat->Rat)} (h:NV n B best):NV n B (jW n all most ch best):=by
 obtain ⟨b,rfl,hb⟩:=h
 unfold jW
 cases hg:fJ n (gK ch n) n with
 |none=>exact ⟨b,rfl,hb⟩
 |some R=>
  simp only
  by_cases hm:all.all (iF (ox R n))=true
  ·rw [if_pos hm]
   have h1:gI n (ox R n) b most=false:=by
    rw [Bi (fun _ _=>rfl) hb];exact t.no _ hm
   rw [if_neg (by rw [h1];decide)]
   exact ⟨b,rfl,hb⟩
  ·rw [if_neg hm];exact ⟨b,rfl,hb⟩
theorem KI (t:Xo n all most B) {ch:List cq} {best:Option (Nat->Rat)} (hs:a0w n B ch) (h:Jo all best):NV n B (jW n all most ch best):=by
 obtain ⟨R,hg,hR⟩:=hs
 unfold jW
 rw [hg]
 simp only
 rw [if_pos (t.adm _ hR)]
 cases best with
 |none=>exact ⟨_,rfl,hR⟩
 |some b=>
  simp only
  by_cases hb:gI n (ox R n) b most=true
  ·rw [if_pos hb];exact ⟨_,rfl,hR⟩
  ·rw [if_neg hb]
   refine ⟨b,rfl,fun j hj=>?_⟩
   by_cases he:∀j,j<n->b j=B j
   ·exact he j hj
   ·have h1:=t.yes b (h b rfl) he
    rw [Bi (fun j hj=>(hR j hj).symm) (fun _ _=>rfl)] at h1
    exact absurd h1 hb
theorem Ei:∀d (ch:List cq) (best:Option (Nat->Rat)),Jo all best->Jo all (fu n all most d ch best)
 |0,ch,best,h=>by
  simp only [fu];split
  ·exact NW h
  ·exact h
 |d+1,ch,best,h=>by
  simp only [fu];split
  ·exact NW h
  ·split
   ·exact h
   ·exact Ei d _ _ (Ei d _ _ h)
theorem Bj (t:Xo n all most B):∀d (ch:List cq) (best:Option (Nat->Rat)),NV n B best->NV n B (fu n all most d ch best)
 |0,ch,best,h=>by
  simp only [fu];split
  ·exact KH t h
  ·exact h
 |d+1,ch,best,h=>by
  simp only [fu];split
  ·exact KH t h
  ·split
   ·exact h
   ·exact Bj t d _ _ (Bj t d _ _ h)
theorem Bk (t:Xo n all most B):∀d (ch:List cq) (best:Option (Nat->Rat)),d<=all.length->Jo all best->(∃l,l.Sublist (all.drop (all.length - d))/\ch.length+l.length=n/\a0w n B (ch++l))->NV n B (fu n all most d ch best)
 |0,ch,best,hd,h,⟨l,hl,hn,hs⟩=>by
  rw [Nat.sub_zero,List.drop_length] at hl
  have e:=List.sublist_nil.1 hl
  subst e
  rw [List.append_nil] at hs
  simp only [fu]
  rw [if_pos (by simpa using hn)]
  exact KI t hs h
 |d+1,ch,best,hd,h,⟨l,hl,hn,hs⟩=>by
  simp only [fu]
  by_cases h1:ch.length=n
  ·rw [if_pos h1]
   have e:l=[]:=List.eq_nil_of_length_eq_zero (by omega)
   subst e
   rw [List.append_nil] at hs
   exact KI t hs h
  ·rw [if_neg h1]
   have hlen:=hl.length_le
   rw [List.length_drop] at hlen
   rw [if_neg (by omega)]
   have hlt:all.length -(d+1)<all.length:=by omega
   rw [List.drop_eq_getElem_cons hlt] at hl
   have e2:all.length -(d+1)+1=all.length - d:=by omega
   rw [e2] at hl
   have hge:all.getD (all.length -(d+1)) z49=all[all.length -(d+1)]:=by simp [List.getD_eq_getElem?_getD,hlt]
   rw [hge]
   rcases List.sublist_cons_iff.1 hl with h2|⟨r,rfl,h2⟩
   ·exact Bk t d ch _ (by omega) (Ei d _ _ h) ⟨l,h2,hn,hs⟩
   ·exact Bj t d ch _ (Bk t d _ best (by omega) h ⟨r,h2,by rw [List.length_append];simp at hn⊢;omega,by rw [List.append_assoc];exact hs⟩)
end
theorem NX {l:List Nat} (p:Nat->Bool):(l.filter p).length+(l.filter (fun x=> !p x)).length=l.length:=by
 induction l with
 |nil=>rfl
 |cons a l ih=>
  cases h:p a with
  |true=>simp [List.filter_cons,h];omega
  |false=>simp [List.filter_cons,h];omega
theorem Xp {m N K:Nat} {t0 T:bq} (v:Valid m N K t0 T) (p:Nat->Bool) (hp:∀j,j<N->(p j=true↔iO m T j)):((List.range N).filter p).length=m:=by
 have Qa:((List.range m).map T.basis).Nodup:=by
  rw [List.nodup_iff_pairwise_ne,List.pairwise_map]
  have h0:(List.range m).Pairwise (fun a b=>a≠b):=List.nodup_range
  refine List.Pairwise.imp_of_mem ?_ h0
  intro a b ha hb hne e
  exact hne (v.inj (List.mem_range.1 ha) (List.mem_range.1 hb) e)
 have h1:=vI _ ((List.range N).filter p) Qa (fun x hx=>by
  obtain ⟨r,hr,rfl⟩:=List.mem_map.1 hx
  have hr':=List.mem_range.1 hr
  exact List.mem_filter.2 ⟨List.mem_range.2 (v.lt r hr'),(hp _ (v.lt r hr')).2 ⟨r,hr',rfl⟩⟩)
 have h2:=vI ((List.range N).filter p) ((List.range m).map T.basis) (List.Pairwise.filter _ List.nodup_range) (fun x hx=>by
  obtain ⟨h3,h4⟩:=List.mem_filter.1 hx
  obtain ⟨r,hr,e⟩:=(hp x (List.mem_range.1 h3)).1 h4
  exact List.mem_map.2 ⟨r,List.mem_range.2 hr,e⟩)
 rw [List.length_map,List.length_range] at h1 h2
 omega
section
variable {n m:Nat} {A:Nat->Nat->Rat} {right:Nat->Rat} {s:Rat}
theorem Ts {T:bq} (v:Valid m (n+m) (n+1) (init n m A right s) T) (se:n<=7) {l:List cq} (hl:l.length=n) (hok:l.all (jF (n:Int))=true)
 (hh:∀(h:Rat) (y:Nat->Rat),(∀k,k<n->S n (fun j=>gK l n k j*y j)=h*gK l n k n)->(∀j,j<n->¬iO m T j->y j=0)/\(∀i,i<m->¬iO m T (n+i)->S n (fun j=>A i j*y j)=h*right i)):
 a0w n (T.X m (n+m)) l:=by
 have hM:∀i j,i<n->j<=n->gK l n i j=0∨gK l n i j=1:=by
  intro i j hi hj
  have:=NQ hok i j (by omega) (by omega)
  rwa [hl] at this
 cases hg:fJ n (gK l n) n with
 |none=>
  exfalso
  obtain ⟨z,⟨j,hj,hz⟩,hs⟩:=QD hM se n (Nat.le_refl _) hg
  obtain ⟨h1,h2⟩:=hh 0 z (fun k hk=>by rw [hs k hk];grind)
  obtain ⟨x1,x2⟩:=Ea v
  have:=Kk v (y:=fun j=>T.X m (n+m) j+z j) (fun j hj hb=>by show _+z j=0;rw [x1 j hj hb,h1 j hj hb];grind) (fun i hi hb=>by
   have e:S n (fun j=>A i j*(T.X m (n+m) j+z j))=S n (fun j=>A i j*T.X m (n+m) j)+S n (fun j=>A i j*z j):=by
    rw [<-zq];exact Jn (fun j _=>by grind)
   rw [e,x2 i hi hb,h2 i hi hb];grind) j hj
  have e3:T.X m (n+m) j+z j=T.X m (n+m) j:=this
  exact hz (by grind)
 |some R=>
  refine ⟨R,hg,?_⟩
  obtain ⟨h1,h2⟩:=hh 1 (ox R n) (fun k hk=>by have:=(Xi hM se R hg).1 k hk;rw [this];grind)
  exact Kk v h1 (fun i hi hb=>by rw [h2 i hi hb];grind)
theorem a8z {all:List cq} {most:Bool} {B:Nat->Rat} (hb:Nf n m A right (gW most) B) (hm:∀x,all.all (iF x)=true↔AE n m A right x):Xo n all most B:=by
 refine ⟨fun x hx=>(hm x).2 (SK (fun j hj=>(hx j hj).symm) hb.1),fun x hx=>?_,fun x hx hne=>?_⟩
 ·cases h:gI n x B most with
  |false=>rfl
  |true=>exact absurd (uK.1 h) (hb.2 x ((hm x).1 hx))
 ·rw [uK]
  have h1:=hb.2 x ((hm x).1 hx)
  rcases gU.1 h1 with z|p
  ·exfalso
   apply hne
   intro j hj
   have h2:fM n (gW most) x (j+1)- fM n (gW most) B (j+1)=0:=z (j+1) (by omega)
   have e:∀u:Nat->Rat,fM n (gW most) u (j+1)=u j:=fun u=>by unfold fM;rw [if_neg (by omega)];rfl
   rw [e,e] at h2;grind
  ·exact (p.neg).congr (fun k _=>by grind)
end
def places (p:Nat->Bool) (N:Nat):List Int:=((List.range N).filter p).map (fun (i:Nat)=>(i:Int))
theorem zD {p:Nat->Bool} {N:Nat} {x:Int}:x∈places p N↔∃j:Nat,j<N/\p j=true/\x=(j:Int):=by
 unfold places
 simp only [List.mem_map,List.mem_filter,List.mem_range]
 constructor
 ·rintro ⟨j,⟨h1,h2⟩,h3⟩;exact ⟨j,h1,h2,h3.symm⟩
 ·rintro ⟨j,h1,h2,h3⟩;exact ⟨j,⟨h1,h2⟩,h3.symm⟩
theorem wX {p:Nat->Bool} {N j:Nat} (hj:j<N):((j:Int)∈places p N)↔p j=true:=by
 rw [zD]
 constructor
 ·rintro ⟨i,h1,h2,h3⟩;have:i=j:=by omega
  rw [<-this];exact h2
 ·intro h;exact ⟨j,hj,h,rfl⟩
theorem zE (p:Nat->Bool) (N:Nat):(places p N).length<=N:=by
 unfold places
 rw [List.length_map]
 have:=List.length_filter_le p (List.range N)
 rwa [List.length_range] at this
theorem xz (p:Nat->Bool) (N:Nat):places p (N+1)=places p N++(if p N=true then [(N:Int)] else []):=by
 unfold places
 rw [List.range_succ,List.filter_append,List.map_append]
 congr 1
 cases h:p N<;>simp [List.filter_cons,h]
theorem CX (x:Nat->Rat):∀(a b:List Int) (s:Rat),qW x (a++b) s=qW x b (qW x a s)
 | [],_,_=>rfl
 |_::a,b,s=>by simp only [List.cons_append,qW];exact CX x a b _
theorem CY (x:Nat->Rat) (p:Nat->Bool):∀N,qW x (places p N) 0=S N (fun j=>if p j=true then x j else 0)
 |0=>rfl
 |N+1=>by
  rw [xz,CX,CY x p N]
  simp only [S]
  by_cases h:p N=true
  ·rw [if_pos h,if_pos h];simp only [qW];rw [Int.toNat_natCast]
  ·rw [if_neg h,if_neg h];simp only [qW];grind
def lH (P:Nat->Nat->Bool) (n:Nat) (up:Bool) (i:Nat):cq:=⟨places (P i) n,up,1⟩
def qX (j:Nat):cq:=⟨[(j:Int)],false,0⟩
def lW (P:Nat->Nat->Bool) (n m:Nat) (up:Bool) (inc:Nat->Bool):List cq:=((List.range m).filter inc).map (lH P n up)++(List.range n).map qX
section
variable {P:Nat->Nat->Bool} {n m:Nat} {up:Bool} {inc:Nat->Bool}
theorem a4T (hn:n<=7) (i:Nat):jF (n:Int) (lH P n up i)=true:=by
 refine rS.2 ⟨?_,fun x hx=>?_,.inr rfl⟩
 ·have:(places (P i) n).length<=n:=zE _ _
  show (places (P i) n).length<=_;omega
 ·obtain ⟨j,h1,_,rfl⟩:=zD.1 hx;omega
theorem a4U {j:Nat} (hj:j<n):jF (n:Int) (qX j)=true:=by
 refine rS.2 ⟨by show (1:Nat)<=_;omega,fun x hx=>?_,.inl rfl⟩
 rw [List.mem_singleton.1 hx];omega
theorem Jp (hn:n<=7):(lW P n m up inc).all (jF (n:Int))=true:=by
 unfold lW
 rw [List.all_append,Bool.and_eq_true]
 constructor
 ·rw [List.all_eq_true];intro d hd
  obtain ⟨i,_,rfl⟩:=List.mem_map.1 hd
  exact a4T hn i
 ·rw [List.all_eq_true];intro d hd
  obtain ⟨j,hj,rfl⟩:=List.mem_map.1 hd
  exact a4U (List.mem_range.1 hj)
theorem NY:(lW P n m up inc).length<=m+n:=by
 unfold lW
 rw [List.length_append,List.length_map,List.length_map,List.length_range]
 have:=List.length_filter_le inc (List.range m)
 rw [List.length_range] at this;omega
def Bl (up:Bool):Rat:=if up=true then ((1:Int):Rat) else ((-1:Int):Rat)
structure Fits (P:Nat->Nat->Bool) (n m:Nat) (up:Bool) (inc:Nat->Bool) (A:Nat->Nat->Rat) (right:Nat->Rat):Prop where
 a:∀i j,i<m->j<n->A i j=Bl up*(if P i j=true then 1 else 0)
 r:∀i,i<m->right i=Bl up
 out:∀i,i<m->inc i=false->up=true/\∀j,j<n->P i j=false
variable {A:Nat->Nat->Rat} {right:Nat->Rat}
theorem Cu (f:Fits P n m up inc A right) (x:Nat->Rat) {i:Nat} (hi:i<m):S n (fun j=>A i j*x j)=Bl up*S n (fun j=>if P i j=true then x j else 0):=by
 rw [<-pV]
 refine Jn (fun j hj=>?_)
 rw [f.a i j hi hj]
 split<;>grind
theorem KJ (x:Nat->Rat) (i:Nat):iF x (lH P n up i)=true↔Bl up*S n (fun j=>if P i j=true then x j else 0)<=Bl up:=by
 unfold iF lH
 simp only [CY]
 have e1:(((1:Int)):Rat)=1:=rfl
 cases up with
 |true=>
  rw [if_pos rfl,e1]
  have:Bl true=1:=rfl
  rw [this]
  simp only [Bool.not_eq_true',decide_eq_false_iff_not]
  constructor<;>intro h<;>grind
 |false=>
  rw [if_neg (by decide),e1]
  have:Bl false= -1:=rfl
  rw [this]
  simp only [Bool.not_eq_true',decide_eq_false_iff_not]
  constructor<;>intro h<;>grind
theorem KL (x:Nat->Rat) (j:Nat):iF x (qX j)=true↔0<=x j:=by
 unfold iF qX
 simp only [qW,Int.toNat_natCast]
 have e1:(((0:Int)):Rat)=0:=rfl
 rw [if_neg (by decide),e1]
 simp only [Bool.not_eq_true',decide_eq_false_iff_not]
 constructor<;>intro h<;>grind
theorem Xq (f:Fits P n m up inc A right) (x:Nat->Rat):(lW P n m up inc).all (iF x)=true↔AE n m A right x:=by
 unfold lW
 rw [List.all_append,Bool.and_eq_true,List.all_eq_true,List.all_eq_true]
 constructor
 ·rintro ⟨h1,h2⟩
  refine ⟨fun j hj=>(KL x j).1 (h2 _ (List.mem_map.2 ⟨j,List.mem_range.2 hj,rfl⟩)),fun i hi=>?_⟩
  rw [Cu f x hi,f.r i hi]
  cases hc:inc i with
  |true=>exact (KJ x i).1 (h1 _ (List.mem_map.2 ⟨i,List.mem_filter.2 ⟨List.mem_range.2 hi,hc⟩,rfl⟩))
  |false=>
   obtain ⟨hu,hz⟩:=f.out i hi hc
   rw [jL (fun j hj=>by rw [hz j hj];exact if_neg (by decide)),hu]
   have:Bl true=1:=rfl
   rw [this];grind
 ·rintro ⟨h1,h2⟩
  constructor
  ·intro d hd
   obtain ⟨i,hi,rfl⟩:=List.mem_map.1 hd
   have vO:=List.mem_range.1 (List.mem_filter.1 hi).1
   have:=h2 i vO
   rw [Cu f x vO,f.r i vO] at this
   exact (KJ x i).2 this
  ·intro d hd
   obtain ⟨j,hj,rfl⟩:=List.mem_map.1 hd
   exact (KL x j).2 (h1 j (List.mem_range.1 hj))
theorem Xr {l:List cq} {d:cq} (h:d∈l):∃k,k<l.length/\l.getD k z49=d:=by
 obtain ⟨k,hk,e⟩:=List.getElem_of_mem h
 exact ⟨k,hk,by simp [List.getD_eq_getElem?_getD,hk,e]⟩
theorem Gj {α:Type} (p q:α->Bool):∀l:List α,(∀x,x∈l->q x=true->p x=true)->((l.filter p).filter q)=l.filter q
 | [],_=>rfl
 |a::l,h=>by
  have ih:=Gj p q l (fun x hx=>h x (List.mem_cons_of_mem _ hx))
  cases hp:p a with
  |true=>cases hq:q a<;>simp [List.filter_cons,hp,hq,ih]
  |false=>
   cases hq:q a with
   |true=>have:=h a (List.mem_cons_self ..) hq;rw [hp] at this;exact absurd this (by decide)
   |false=>simp [List.filter_cons,hp,hq,ih]
theorem KM {s:Rat} {T:bq} {most:Bool} (f:Fits P n m up inc A right) (se:n<=7) (v:Valid m (n+m) (n+1) (init n m A right s) T) (hb:Nf n m A right (gW most) (T.X m (n+m))):
 qc n (fu n (lW P n m up inc) most (lW P n m up inc).length [] none)=LQ n (T.X m (n+m)):=by
 have key:NV n (T.X m (n+m)) (fu n (lW P n m up inc) most (lW P n m up inc).length [] none):=by
  refine Bk (a8z hb (Xq f)) _ [] none (Nat.le_refl _) (fun x hx=>by simp at hx) ?_
  rw [Nat.sub_self,List.drop_zero]
  have Xt:∀i,i<m->inc i=false->iO m T (n+i):=fun i hi hc=>by
   by_cases vk:iO m T (n+i)
   ·exact vk
   ·exfalso
    have h1:=(Ea v).2 i hi vk
    obtain ⟨hu,hz⟩:=f.out i hi hc
    rw [Cu f _ hi,f.r i hi,jL (fun j hj=>by rw [hz j hj];exact if_neg (by decide)),hu] at h1
    have:Bl true=1:=rfl
    rw [this] at h1;grind
  classical
  let nb:Nat->Bool:=fun c=> !decide (iO m T c)
  have hnb:∀c,nb c=true↔¬iO m T c:=fun c=>by simp [nb]
  let l:=(((List.range m).filter inc).filter (fun i=>nb (n+i))).map (lH P n up)++((List.range n).filter nb).map qX
  have hsub:l.Sublist (lW P n m up inc):=List.Sublist.append (List.Sublist.map _ List.filter_sublist) (List.Sublist.map _ List.filter_sublist)
  have hlen:l.length=n:=by
   show (_++_:List _).length=n
   rw [List.length_append,List.length_map,List.length_map,Gj inc (fun i=>nb (n+i)) _ (fun i hi hq=>by
    cases hc:inc i with
    |true=>rfl
    |false=>exact absurd (Xt i (List.mem_range.1 hi) hc) ((hnb _).1 hq))]
   have h1:=Xp v (fun c=>decide (iO m T c)) (fun c _=>by simp)
   have h2:=NX (l:=List.range (n+m)) (fun c=>decide (iO m T c))
   rw [h1,List.length_range] at h2
   have h3:((List.range (n+m)).filter nb).length=((List.range n).filter nb).length+((List.range m).filter (fun i=>nb (n+i))).length:=by
    rw [List.range_add,List.filter_append,List.length_append,List.filter_map,List.length_map];rfl
   have h4:((List.range (n+m)).filter (fun x=> !decide (iO m T x))).length=((List.range (n+m)).filter nb).length:=rfl
   omega
  have hok:l.all (jF (n:Int))=true:=by
   rw [List.all_eq_true];intro d hd
   exact List.all_eq_true.1 (Jp (m:=m) (inc:=inc) (up:=up) (P:=P) se) d (hsub.subset hd)
  refine ⟨l,hsub,by simpa using hlen,?_⟩
  rw [List.nil_append]
  refine Ts v se hlen hok (fun h y hy=>⟨fun j hj JV=>?_,fun i hi hbi=>?_⟩)
  ·have hm:qX j∈l:=List.mem_append_right _ (List.mem_map.2 ⟨j,List.mem_filter.2 ⟨List.mem_range.2 hj,(hnb j).2 JV⟩,rfl⟩)
   obtain ⟨k,hk,e⟩:=Xr hm
   have h1:=hy k (by omega)
   have h2:gK l n k n=0:=by unfold gK;rw [if_pos rfl,e];rfl
   have h3:S n (fun q=>gK l n k q*y q)=S n (fun q=>if q=j then y q else 0):=Jn (fun q hq=>by
    unfold gK
    rw [if_neg (by omega),e]
    show (if (q:Int)∈[(j:Int)] then (1:Rat) else 0)*y q=_
    by_cases e2:q=j
    ·rw [if_pos e2,if_pos (by rw [e2];exact List.mem_singleton.2 rfl)];grind
    ·rw [if_neg e2,if_neg (fun hm=>e2 (by have:=List.mem_singleton.1 hm;omega))];grind)
   rw [h3,h2,gl hj y] at h1
   rw [h1];grind
  ·have b5t:inc i=true:=by
    cases hc:inc i with
    |true=>rfl
    |false=>exact absurd (Xt i hi hc) hbi
   have hm:lH P n up i∈l:=List.mem_append_left _ (List.mem_map.2 ⟨i,List.mem_filter.2 ⟨List.mem_filter.2 ⟨List.mem_range.2 hi,b5t⟩,(hnb _).2 hbi⟩,rfl⟩)
   obtain ⟨k,hk,e⟩:=Xr hm
   have h1:=hy k (by omega)
   have h2:gK l n k n=1:=by unfold gK;rw [if_pos rfl,e];rfl
   have h3:S n (fun q=>gK l n k q*y q)=S n (fun q=>if P i q=true then y q else 0):=Jn (fun q hq=>by
    unfold gK
    rw [if_neg (by omega),e]
    show (if (q:Int)∈places (P i) n then (1:Rat) else 0)*y q=_
    by_cases e2:P i q=true
    ·rw [if_pos e2,if_pos ((wX hq).2 e2)];grind
    ·rw [if_neg e2,if_neg (fun hm=>e2 ((wX hq).1 hm))];grind)
   rw [h3,h2] at h1
   rw [Cu f y hi,f.r i hi,h1];grind
 obtain ⟨x,e,hx⟩:=key
 rw [e]
 exact a0t hx
end
end Go.Proofs.Ytnhknojfpjheoaa.PT
namespace Go.Proofs.Ytnhknojfpjheoaa.P
open Go.RowKit Go.Proofs.YtnhknojfpjheoaaW.PrintWords Go.Proofs.YtnhknojfpjheoaaW.PrintLast Go.Proofs.YtnhknojfpjheoaaW.PrintMore
attribute [local go_sem] max2_int min2_int max_two min_two max_three min_three max_four min_four
set_option linter.all false
def ct.l0:Nat->Int->List Int->Int->Int->Option (Bool)
 |0,_,_,_,_=>none
 |k+1,x1,x7,x8,x9=>if x9<x8 then (if 0<=x9 then (if x9<(x7.length:Int) then (if x1=(rd x7 x9) then (some true) else (ct.l0 k x1 x7 x8 (wrap64 (x9+1)))) else (none)) else (none)) else (some false)
def ct.f (k:Nat) (l0:List Int) (a1:Int):Option (Bool):=ct.l0 k a1 l0 (l0.length:Int) 0
theorem ct.cI:∀k,(∀y0 y1 y2 y3,aT (ct.l0 k y0 y1 y2 y3) (ct.l0 (k+1) y0 y1 y2 y3))
 |0=>fun _ _ _ _ r h=>by simp [ct.l0] at h
 |k+1=>by
  have dL:=ct.cI k
  ·intro y0 y1 y2 y3
   unfold ct.l0
   repeat' first
   |(with_reducible exact dL _ _ _ _)
   |(with_reducible exact aT.refl _)
   |(with_reducible exact aT.none _)
   |(with_reducible refine aT.ite ?_ ?_)
   |(with_reducible refine aT.bind ?_ (fun _=>?_))
theorem ct.mono:∀a0 a1 k,aT (ct.f k a0 a1) (ct.f (k+1) a0 a1):=by
 intro a0 a1 k
 have dL:=ct.cI k
 unfold ct.f
 repeat' first
  |(with_reducible exact dL _ _ _ _)
  |(with_reducible exact aT.refl _)
  |(with_reducible exact aT.none _)
  |(with_reducible refine aT.ite ?_ ?_)
  |(with_reducible refine aT.bind ?_ (fun _=>?_))
set_option maxHeartbeats 8000000 in
set_option maxRecDepth 100000 in
theorem ct.calls (k:Nat) (A0:Option Addr) (c0:Nat) (l0:List Int) (a1:Int) (r:Bool) (w:World) (fy:Kd.C (Kd.int .i64) w A0 l0.length l0) (hc0:l0.length<=c0) (h:ct.f k l0 a1=some r):
 Calls Try.prog 23 #[.slice A0 l0.length c0,.int .i64 a1] w fun e w'=>e= .returned (.bool r)/\bg w w':=by
 have eE:=Aside0.mk fy
 have lR:=Aside0.mk hc0
 clear fy hc0
 have H:(ct.l0 k a1 l0 (l0.length:Int) 0)=some r:=h
 clear h
 have H':=Aside0.mk H
 clear H
 go_enter Try.func23,Try.ntmps23
 go_wp2
 go_loopg [9] k (fun kq v9 w'=>∃(cj:Int),v9= .int .i64 cj/\Aside0 (ct.l0 kq a1 l0 (l0.length:Int) cj=some r)/\Aside0 (kq<=k)/\bg w w')
 case atStart=>exact ⟨(0),(by first|rfl|(simp;done)|(simp [*];done)),H',⟨Nat.le_refl _⟩,by repeat (first|exact bg.refl _|apply bg.step)⟩
 case round=>
  clear H'
  try clear c2
  try clear p2
  obtain ⟨cj,rfl,HA,fR,⟨m1,rfl⟩⟩:=hrel
  cases gk with
  |zero=>exact absurd HA.out (by simp [ct.l0])
  |succ k1=>
   have H:=HA.out
   clear HA
   simp only [ct.l0] at H
   by_cases c3:cj<(l0.length:Int)
   ·rw [if_pos c3] at H
    have gv:decide (cj<(l0.length:Int))=true:=decide_eq_true c3
    clear c3
    by_cases c4:0<=cj
    ·rw [if_pos c4] at H
     have kC:decide (0<=cj)=true:=decide_eq_true c4
     clear c4
     by_cases c5:cj<(l0.length:Int)
     ·rw [if_pos c5] at H
      have uY:decide (cj<(l0.length:Int))=true:=decide_eq_true c5
      clear c5
      by_cases c6:a1=(rd l0 cj)
      ·rw [if_pos c6] at H
       have ov:(a1==(rd l0 cj))=true:=beq_iff_eq.mpr c6
       have MD:(a1 !=(rd l0 cj))=false:=bne_eq_false_iff_eq.mpr c6
       clear c6
       obtain rfl:=Option.some.inj H
       have Ej:0<=(cj:Int):=of_decide_eq_true (by first|(with_reducible assumption)|assumption)
       have Ek:cj<(l0.length:Int):=of_decide_eq_true (by first|(with_reducible assumption)|assumption)
       obtain ⟨b1B,a0x,a4V⟩:=Kd.gq eE.out cj Ej Ek
       cases a0x
       replace Ej:=eq_true Ej
       replace Ek:=eq_true Ek
       go_wp2
       go_ret
       exact ⟨by first|rfl|(simp;done)|(simp [*];done),by repeat (first|exact bg.refl _|apply bg.step)⟩
      ·rw [if_neg c6] at H
       have ov:(a1==(rd l0 cj))=false:=beq_eq_false_iff_ne.mpr c6
       have MD:(a1 !=(rd l0 cj))=true:=bne_iff_ne.mpr c6
       have H':=Aside0.mk H
       clear H
       have Ej:0<=(cj:Int):=of_decide_eq_true (by first|(with_reducible assumption)|assumption)
       have Ek:cj<(l0.length:Int):=of_decide_eq_true (by first|(with_reducible assumption)|assumption)
       obtain ⟨b1B,a0x,a4V⟩:=Kd.gq eE.out cj Ej Ek
       cases a0x
       replace Ej:=eq_true Ej
       replace Ek:=eq_true Ek
       go_wp2
       go_roundg k1
       case measure=>have:=fR.out;omega
       case rel=>exact ⟨(wrap64 (cj+1)),(by first|rfl|(simp;done)|(simp [*];done)),H',⟨by have:=fR.out;omega⟩,by repeat (first|exact bg.refl _|apply bg.step)⟩
     ·rw [if_neg c5] at H
      exact absurd H (by simp)
    ·rw [if_neg c4] at H
     exact absurd H (by simp)
   ·rw [if_neg c3] at H
    have gv:decide (cj<(l0.length:Int))=false:=decide_eq_false c3
    clear c3
    obtain rfl:=Option.some.inj H
    go_wp2
    go_ret
    exact ⟨by first|rfl|(simp;done)|(simp [*];done),by repeat (first|exact bg.refl _|apply bg.step)⟩
end Go.Proofs.Ytnhknojfpjheoaa.P
namespace Go.Proofs.Ytnhknojfpjheoaa.PT
open Go.RowKit Go.Proofs.Ytnhknojfpjheoaa.P Go.Proofs.YtnhknojfpjheoaaW.PrintWords Go.Proofs.YtnhknojfpjheoaaW.PrintLast Go.Proofs.Ytnhknojfpjheoaa.EvKit Go.Proofs.Ytnhknojfpjheoaa.Num Go.Proofs.Ytnhknojfpjheoaa.Lp
set_option linter.all false
theorem Xu {W:World} {A:Option Addr} {xs:List cq} (h:Kd.C iZ W A xs.length xs):∃rows:List (List Value),rows.length=xs.length/\Kd.C (Kd.raw 3) W A xs.length rows/\∀(j:Nat) (x:cq) (c:List Value),xs[j]? =some x->rows[j]? =some c->iZ.K W x c:=
 Kd.Uv (Rr:=iZ.K W) (sz:=3) h (fun x c hk=>⟨iZ.iQ hk,iZ.jw hk⟩)
theorem Xv {W:World} {A:Option Addr} {xs:List cq} {rows:List (List Value)} (h:Kd.C (Kd.raw 3) W A xs.length rows) (hl:rows.length=xs.length) (hK:∀(j:Nat) (x:cq) (c:List Value),xs[j]? =some x->rows[j]? =some c->iZ.K W x c):Kd.C iZ W A xs.length xs:=by
 refine ⟨rfl,h.2.1,fun hp=>?_⟩
 obtain ⟨ad,e,hr⟩:=h.2.2 hp
 refine ⟨ad,e,fun j p hj=>?_⟩
 have hjl:=(List.getElem?_eq_some_iff.1 hj).1
 have Xa:rows[j]? =some rows[j]:=List.getElem?_eq_getElem (by omega)
 obtain ⟨c,hc,hk,hcc⟩:=hr j _ Xa
 have hk':c=rows[j]:=hk.1
 exact ⟨c,hc,hK j p c hj (by rw [Xa,hk']),hcc⟩
theorem KN (w:World):Kd.R (Kd.raw 3) 49 (w.alloc (.cells #[] 49)) w.heap.size (fun _=>True) (.slice (some ⟨w.heap.size,0,none⟩) 0 0) []:=
 ⟨fun _ _=>trivial,[],⟨rfl,.inr ⟨w.heap.size,0,#[],rfl,Nat.le_refl _,di w _,Nat.le_refl _,by unfold maxLen;omega,rfl,rfl⟩⟩,cT.none _ _⟩
theorem Cv {W:World} {b:Nat} {u0 u1 u2:Value} (h:W.heap[b]? =some (.cells #[u0,u1,u2] 49 (0,0))) (h0:u0.oneCell'=true) (h1:u1.oneCell'=true) (h2:u2.oneCell'=true):Kd.C (Kd.raw 3) W (some ⟨b,0,none⟩) 1 [[u0,u1,u2]]:=by
 refine ⟨rfl,by omega,fun _=>⟨⟨b,0,none⟩,rfl,fun j p hj=>?_⟩⟩
 rcases j with _|j
 ·simp only [List.getElem?_cons_zero,Option.some.injEq] at hj
  subst hj
  refine ⟨_,rfl,⟨rfl,rfl,fun u hu=>?_⟩,fun i u hu=>?_⟩
  ·simp only [List.mem_cons,List.not_mem_nil,or_false] at hu
   rcases hu with rfl|rfl|rfl
   ·exact h0
   ·exact h1
   ·exact h2
  ·have ea:(Addr.add ⟨b,0,none⟩ (0*3+i))=⟨b,i,none⟩:=by
    rw [Nat.zero_mul,Nat.zero_add]
    unfold Addr.add
    split
    ·next h=>rw [h]
    ·simp
   show W.cell? (Addr.add ⟨b,0,none⟩ (0*3+i))=some u
   rw [ea]
   refine (af h i).trans ?_
   rw [<-hu]
   simp
 ·simp at hj
def a2J (n:Nat) (most:Bool) (x:Nat->Rat):Option (Nat->Rat)->Option (Nat->Rat)
 |none=>some x
 |some b=>if gI n x b most=true then some x else some b
theorem Xw {n:Nat} {all ch:List cq} {most:Bool} {best:Option (Nat->Rat)} (h:fJ n (gK ch n) n=none):jW n all most ch best=best:=by unfold jW;rw [h]
theorem Xx {n:Nat} {all ch:List cq} {most:Bool} {best:Option (Nat->Rat)} {R:Nat->Nat->Rat} (h:fJ n (gK ch n) n=some R):jW n all most ch best=if all.all (iF (ox R n))=true then a2J n most (ox R n) best else best:=by
 unfold jW;rw [h];cases best<;>rfl
theorem a0y {n:Nat} {ch:List cq} (hch:ch.all (jF (n:Int))=true) (hl:ch.length=n) (hn0:0<n) (hn:n<=7):Gi (n:Int) ch=some (qc n ((fJ n (gK ch n) n).map (fun R=>ox R n)),(fJ n (gK ch n) n).isSome):=by
 subst hl
 unfold Gi
 have:yA (ch.length:Int) ch=true:=by
  unfold yA
  simp only [Bool.and_eq_true,decide_eq_true_eq]
  exact ⟨⟨⟨trivial,hn0⟩,hn⟩,hch⟩
 rw [if_pos this]
 cases fJ ch.length (gK ch ch.length) ch.length<;>rfl
theorem zF:(Try.prog.info? 49).map (fun i=>(i.zero,i.size,i.bytes))=some (some (.agg #[.slice none 0 0,.bool false,.int .i64 0]),3,40):=by kernel_rfl
theorem a0z {l:List cq} {p:cq->Bool} {i:Nat} (h:(l.take i).all p=true) (hi:i<l.length) (hp:p l[i]=true):(l.take (i+1)).all p=true:=by
 rw [List.take_succ_eq_append_getElem hi,List.all_append,h]
 simp [hp]
theorem a8A {l:List cq} {p:cq->Bool} {i:Nat} (hi:i<l.length) (hp:p l[i]=false):l.all p=false:=by
 cases h:l.all p with
 |false=>rfl
 |true=>rw [List.all_eq_true.1 h _ (List.getElem_mem hi)] at hp;exact absurd hp (by decide)
theorem KO (n:Nat) (all:List cq) (most:Bool) {ch:List cq} (h:ch.length=n) (d:Nat) (best:Option (Nat->Rat)):fu n all most d ch best=jW n all most ch best:=by
 cases d with
 |zero=>simp only [fu];rw [if_pos h]
 |succ d=>simp only [fu];rw [if_pos h]
theorem Xy (n:Nat) (all:List cq) (most:Bool) {ch:List cq} (h:ch.length<n) {d:Nat} (hd:d<n - ch.length) (best:Option (Nat->Rat)):fu n all most d ch best=best:=by
 cases d with
 |zero=>simp only [fu];rw [if_neg (by omega)]
 |succ d=>simp only [fu];rw [if_neg (by omega),if_pos hd]
theorem a0A (n:Nat) (all:List cq) (most:Bool) {ch:List cq} (h:ch.length<n) {d:Nat} (hd:¬d+1<n - ch.length) (best:Option (Nat->Rat)):fu n all most (d+1) ch best=fu n all most d ch (fu n all most d (ch++[all.getD (all.length -(d+1)) z49]) best):=by
 simp only [fu];rw [if_neg (by omega),if_neg hd]
def BR (W:World) (base n:Nat) (v:Value) (o:Option (Nat->Rat)):Prop:=(∃A c,v= .slice A (qc n o).length c/\(qc n o).length<=c/\eY.C W A (qc n o).length (qc n o))/\(o≠none->Kd.R eY 26 W base (fun _=>True) v (qc n o))
theorem NZ {W W1:World} {base n:Nat} {v:Value} {o:Option (Nat->Rat)} (h:BR W base n v o) (hb:Below W.heap.size W W1):BR W1 base n v o:=by
 obtain ⟨⟨A,c,e,h1,h2⟩,h3⟩:=h
 exact ⟨⟨A,c,e,h1,Kd.bX h2 hb⟩,fun ho=>Kd.lX (h3 ho) hb⟩
theorem QL {W:World} {base n:Nat} {v:Value} {x:Nat->Rat} (h:Kd.R eY 26 W base (fun _=>True) v (LQ n x)):BR W base n v (some x):=⟨Kd.oa h,fun _=>h⟩
set_option maxHeartbeats 4000000 in
set_option maxRecDepth 100000 in
theorem CZ (n:Nat) (hn0:0<n) (se:n<=7) (all:List cq) (hall:all.all (jF (n:Int))=true) (zO:all.length<=100) (most:Bool) (A1:Option Addr) (c1:Nat) (base:Nat) (fr:Int) (A3:Option Addr) (c3:Nat) (ch:List cq) (vb:Value) (best:Option (Nat->Rat)) (w:World)
 (qq:Kd.C iZ w A1 all.length all) (hc1:all.length<=c1) (Da:Kd.C iZ w A3 ch.length ch) (hc3:ch.length<=c3) (hch:ch.all (jF (n:Int))=true) (yK:ch.length=n) (hcm:QJ n best) (hR:BR w base n vb best) (hb:base<=w.heap.size):
 Calls Try.prog 25 #[.int .i64 (n:Int),.slice A1 all.length c1,.int .i64 fr,.slice A3 ch.length c3,vb,.bool most] w fun e w'=>∃v,e= .returned v/\BR w' base n v (jW n all most ch best)/\Below w.heap.size w w':=by
 have hu:=Try.underlying49
 ·
  have QM:=Aside0.mk (fun W (hb:Below w.heap.size w W)=>Pg (n:Int) A3 c3 ch _ _ W (Kd.bX Da hb) hc3 (a0y hch yK hn0 se))
  have nW:=Aside0.mk (fun W (hb:Below w.heap.size w W)=>Kd.bX qq hb)
  have HR:=Aside0.mk (fun W (hb:Below w.heap.size w W)=>NZ hR hb)
  have HCm:=Aside0.mk hcm
  have HBb:=Aside0.mk hb
  have HB:=Aside0.mk (Below.refl w.heap.size w)
  have b5u:=Aside0.mk hall
  have HCs:=Aside0.mk (fun R (h:fJ n (gK ch n) n=some R)=>Xn hch yK se h)
  have e1:((ch.length:Int)==(n:Int))=true:=by rw [yK];simp
  have Xz:(ch.length==n)=true:=by rw [yK];simp
  obtain ⟨Ab,cb,rfl,hlb,QN⟩:=hR.1
  have HLb:=Aside0.mk hlb
  have HCb:=Aside0.mk (fun W (hb:Below w.heap.size w W)=>Kd.bX QN hb)
  clear qq Da hR hcm hb hall hlb QN yK hch
  cases hg:fJ n (gK ch n) n with
  |none=>
   have HEq:Aside0 (jW n all most ch best=best):=⟨Xw hg⟩
   rw [hg] at QM
   have a0B:Aside0 (∀W,Below w.heap.size w W->Calls Try.prog 48 #[.int .i64 (n:Int),.slice A3 ch.length c3] W fun e w'=>∃oZ:Value,e= .returned (.tuple #[oZ,.bool false])/\Kd.R eY 26 w' W.heap.size (fun _=>True) oZ []/\Below W.heap.size W w'):=⟨QM.out⟩
   clear hg QM HCs
   go_enter Try.func25,Try.ntmps25
   go_wp2_with (first|(go_at_call 48;(with_reducible refine (a0B.out _ HB.out).mono ?_);rintro e w1 ⟨v0,rfl,hr1,hb1⟩;have eL:=Aside0.mk (ah HB.out hb1);clear hr1 hb1))
   go_ret
   refine ⟨_,rfl,?_,eL.out⟩
   rw [HEq.out];exact HR.out _ eL.out
  |some R=>
   have HCx:=Aside0.mk (HCs.out R hg)
   have Tt:Aside0 (jW n all most ch best=if all.all (iF (ox R n))=true then a2J n most (ox R n) best else best):=⟨Xx hg⟩
   rw [hg] at QM
   have a0B:Aside0 (∀W,Below w.heap.size w W->Calls Try.prog 48 #[.int .i64 (n:Int),.slice A3 ch.length c3] W fun e w'=>∃oZ:Value,e= .returned (.tuple #[oZ,.bool true])/\Kd.R eY 26 w' W.heap.size (fun _=>True) oZ (LQ n (ox R n))/\Below W.heap.size W w'):=⟨QM.out⟩
   clear hg QM HCs
   generalize ox R n=x at*
   go_enter Try.func25,Try.ntmps25
   go_wp2_with (first|(go_at_call 48;(with_reducible refine (a0B.out _ HB.out).mono ?_);rintro e w1 ⟨v0,rfl,hr1,hb1⟩;obtain ⟨Ax,cx,rfl,hxl,hxc⟩:=Kd.oa hr1;have eL:=Aside0.mk (ah HB.out hb1);have zX:=Aside0.mk hr1;have HXC:=Aside0.mk (fun W (hb:Below w1.heap.size w1 W)=>Kd.bX hxc hb);have HXL:=Aside0.mk hxl;clear hr1 hb1 hxc hxl))
   have HXR:=Aside0.mk (fun W (hb:Below w1.heap.size w1 W)=>Kd.kL (Kd.lX zX.out hb) HBb.out)
   have kO:Aside0 (Below w1.heap.size w1 w1):=⟨Below.refl _ _⟩
   clear zX
   go_loopw [33] (fun iv wr=>∃i:Nat,iv= .int .i64 (i:Int)/\i<=all.length/\Aside0 ((all.take i).all (iF x)=true)/\Aside0 (Below w1.heap.size w1 wr)) (fun iv _=>all.length -(intOf iv).toNat)
   case atStart=>exact ⟨0,rfl,by omega,⟨by simp⟩,kO⟩
   case round=>
    obtain ⟨i,rfl,hi,Db,cr⟩:=hrel
    by_cases hin:i<all.length
    ·have Qr:=Aside0.mk hin
     have HBw:Aside0 (Below w.heap.size w wr):=⟨ah eL.out cr.out⟩
     obtain ⟨ad,A0,c0,e,hx0,hx1,hx2,zW,qq⟩:=Mi (nW.out _ HBw.out) (i:Int) (by omega) (by omega)
     cases e
     have hd:rE all (i:Int)=all[i]:=by
      show all.getD (i:Int).toNat z49=_
      rw [Int.toNat_natCast];simp [List.getD_eq_getElem?_getD,hin]
     rw [hd] at hx0 hx1 hx2 zW qq
     have hmem:=List.all_eq_true.1 b5u.out _ (List.getElem_mem hin)
     obtain ⟨k,hk⟩:=Ev.rounds (a0v hmem se HCx.out)
     have hT:=fun (hp:iF x all[i]=true)=>a0z Db.out hin hp
     have hA:=fun (hp:iF x all[i]=false)=>a8A (p:=iF x) hin hp
     generalize all[i]=dd at*
     obtain ⟨iE,up,bd⟩:=dd
     dsimp only at*
     rw [Int.toNat_natCast] at hx0 hx1 hx2
     have g0:(0:Int)<=(i:Int):=by omega
     have g1:(i:Int)<(all.length:Int):=by omega
     have Ge:decide ((i:Int)<(all.length:Int))=true:=decide_eq_true g1
     have yy:decide (i<all.length)=true:=decide_eq_true hin
     have ru:Aside0 (wrap64 ((i:Int)+1)=((i+1:Nat):Int)):=⟨eR (by omega)⟩
     have HMt:Aside0 (∀W,Below wr.heap.size wr W->Calls Try.prog 49 #[.slice Ax (LQ n x).length cx,.agg #[.slice A0 iE.length c0,.bool up,.int .i64 bd]] W fun e w'=>e= .returned (.bool (iF x ⟨iE,up,bd⟩))/\Below W.heap.size W w'):=⟨fun W hb=>cV.calls k Ax cx (LQ n x) A0 c0 iE up bd _ W (HXC.out _ (ah cr.out hb)) HXL.out (Kd.bX qq hb) zW hk⟩
     clear hk hmem hd hin hi zW qq
     cases hm:iF x ⟨iE,up,bd⟩ with
     |true=>
      rw [hm] at HMt
      have Nr:=Aside0.mk (hT hm)
      clear hT hA hm Db
      go_wp2_with (first|(go_at_call 49;(with_reducible refine (HMt.out _ (bA (Below.refl _ _) _)).mono ?_);rintro e w2 ⟨rfl,hb2⟩;have lT:Aside0 (Below w1.heap.size w1 w2):=⟨ah cr.out (ah (bA (Below.refl _ _) _) hb2)⟩;clear hb2))
      go_roundw
      case rel=>exact ⟨i+1,by first|(rw [ru.out];done)|rfl|(simp;done),Qr.out,Nr,lT⟩
      case measure=>(try rw [ru.out]);have:=Qr.out;simp [intOf];omega
     |false=>
      rw [hm] at HMt
      have HEq:Aside0 (jW n all most ch best=best):=⟨by rw [Tt.out,if_neg (by rw [hA hm];decide)]⟩
      clear hT hA hm Db
      go_wp2_with (first|(go_at_call 49;(with_reducible refine (HMt.out _ (bA (Below.refl _ _) _)).mono ?_);rintro e w2 ⟨rfl,hb2⟩;have lT:Aside0 (Below w.heap.size w w2):=⟨ah HBw.out (ah (bA (Below.refl _ _) _) hb2)⟩;clear hb2))
      go_ret
      refine ⟨_,rfl,?_,lT.out⟩
      rw [HEq.out];exact HR.out _ lT.out
    ·have Jd:i=all.length:=by omega
     rw [Jd,List.take_length] at Db
     have Ge:decide ((i:Int)<(all.length:Int))=false:=decide_eq_false (by omega)
     have yy:decide (i<all.length)=false:=decide_eq_false hin
     have HBw:Aside0 (Below w.heap.size w wr):=⟨ah eL.out cr.out⟩
     cases best with
     |none=>
      have HEq:Aside0 (jW n all most ch none=some x):=⟨by rw [Tt.out,if_pos Db.out];rfl⟩
      have hl0:(qc n none).length=0:=rfl
      rw [hl0]
      clear Jd hin hi Db
      go_wp2
      go_ret
      refine ⟨_,rfl,?_,HBw.out⟩
      rw [HEq.out];exact QL (HXR.out _ cr.out)
     |some b=>
      have hlq:(qc n (some b)).length=n:=kK n b
      have e2:((n:Int)==0)=false:=beq_eq_false_iff_ne.mpr (by omega)
      have e2n:(n==0)=false:=beq_eq_false_iff_ne.mpr (by omega)
      have a8C:Aside0 (∀W,Below w.heap.size w W->Kd.C eY W Ab (LQ n b).length (LQ n b)):=⟨HCb.out⟩
      obtain ⟨k,hk⟩:=Ev.rounds (Xm se HCx.out (HCm.out b rfl) most)
      have FX:Aside0 (∀W,Below w1.heap.size w1 W->Calls Try.prog 50 #[.slice Ax (LQ n x).length cx,.slice Ab (qc n (some b)).length cb,.bool most] W fun e w'=>e= .returned (.bool (gI n x b most))/\Below W.heap.size W w'):=⟨fun W hb=>bk.calls k Ax cx (LQ n x) Ab cb (LQ n b) most _ W (HXC.out _ hb) HXL.out (a8C.out _ (ah eL.out hb)) HLb.out hk⟩
      rw [hlq] at FX HR⊢
      clear hk Jd hin hi HCb a8C hlq
      cases hm:gI n x b most with
      |true=>
       rw [hm] at FX
       have HEq:Aside0 (jW n all most ch (some b)=some x):=⟨by rw [Tt.out,if_pos Db.out];show (if gI n x b most=true then some x else some b)=_;rw [if_pos hm]⟩
       clear hm Db
       go_wp2_with (first|(go_at_call 50;(with_reducible refine (FX.out _ cr.out).mono ?_);rintro e w2 ⟨rfl,hb2⟩;have lT:Aside0 (Below w1.heap.size w1 w2):=⟨ah cr.out hb2⟩;clear hb2))
       go_ret
       refine ⟨_,rfl,?_,ah eL.out lT.out⟩
       rw [HEq.out];exact QL (HXR.out _ lT.out)
      |false=>
       rw [hm] at FX
       have HEq:Aside0 (jW n all most ch (some b)=some b):=⟨by rw [Tt.out,if_pos Db.out];show (if gI n x b most=true then some x else some b)=_;rw [if_neg (by rw [hm];decide)]⟩
       clear hm Db
       go_wp2_with (first|(go_at_call 50;(with_reducible refine (FX.out _ cr.out).mono ?_);rintro e w2 ⟨rfl,hb2⟩;have lT:Aside0 (Below w1.heap.size w1 w2):=⟨ah cr.out hb2⟩;clear hb2))
       go_ret
       refine ⟨_,rfl,?_,ah eL.out lT.out⟩
       rw [HEq.out];exact HR.out _ (ah eL.out lT.out)
set_option maxHeartbeats 4000000 in
set_option maxRecDepth 100000 in
theorem Dc (n:Nat) (se:n<=7) (all:List cq) (zO:all.length<=100) (most:Bool) (A1:Option Addr) (c1:Nat) (base:Nat) (d fr:Nat) (hfr:fr+d=all.length) (A3:Option Addr) (c3:Nat) (ch:List cq) (vb:Value) (best:Option (Nat->Rat)) (w:World)
 (hc1:all.length<=c1) (hc3:ch.length<=c3) (uW:ch.length<n) (hpa:d<n - ch.length) (hR:BR w base n vb best) (hb:base<=w.heap.size):
 Calls Try.prog 25 #[.int .i64 (n:Int),.slice A1 all.length c1,.int .i64 (fr:Int),.slice A3 ch.length c3,vb,.bool most] w fun e w'=>∃v,e= .returned v/\BR w' base n v (fu n all most d ch best)/\Below w.heap.size w w':=by
 rw [Xy n all most uW hpa]
 have hs1:IntKind.i64.wrap ((fr:Int)+(n:Int))=((fr+n:Nat):Int):=by rw [cZ,cO (by omega) (by omega)];omega
 have hs2:IntKind.i64.wrap (((fr+n:Nat):Int)-(ch.length:Int))=((fr+n - ch.length:Nat):Int):=by rw [cZ,cO (by omega) (by omega)];omega
 have hK:∃q1 q2:Nat,q1=fr+n/\q2=fr+n - ch.length:=⟨_,_,rfl,rfl⟩
 obtain ⟨q1,q2,hq1,hq2⟩:=hK
 rw [<-hq1] at hs1
 rw [<-hq2,<-hq1] at hs2
 have hgt:decide ((q2:Int)>(all.length:Int))=true:=decide_eq_true (by omega)
 have b5v:decide (q2>all.length)=true:=decide_eq_true (by omega)
 have b5w:decide ((all.length:Int)<(q2:Int))=true:=decide_eq_true (by omega)
 have b1C:decide (all.length<q2)=true:=decide_eq_true (by omega)
 have e1:((ch.length:Int)==(n:Int))=false:=beq_eq_false_iff_ne.mpr (by omega)
 have Xz:(ch.length==n)=false:=beq_eq_false_iff_ne.mpr (by omega)
 have HR:=Aside0.mk hR
 obtain ⟨Ab,cb,rfl,hlb,QN⟩:=hR.1
 clear hR QN hlb hq1 hq2 hfr
 go_enter Try.func25,Try.ntmps25
 go_wp2
 go_ret
 exact ⟨_,rfl,HR.out,Below.refl _ _⟩
set_option maxHeartbeats 4000000 in
set_option maxRecDepth 100000 in
theorem Ph (n:Nat) (hn0:0<n) (se:n<=7) (all:List cq) (hall:all.all (jF (n:Int))=true) (zO:all.length<=100) (most:Bool) (A1:Option Addr) (c1:Nat) (base:Nat):∀d fr:Nat,fr+d=all.length->∀(A3:Option Addr) (c3:Nat) (ch:List cq) (vb:Value) (best:Option (Nat->Rat)) (w:World)
 (qq:Kd.C iZ w A1 all.length all) (hc1:all.length<=c1) (Da:Kd.C iZ w A3 ch.length ch) (hc3:ch.length<=c3) (hch:ch.all (jF (n:Int))=true) (uW:ch.length<=n) (hcm:QJ n best) (hR:BR w base n vb best) (hb:base<=w.heap.size),
 Calls Try.prog 25 #[.int .i64 (n:Int),.slice A1 all.length c1,.int .i64 (fr:Int),.slice A3 ch.length c3,vb,.bool most] w fun e w'=>∃v,e= .returned v/\BR w' base n v (fu n all most d ch best)/\Below w.heap.size w w':=by
 intro d
 induction d with
 |zero=>
  intro fr hfr A3 c3 ch vb best w qq hc1 Da hc3 hch uW hcm hR hb
  by_cases yK:ch.length=n
  ·rw [KO n all most yK]
   exact CZ n hn0 se all hall zO most A1 c1 base fr A3 c3 ch vb best w qq hc1 Da hc3 hch yK hcm hR hb
  ·exact Dc n se all zO most A1 c1 base 0 fr hfr A3 c3 ch vb best w hc1 hc3 (by omega) (by omega) hR hb
 |succ d IH=>
  intro fr hfr A3 c3 ch vb best w qq hc1 Da hc3 hch uW hcm hR hb
  by_cases yK:ch.length=n
  ·rw [KO n all most yK]
   exact CZ n hn0 se all hall zO most A1 c1 base fr A3 c3 ch vb best w qq hc1 Da hc3 hch yK hcm hR hb
  by_cases hpa:d+1<n - ch.length
  ·exact Dc n se all zO most A1 c1 base (d+1) fr hfr A3 c3 ch vb best w hc1 hc3 (by omega) hpa hR hb
  have hu:=Try.underlying49
  have hlt:fr<all.length:=by omega
  obtain ⟨ad,A0,c0,e,hx0,hx1,hx2,zW,hCe⟩:=Mi qq (fr:Int) (by omega) (by omega)
  cases e
  have hge:all.getD (all.length -(d+1)) z49=all[fr]:=by
   rw [show all.length -(d+1)=fr by omega];simp [List.getD_eq_getElem?_getD,hlt]
  have hd:rE all (fr:Int)=all[fr]:=by
   show all.getD (fr:Int).toNat z49=_
   rw [Int.toNat_natCast];simp [List.getD_eq_getElem?_getD,hlt]
  rw [hd] at hx0 hx1 hx2 zW hCe
  rw [a0A n all most (by omega) hpa,hge]
  have hmem:=List.all_eq_true.1 hall _ (List.getElem_mem hlt)
  generalize all[fr]=dd at*
  rw [Int.toNat_natCast] at hx0 hx1 hx2
  obtain ⟨rows,hrl,hrc,hrk⟩:=Xu Da
  have HLn:Aside0 (ch.length<=7):=⟨by omega⟩
  have NI:=Aside0.mk hrc
  have XA:=Aside0.mk hrl
  have HRK:=Aside0.mk hrk
  have Tu:(ch++[dd]).all (jF (n:Int))=true:=by rw [List.all_append,hch];simp [hmem]
  have a8E:=Ct (most:=most) hall se d (ch++[dd]) best (by omega) Tu hcm
  have QO:Aside0 (∀(A:Option Addr) (c:Nat) (W:World),Below w.heap.size w W->Kd.C iZ W A (ch++[dd]).length (ch++[dd])->(ch++[dd]).length<=c->Calls Try.prog 25 #[.int .i64 (n:Int),.slice (some ad) all.length c1,.int .i64 ((fr+1:Nat):Int),.slice A (ch++[dd]).length c,vb,.bool most] W fun e w'=>∃v,e= .returned v/\BR w' base n v (fu n all most d (ch++[dd]) best)/\Below W.heap.size W w'):=⟨fun A c W hb2 hC hc=>IH (fr+1) (by omega) A c (ch++[dd]) vb best W (Kd.bX qq hb2) hc1 hC hc Tu (by rw [List.length_append];simp;omega) hcm (NZ hR hb2) (Nat.le_trans hb hb2.size)⟩
  have KP:Aside0 (∀(v:Value) (W:World),Below w.heap.size w W->BR W base n v (fu n all most d (ch++[dd]) best)->Calls Try.prog 25 #[.int .i64 (n:Int),.slice (some ad) all.length c1,.int .i64 ((fr+1:Nat):Int),.slice A3 ch.length c3,v,.bool most] W fun e w'=>∃v,e= .returned v/\BR w' base n v (fu n all most d ch (fu n all most d (ch++[dd]) best))/\Below W.heap.size W w'):=⟨fun v W hb2 Oa=>IH (fr+1) (by omega) A3 c3 ch v _ W (Kd.bX qq hb2) hc1 (Kd.bX Da hb2) hc3 hch uW a8E Oa (Nat.le_trans hb hb2.size)⟩
  have HBb:=Aside0.mk hb
  have HB:=Aside0.mk (Below.refl w.heap.size w)
  have HCe:=Aside0.mk hCe
  have HLe:=Aside0.mk zW
  obtain ⟨Ab,cb,rfl,hlb,QN⟩:=hR.1
  have hs1:IntKind.i64.wrap ((fr:Int)+(n:Int))=((fr+n:Nat):Int):=by rw [cZ,cO (by omega) (by omega)];omega
  have hs2:IntKind.i64.wrap (((fr+n:Nat):Int)-(ch.length:Int))=((fr+n - ch.length:Nat):Int):=by rw [cZ,cO (by omega) (by omega)];omega
  have hs3:IntKind.i64.wrap ((fr:Int)+1)=((fr+1:Nat):Int):=by rw [cZ,cO (by omega) (by omega)];omega
  have hK:∃q1 q2 q3:Nat,q1=fr+n/\q2=fr+n - ch.length/\q3=fr+1:=⟨_,_,_,rfl,rfl,rfl⟩
  obtain ⟨q1,q2,q3,hq1,hq2,hq3⟩:=hK
  rw [<-hq1] at hs1
  rw [<-hq2,<-hq1] at hs2
  rw [<-hq3] at hs3 QO KP
  have hgt:decide ((q2:Int)>(all.length:Int))=false:=decide_eq_false (by omega)
  have b5v:decide (q2>all.length)=false:=decide_eq_false (by omega)
  have b5w:decide ((all.length:Int)<(q2:Int))=false:=decide_eq_false (by omega)
  have b1C:decide (all.length<q2)=false:=decide_eq_false (by omega)
  have e1:((ch.length:Int)==(n:Int))=false:=beq_eq_false_iff_ne.mpr (by omega)
  have Xz:(ch.length==n)=false:=beq_eq_false_iff_ne.mpr yK
  have g0:(0:Int)<=(fr:Int):=by omega
  have g1:(fr:Int)<(all.length:Int):=by omega
  obtain ⟨iE,up,bd⟩:=dd
  dsimp only at hx0 hx1 hx2 HCe HLe
  clear hrc hrl hrk Tu a8E hCe zW hlb QN IH hmem hd hge hlt hq1 hq2 hq3 hfr qq Da hR hcm hb hch uW yK hpa
  go_enter Try.func25,Try.ntmps25
  go_wp2
  have a0C:Aside0 (Kd.C (Kd.raw 3) w.drew A3 ch.length rows):=⟨Kd.bX NI.out (bB (Below.refl _ _))⟩
  have kO:Aside0 (Below w.heap.size w w.drew):=⟨bB (Below.refl _ _)⟩
  have HS:Aside0 (∀w',Below w.drew.heap.size w.drew w'->w'.cell? (ad.add (fr*3))=some (.slice A0 iE.length c0)/\w'.cell? ⟨(ad.add (fr*3)).block,(ad.add (fr*3)).off+1,none⟩=some (.bool up)/\w'.cell? ⟨(ad.add (fr*3)).block,(ad.add (fr*3)).off+2,none⟩=some (.int .i64 bd)):=⟨fun w' hb=>by
   have hw:Below w.heap.size w w':=ah (bB (Below.refl _ _)) hb
   exact ⟨(hw.cell (World.block_lt_of_cell? w _ hx0)).trans hx0,(hw.cell (World.block_lt_of_cell? w _ hx1)).trans hx1,(hw.cell (World.block_lt_of_cell? w _ hx2)).trans hx2⟩⟩
  clear hx0 hx1 hx2
  refine eX (n:=10) (S:=fun w'=>w'.cell? (ad.add (fr*3))=some (.slice A0 iE.length c0)/\w'.cell? ⟨(ad.add (fr*3)).block,(ad.add (fr*3)).off+1,none⟩=some (.bool up)/\w'.cell? ⟨(ad.add (fr*3)).block,(ad.add (fr*3)).off+2,none⟩=some (.int .i64 bd)) (ds:=[]) #[false,false,false,false,false,false,false,false,false,false] (by kernel_rfl) rfl rfl (HS.out _ (Below.refl _ _)) (fun hHeld=>?_)
  generalize w.drew=W0 at*
  refine aX (i:=1) (N:=some 65) ?_
  refine aX (i:=3) (N:=some 67) ?_
  refine aX (i:=4) (N:=some 68) ?_
  refine aX (i:=5) (N:=some 69) ?_
  refine dy (i:=6) (N:=some 70) (v:=?_) (a':=?_) #[false,true,false,true,true,true,true,false,false,false] rfl rfl (by kernel_rfl) (fun _ _ _ h=>h) (Or.inl ⟨by rfl,?_⟩) hHeld ?_ ?_
  rotate_left
  ·rintro w' ⟨s0,s1,s2⟩
   go_simp
   with_reducible rfl
  rotate_left
  ·exact eG
  refine b0g (σ:=Value×Value×Value) 2 #[true,true,true,true,true,true,true,true,false,false] (fun s=>[(64,s.1),(66,s.2.1),(71,s.2.2)]) (fun s W=>Kd.R (Kd.raw 3) 49 W W0.heap.size (fun _=>True) s.2.1 rows/\(∃b,s.2.2= .slice (some ⟨b,0,none⟩) 1 1/\Kd.C (Kd.raw 3) W (some ⟨b,0,none⟩) 1 [[.slice A0 iE.length c0,.bool up,.int .i64 bd]])/\Below W0.heap.size W0 W) ?_ (fun hjn=>?_)
  rotate_left
  ·refine a5F (i:=0) (j:=7) (Ni:=some 64) (Nj:=some 71) #[true,true,false,true,true,true,true,false,false,false] #[false,true,false,true,true,true,true,true,false,false] rfl rfl rfl rfl (by kernel_rfl) (by decide) (by decide) (fun K hK=>?_) (fun K hK=>?_)
   ·skip
    refine tE (w1:=?_) (v:=?_) (by rfl) rfl ?_ ?_
    rotate_left 2
    ·go_simp
     constructor
     ·rfl
     ·rfl
    have hb1:Below W0.heap.size W0 (W0.alloc (.cells #[] 49)):=bA (Below.refl _ _) _
    have hr1:=KN W0
    have b5x:W0.heap.size<(W0.alloc (.cells #[] 49)).heap.size:=by rw [oQ];omega
    generalize W0.alloc (.cells #[] 49)=W1 at*
    refine hK.out _ _ (HS.out _ hb1) (fun hHeld=>?_)
    clear hK K
    refine eF (a':=?_) ?_ ?_
    rotate_left
    ·show Act.put _ (some 64) _=_
     simp only [Act.put,List.setIfInBounds_toArray,List.set_cons_zero,List.set_cons_succ,cZ,dX]
     rfl
    refine a5F (i:=2) (j:=7) (Ni:=some 66) (Nj:=some 71) #[true,true,true,true,true,true,true,false,false,false] #[true,true,false,true,true,true,true,true,false,false] rfl rfl rfl rfl (by kernel_rfl) (by decide) (by decide) (fun K hK=>?_) (fun K hK=>?_)
    ·skip
     refine Kd.lZ (Kd.raw 3) (w0:=W0) W0.heap.size (by rfl) (.tmp 64) (.tmp 65) 47 49 (.agg #[.slice none 0 0,.bool false,.int .i64 0]) 40 rfl Try.underlying47 zF rfl (by decide) (by omega) (.slice (some ⟨W0.heap.size,0,none⟩) 0 0) [] rows A3 ch.length c3 (fun _=>True) (fun _=>False) rfl rfl hr1 (Kd.bX a0C.out hb1) (fun _ _ hk=>hk) (fun _ hk=>hk.elim) (fun _ _=>trivial) hb1 hb1.size (by have h2:=HLn.out;simp;omega) ?_
     intro v2 W2 hr2 hb2 hg2 hat2
     rw [List.nil_append] at hr2
     refine hK.out _ _ (HS.out _ hb2) (fun hHeld=>?_)
     clear hK K
     refine eF (a':=?_) ?_ ?_
     rotate_left
     ·show Act.put _ (some 66) _=_
      simp only [Act.put,List.setIfInBounds_toArray,List.set_cons_zero,List.set_cons_succ,cZ,dX]
      rfl
     refine fA (i:=7) (N:=some 71) #[true,true,true,true,true,true,true,true,false,false] rfl rfl (by kernel_rfl) (by decide) (fun K hK=>?_)
     refine tE (w1:=?_) (v:=?_) (by rfl) rfl ?_ ?_
     rotate_left 2
     ·go_simp
      constructor
      ·rfl
      ·rfl
     refine hK.out _ _ (HS.out _ (bA hb2 _)) (fun hHeld=>?_)
     clear hK K
     refine eF (a':=?_) ?_ ?_
     rotate_left
     ·show Act.put _ (some 71) _=_
      simp only [Act.put,List.setIfInBounds_toArray,List.set_cons_zero,List.set_cons_succ,cZ,dX]
      rfl
     exact hjn (_,_,_) _ ⟨Kd.dz hr2 _,⟨W2.heap.size,rfl,Cv (di W2 _) rfl rfl rfl⟩,bA hb2 _⟩
    ·skip
     refine tE (w1:=?_) (v:=?_) (by rfl) rfl ?_ ?_
     rotate_left 2
     ·go_simp
      constructor
      ·rfl
      ·rfl
     have hb2:Below W0.heap.size W0 (W1.alloc (.cells #[.slice A0 iE.length c0,.bool up,.int .i64 bd] 49)):=bA hb1 _
     have hr2:=Kd.dz hr1 (.cells #[.slice A0 iE.length c0,.bool up,.int .i64 bd] 49)
     have hx2:=Cv (di W1 (.cells #[.slice A0 iE.length c0,.bool up,.int .i64 bd] 49)) rfl rfl rfl
     have hz2:=di W1 (.cells #[.slice A0 iE.length c0,.bool up,.int .i64 bd] 49)
     generalize W1.alloc (.cells #[.slice A0 iE.length c0,.bool up,.int .i64 bd] 49)=W2 at*
     refine hK.out _ _ (HS.out _ hb2) (fun hHeld=>?_)
     clear hK K
     refine eF (a':=?_) ?_ ?_
     rotate_left
     ·show Act.put _ (some 71) _=_
      simp only [Act.put,List.setIfInBounds_toArray,List.set_cons_zero,List.set_cons_succ,cZ,dX]
      rfl
     refine fA (i:=2) (N:=some 66) #[true,true,true,true,true,true,true,true,false,false] rfl rfl (by kernel_rfl) (by decide) (fun K hK=>?_)
     refine Kd.lZ (Kd.raw 3) (w0:=W0) W0.heap.size (by rfl) (.tmp 64) (.tmp 65) 47 49 (.agg #[.slice none 0 0,.bool false,.int .i64 0]) 40 rfl Try.underlying47 zF rfl (by decide) (by omega) (.slice (some ⟨W0.heap.size,0,none⟩) 0 0) [] rows A3 ch.length c3 (fun _=>True) (fun _=>False) rfl rfl hr2 (Kd.bX a0C.out hb2) (fun _ _ hk=>hk) (fun _ hk=>hk.elim) (fun _ _=>trivial) hb2 hb2.size (by have h2:=HLn.out;simp;omega) ?_
     intro v3 W3 hr3 hb3 hg3 zA
     rw [List.nil_append] at hr3
     refine hK.out _ _ (HS.out _ hb3) (fun hHeld=>?_)
     clear hK K
     refine eF (a':=?_) ?_ ?_
     rotate_left
     ·show Act.put _ (some 66) _=_
      simp only [Act.put,List.setIfInBounds_toArray,List.set_cons_zero,List.set_cons_succ,cZ,dX]
      rfl
     exact hjn (_,_,_) _ ⟨hr3,⟨W1.heap.size,rfl,Cv ((hg3.block W1.heap.size (aZ hz2) (by show some W1.heap.size≠some W0.heap.size;intro h;injection h with h;omega)).trans hz2) rfl rfl rfl⟩,hb3⟩
   ·skip
    refine tE (w1:=?_) (v:=?_) (by rfl) rfl ?_ ?_
    rotate_left 2
    ·go_simp
     constructor
     ·rfl
     ·rfl
    have hb1:Below W0.heap.size W0 (W0.alloc (.cells #[.slice A0 iE.length c0,.bool up,.int .i64 bd] 49)):=bA (Below.refl _ _) _
    have hx1:=di W0 (.cells #[.slice A0 iE.length c0,.bool up,.int .i64 bd] 49)
    have b5x:W0.heap.size<(W0.alloc (.cells #[.slice A0 iE.length c0,.bool up,.int .i64 bd] 49)).heap.size:=by rw [oQ];omega
    generalize W0.alloc (.cells #[.slice A0 iE.length c0,.bool up,.int .i64 bd] 49)=W1 at*
    refine hK.out _ _ (HS.out _ hb1) (fun hHeld=>?_)
    clear hK K
    refine eF (a':=?_) ?_ ?_
    rotate_left
    ·show Act.put _ (some 71) _=_
     simp only [Act.put,List.setIfInBounds_toArray,List.set_cons_zero,List.set_cons_succ,cZ,dX]
     rfl
    refine fA (i:=0) (N:=some 64) #[true,true,false,true,true,true,true,true,false,false] rfl rfl (by kernel_rfl) (by decide) (fun K hK=>?_)
    refine tE (w1:=?_) (v:=?_) (by rfl) rfl ?_ ?_
    rotate_left 2
    ·go_simp
     constructor
     ·rfl
     ·rfl
    have hb2:Below W0.heap.size W0 (W1.alloc (.cells #[] 49)):=bA hb1 _
    have hr2:=Kd.kL (KN W1) hb1.size
    have hx2:=ak hx1 (.cells #[] 49)
    generalize W1.alloc (.cells #[] 49)=W2 at*
    refine hK.out _ _ (HS.out _ hb2) (fun hHeld=>?_)
    clear hK K
    refine eF (a':=?_) ?_ ?_
    rotate_left
    ·show Act.put _ (some 64) _=_
     simp only [Act.put,List.setIfInBounds_toArray,List.set_cons_zero,List.set_cons_succ,cZ,dX]
     rfl
    refine fA (i:=2) (N:=some 66) #[true,true,true,true,true,true,true,true,false,false] rfl rfl (by kernel_rfl) (by decide) (fun K hK=>?_)
    refine Kd.lZ (Kd.raw 3) (w0:=W0) W0.heap.size (by rfl) (.tmp 64) (.tmp 65) 47 49 (.agg #[.slice none 0 0,.bool false,.int .i64 0]) 40 rfl Try.underlying47 zF rfl (by decide) (by omega) (.slice (some ⟨W1.heap.size,0,none⟩) 0 0) [] rows A3 ch.length c3 (fun _=>True) (fun _=>False) rfl rfl hr2 (Kd.bX a0C.out hb2) (fun _ _ hk=>hk) (fun _ hk=>hk.elim) (fun _ _=>trivial) hb2 hb2.size (by have h2:=HLn.out;simp;omega) ?_
    intro v3 W3 hr3 hb3 hg3 zA
    rw [List.nil_append] at hr3
    refine hK.out _ _ (HS.out _ hb3) (fun hHeld=>?_)
    clear hK K
    refine eF (a':=?_) ?_ ?_
    rotate_left
    ·show Act.put _ (some 66) _=_
     simp only [Act.put,List.setIfInBounds_toArray,List.set_cons_zero,List.set_cons_succ,cZ,dX]
     rfl
    exact hjn (_,_,_) _ ⟨hr3,⟨W0.heap.size,rfl,Cv ((hg3.block W0.heap.size (aZ hx2) (by show some W0.heap.size≠some W1.heap.size;intro h;injection h with h;omega)).trans hx2) rfl rfl rfl⟩,hb3⟩
  ·rintro ⟨v64,v66,v71⟩ W7 ⟨Gk,⟨b,hv7,hc7⟩,vN⟩
   dsimp only at Gk hv7
   subst hv7
   refine eF (a':=?_) ?_ ?_
   rotate_left
   ·simp only [EI,Act.put,List.setIfInBounds_toArray,List.set_cons_zero,List.set_cons_succ,cZ,dX]
    rfl
   refine fA (i:=8) (N:=some 72) #[true,true,true,true,true,true,true,true,true,false] rfl rfl (by kernel_rfl) (by decide) (fun K hK=>?_)
   refine Kd.lZ (Kd.raw 3) (w0:=W0) W0.heap.size (by rfl) (.tmp 66) (.tmp 71) 47 49 (.agg #[.slice none 0 0,.bool false,.int .i64 0]) 40 rfl Try.underlying47 zF rfl (by decide) (by omega) v66 rows [[.slice A0 iE.length c0,.bool up,.int .i64 bd]] (some ⟨b,0,none⟩) 1 1 (fun _=>True) (fun _=>False) rfl rfl Gk hc7 (fun _ _ hk=>hk) (fun _ hk=>hk.elim) (fun _ _=>trivial) vN vN.size (by have h1:=XA.out;have h2:=HLn.out;simp;omega) ?_
   intro v8 W8 hr8 lU FW b5y
   obtain ⟨A8,c8,rfl,hl8,hc8⟩:=Kd.oa hr8
   have hlen:(rows++[[Value.slice A0 iE.length c0,Value.bool up,Value.int .i64 bd]]).length=(ch++[(⟨iE,up,bd⟩:cq)]).length:=by rw [List.length_append,List.length_append,XA.out];rfl
   have hbw:Below w.heap.size w W8:=ah kO.out lU
   have hk8:∀(j:Nat) (x:cq) (c:List Value),(ch++[(⟨iE,up,bd⟩:cq)])[j]? =some x->(rows++[[.slice A0 iE.length c0,.bool up,.int .i64 bd]])[j]? =some c->iZ.K W8 x c:=fun j x c hx hc=>by
    by_cases hj:j<ch.length
    ·rw [List.getElem?_append_left hj] at hx
     rw [List.getElem?_append_left (by rw [XA.out];exact hj)] at hc
     exact iZ.iX hbw (HRK.out j x c hx hc)
    ·rw [List.getElem?_append_right (by omega)] at hx
     rw [List.getElem?_append_right (by rw [XA.out];omega),XA.out] at hc
     rcases hj0:j - ch.length with _|q
     ·rw [hj0] at hx hc
      simp only [List.getElem?_cons_zero,Option.some.injEq] at hx hc
      subst hx;subst hc
      exact a5S W8 _ HLe.out (Kd.bX HCe.out hbw)
     ·rw [hj0] at hx;simp at hx
   rw [hlen] at hc8 hl8⊢
   have HC8:=Aside0.mk (Xv hc8 hlen hk8)
   have HL8:=Aside0.mk hl8
   have uo:=Aside0.mk hbw
   have a8H:=Aside0.mk lU
   generalize (ch++[(⟨iE,up,bd⟩:cq)]).length=m8 at*
   clear hc8 hl8 hk8 hbw lU FW b5y hr8 Gk hc7 vN hlen
   refine hK.out _ _ (HS.out _ a8H.out) (fun hHeld=>?_)
   clear hK K hHeld
   refine eF (a':=?_) ?_ ?_
   rotate_left
   ·show Act.put _ (some 72) _=_
    simp only [Act.put,List.setIfInBounds_toArray,List.set_cons_zero,List.set_cons_succ,cZ,dX]
    rfl
   refine fA (i:=9) (N:=some 17) #[true,true,true,true,true,true,true,true,true,true] rfl rfl (by kernel_rfl) (by decide) (fun K hK=>?_)
   refine tE (w1:=?_) (v:=?_) (by rfl) rfl ?_ ?_
   rotate_left 2
   ·go_simp
    constructor
    ·rfl
    ·rfl
   refine hK.out _ _ (HS.out _ a8H.out) (fun hHeld=>?_)
   clear hK K hHeld
   refine eF (a':=?_) ?_ ?_
   rotate_left
   ·show Act.put _ (some 17) _=_
    simp only [Act.put,List.setIfInBounds_toArray,List.set_cons_zero,List.set_cons_succ,cZ,dX]
    rfl
   refine fV (by kernel_rfl) ?_
   have Ob:(1:Nat)<2:=by decide
   go_wp2_with (first
    |(go_at_call 25;have tk:=Ob;(with_reducible refine (QO.out _ _ _ uo.out HC8.out HL8.out).mono ?_);clear tk Ob;rintro e W9 ⟨v9,rfl,Qx,Gg⟩;have Fq:=Aside0.mk (ah uo.out Gg);have HR9:=Aside0.mk Qx;clear Qx Gg)
    |(go_at_call 25;(with_reducible refine (KP.out _ _ Fq.out HR9.out).mono ?_);rintro e W10 ⟨v10,rfl,a8I,a8J⟩;have vF:=Aside0.mk (ah Fq.out a8J);have b5z:=Aside0.mk a8I;clear a8I a8J))
   go_ret
   exact ⟨_,rfl,b5z.out,vF.out⟩
def Bn (a:Int) (l1:List cq) (a2:Int) (l3:List cq) (l4:List bM):Bool:=decide (a2=0)&&l3.isEmpty&&l4.isEmpty&&decide (0<a)&&decide (a<=7)&&decide (l1.length<=100)&&l1.all (jF a)
def Gl (a:Int) (l1:List cq) (a2:Int) (l3:List cq) (l4:List bM) (most:Bool):Option (List bM):=
 if Bn a l1 a2 l3 l4=true then (fu a.toNat l1 most l1.length [] none).map (LQ a.toNat) else none
theorem Tv (a:Int) (A1:Option Addr) (c1:Nat) (l1:List cq) (a2:Int) (A3:Option Addr) (c3:Nat) (l3:List cq) (A4:Option Addr) (c4:Nat) (l4:List bM) (most:Bool) (r:List bM) (w:World)
 (hr1:Kd.C iZ w A1 l1.length l1) (hc1:l1.length<=c1) (hr3:Kd.C iZ w A3 l3.length l3) (hc3:l3.length<=c3) (hr4:Kd.C eY w A4 l4.length l4) (hc4:l4.length<=c4) (h:Gl a l1 a2 l3 l4 most=some r):
 Calls Try.prog 25 #[.int .i64 a,.slice A1 l1.length c1,.int .i64 a2,.slice A3 l3.length c3,.slice A4 l4.length c4,.bool most] w fun e w'=>∃oZ:Value,e= .returned (oZ)/\Kd.R eY 26 w' w.heap.size (fun _=>True) oZ r/\Below w.heap.size w w':=by
 unfold Gl at h
 by_cases hg:Bn a l1 a2 l3 l4=true
 ·rw [if_pos hg] at h
  unfold Bn at hg
  simp only [Bool.and_eq_true,decide_eq_true_eq,List.isEmpty_iff] at hg
  obtain ⟨⟨⟨⟨⟨⟨rfl,rfl⟩,rfl⟩,h0⟩,h7⟩,hl⟩,hall⟩:=hg
  obtain ⟨n,rfl⟩:∃n:Nat,a=(n:Int):=⟨a.toNat,by omega⟩
  rw [Int.toNat_natCast] at h
  obtain ⟨x,hx,rfl⟩:=Option.map_eq_some_iff.1 h
  have hbr:BR w w.heap.size n (.slice A4 ([]:List bM).length c4) none:=⟨⟨A4,c4,rfl,hc4,hr4⟩,fun h=>absurd rfl h⟩
  refine (Ph n (by omega) (by omega) l1 hall hl most A1 c1 w.heap.size l1.length 0 (by omega) A3 c3 [] _ none w hr1 hc1 hr3 hc3 rfl (Nat.zero_le _) (fun x hx=>by simp at hx) hbr (Nat.le_refl _)).mono ?_
  rintro e w' ⟨v,rfl,hR,hB⟩
  rw [hx] at hR
  exact ⟨v,rfl,hR.2 (by simp),hB⟩
 ·rw [if_neg hg] at h;exact absurd h (by simp)
end Go.Proofs.Ytnhknojfpjheoaa.PT
namespace Go.Proofs.Ytnhknojfpjheoaa.P
open Go.RowKit Go.Proofs.YtnhknojfpjheoaaW.PrintWords Go.Proofs.YtnhknojfpjheoaaW.PrintLast Go.Proofs.YtnhknojfpjheoaaW.PrintMore
attribute [local go_sem] max2_int min2_int max_two min_two max_three min_three max_four min_four
set_option linter.all false
def dx.f (k:Nat) (a0:Int) (l1:List (cq)) (a2:Int) (l3:List (cq)) (l4:List (bM)) (a5:Bool):Option ((List (bM))):=
 PT.Gl a0 l1 a2 l3 l4 a5
theorem dx.mono:∀a0 a1 a2 a3 a4 a5 k,aT (dx.f k a0 a1 a2 a3 a4 a5) (dx.f (k+1) a0 a1 a2 a3 a4 a5):=by
 intro a0 a1 a2 a3 a4 a5 k
 exact aT.refl _
theorem dx.calls (k:Nat) (a0:Int) (A1:Option Addr) (c1:Nat) (l1:List (cq)) (a2:Int) (A3:Option Addr) (c3:Nat) (l3:List (cq)) (A4:Option Addr) (c4:Nat) (l4:List (bM)) (a5:Bool) (r:List (bM)) (w:World) (hr1:Kd.C iZ w A1 l1.length l1) (hc1:l1.length<=c1) (hr3:Kd.C iZ w A3 l3.length l3) (hc3:l3.length<=c3) (hr4:Kd.C eY w A4 l4.length l4) (hc4:l4.length<=c4) (h:dx.f k a0 l1 a2 l3 l4 a5=some r):
 Calls Try.prog 25 #[.int .i64 a0,.slice A1 l1.length c1,.int .i64 a2,.slice A3 l3.length c3,.slice A4 l4.length c4,.bool a5] w fun e w'=>∃oZ:Value,e= .returned (oZ)/\Kd.R eY 26 w' w.heap.size (fun _=>True) oZ r/\Below w.heap.size w w':=by
 exact PT.Tv a0 A1 c1 l1 a2 A3 c3 l3 A4 c4 l4 a5 r w hr1 hc1 hr3 hc3 hr4 hc4 h
end Go.Proofs.Ytnhknojfpjheoaa.P
