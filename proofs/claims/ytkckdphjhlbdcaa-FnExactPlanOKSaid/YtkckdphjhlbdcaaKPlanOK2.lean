/-
  Part 2 of the proof of this: The law FnExactPlanOK answers true at every argument.
-/
import Derived.Test.YtkckdphjhlbdcaaKPlanOK1
import Derived.ChangeArms
import Derived.Deep.Slices
import Derived.OpenShut
import Derived.Test.YtkckdphjhlbdcaaProg
import Derived.Below
import Derived.Deep.Draws
import Derived.Deep.AppendLies
import Derived.Maps.AppendAt
import Derived.OwnWalk
import Derived.Laws.BytesArg
import Derived.Laws.MakeOwn
import Derived.Laws.OwnMore
import Derived.Deep.OwnRows
import Derived.Tactics
import Derived.Lib.ConvBytes
import Derived.Laws.Slices
import Derived.WalkKit
import Derived.KernelRfl
import Derived.RowKit3
import Derived.Deep.LoopGhost
import Derived.Deep.QuietTactic
import Derived.BigQuiet
import Derived.WideLaws
import Derived.Deep.DeepCutAuto
import Derived.Deep.CutBlock
import Derived.Deep.RegionHeld3
import Derived.Laws.Rows
import Derived.Lib.AppendStr
import Derived.ArgAppend
import Derived.Laws.IdiomCopy
import Derived.OrdersHeld
import Derived.Laws.BitsLemmas
import Derived.RowKit
namespace Go.Proofs.YtkckdphjhlbdcaaW.PrintWords
open Go.RowKit Go.Proofs.YtkckdphjhlbdcaaW.PrintLast
set_option linter.all false
theorem ay {P:Prop} (h:P:=by repeat (first|(with_reducible first|exact HB.out|apply aT|apply bu|apply aI|refine bR ?_ (Aside0.out (by assumption)))|exact HB.out)):P:=h
theorem aH {P Q:Prop} (h:Aside0 P) (g:P->Q:=by intro h_;(with_reducible repeat (first|refine aq ?_ _|refine ak ?_|refine ai ?_ _));exact h_):Q:=g h.out
theorem fj {a a':Act} {N:Option Tmp} {v:Value} (h:a.put N v=a':=by simp only [Act.put,List.setIfInBounds_toArray,List.set_cons_zero,List.set_cons_succ,dJ,eD];rfl):a.put N v=a':=h
section
variable {P:Program} {ops:Array Oper} {Q:Exit->Act->World->Prop} {md:Region.Mode} {S:World->Prop} {ds:List Nat}
theorem bl {i:Nat} {N:Option Tmp} {oi:Oper} {v:Value} {fuel:Nat} {l:Array Bool} {a:Act} {w:World} {a':Act} (h:cP P md ops Q S ds fuel (l.setIfInBounds i true) a' w) (hc:Kw md ops l (l.setIfInBounds i true) i=true:=by kernel_rfl) (hi:ops[i]? =some oi:=by exact rfl) (hN:oi.dst=N:=by exact rfl)
 (hQ:∀c a w,Q (.panic c) (a.put oi.dst v) w->Q (.panic c) a w:=by exact fun _ _ _ h=>h) (hy:Yields P ops oi v a:=by (refine Or.inl ⟨by rfl,?_⟩;intro w';go_simp;with_reducible rfl)) (ha:a.put N v=a':=by simp only [Act.put,List.setIfInBounds_toArray,List.set_cons_zero,List.set_cons_succ,dJ,eD];rfl):cP P md ops Q S ds (fuel+1) l a w:=VK _ hi hN hc hQ hy ha h
theorem cB {T:Bool×List (List Nat×List Nat)} {i:Nat} {N:Option Tmp} {oi:Oper} {v:Value} {fuel:Nat} {l:Array Bool} {a:Act} {w:World} {a':Act} (hT:Aside0 (lz md ops=T)) (h:cP P md ops Q S ds fuel (l.setIfInBounds i true) a' w) (hc:a1q T l.toList (l.setIfInBounds i true).toList i=true:=by kernel_rfl) (hi:ops[i]? =some oi:=by exact rfl) (hN:oi.dst=N:=by exact rfl)
 (hQ:∀c a w,Q (.panic c) (a.put oi.dst v) w->Q (.panic c) a w:=by exact fun _ _ _ h=>h) (hy:Yields P ops oi v a:=by (refine Or.inl ⟨by rfl,?_⟩;intro w';go_simp;with_reducible rfl)) (ha:a.put N v=a':=by simp only [Act.put,List.setIfInBounds_toArray,List.set_cons_zero,List.set_cons_succ,dJ,eD];rfl):cP P md ops Q S ds (fuel+1) l a w:=VK _ hi hN (a8x hT.out hc) hQ hy ha h
theorem kR {i:Nat} {N:Option Tmp} {oi:Oper} {fuel:Nat} {l:Array Bool} {a:Act} {w:World} {a':Act} (h:cP P md ops Q S ds fuel (l.setIfInBounds i true) a' w) (hc:Kw md ops l (l.setIfInBounds i true) i=true:=by kernel_rfl) (hi:ops[i]? =some oi:=by exact rfl) (hN:oi.dst=N:=by exact rfl)
 (hQ:∀c a w,Q (.panic c) (a.put oi.dst undef) w->Q (.panic c) a w:=by exact fun _ _ _ h=>h) (hy:Yields P ops oi undef a:=by exact Or.inr ⟨by rfl,rfl⟩) (ha:a.put N undef=a':=by simp only [Act.put,List.setIfInBounds_toArray,List.set_cons_zero,List.set_cons_succ,dJ,eD];rfl):cP P md ops Q S ds (fuel+1) l a w:=VK _ hi hN hc hQ hy ha h
end
end Go.Proofs.YtkckdphjhlbdcaaW.PrintWords
namespace Go.Proofs.Ytkckdphjhlbdcaa.Opens
open Go.Proofs.YtkckdphjhlbdcaaW.PrintWords Go.RowKit
set_option linter.all false
def Opens {α:Type} (P:Program) (d:Kd α) (t:TypeId) (G:α->Prop):Prop:=
 P.cellsOf t=d.sz/\∀{H:Type} (enc:TypeId×Value->H) (W:World) (held:Bool) (fuel:Nat) (cs:List Value) (x:DataW H×List MemPlace),DataW.trod enc P W 0 (fun _=>true) held fuel t cs=some x->∃a:α,d.K W a cs/\G a
theorem Opens.int {P:Program} {t:TypeId} {k:IntKind} (ht:P.underlying t=some (.int k)) (hc:P.cellsOf t=1):Opens P (Kd.int k) t (fun n=>(Lit.int k n).wf=true):=
 ⟨hc,fun _ _ _ _ _ _ h=>by obtain ⟨n,rfl,_,hw⟩:=DataW.trod_int ht h;exact ⟨n,rfl,hw⟩⟩
theorem Opens.bool {P:Program} {t:TypeId} (ht:P.underlying t=some .bool) (hc:P.cellsOf t=1):Opens P Kd.bool t (fun _=>True):=
 ⟨hc,fun _ _ _ _ _ _ h=>by obtain ⟨n,rfl,_⟩:=DataW.trod_bool ht h;exact ⟨n,rfl,trivial⟩⟩
theorem Opens.string {P:Program} {t:TypeId} (ht:P.underlying t=some .string) (hc:P.cellsOf t=1):Opens P Kd.string t (fun s=>s.size<=maxLen):=
 ⟨hc,fun _ _ _ _ _ _ h=>by obtain ⟨n,rfl,_,hw⟩:=DataW.trod_string ht h;exact ⟨n,rfl,hw⟩⟩
theorem a1t {w:World} {a:Addr} {n:Nat} {cs:List Value} (h:w.cells? 0 a n=some cs):cs.length=n/\∀i u,cs[i]? =some u->w.cell? (a.add i)=some u:=by
 unfold World.cells? at h
 rw [if_pos (Nat.zero_le _)] at h
 have h1:∀(l:List Nat) (cs:List Value),l.mapM (fun i=>w.cell? (a.add i))=some cs->cs.length=l.length/\∀(i:Nat) (u:Value),cs[i]? =some u->∃j:Nat,l[i]? =some j/\w.cell? (a.add j)=some u:=by
  intro l
  induction l with
  |nil=>intro cs h;simp at h;subst h;exact ⟨rfl,fun i u h=>by simp at h⟩
  |cons x l ih=>
   intro cs h
   rw [List.mapM_cons] at h
   obtain ⟨v,hv,h⟩:=Option.bind_eq_some_iff.1 h
   obtain ⟨vs,hvs,h⟩:=Option.bind_eq_some_iff.1 h
   cases h
   obtain ⟨hl,hi⟩:=ih vs hvs
   refine ⟨by simp [hl],fun i u hu=>?_⟩
   cases i with
   |zero=>simp at hu;subst hu;exact ⟨x,by simp,hv⟩
   |succ i=>simp at hu;obtain ⟨j,hj,hc⟩:=hi i u hu;exact ⟨j,by simpa using hj,hc⟩
 obtain ⟨hl,hi⟩:=h1 _ _ h
 refine ⟨by simpa using hl,fun i u hu=>?_⟩
 obtain ⟨j,hj,hc⟩:=hi i u hu
 have:i=j:=by
  rw [List.getElem?_eq_some_iff] at hj
  obtain ⟨hlt,e⟩:=hj
  simpa using e
 subst this;exact hc
theorem EL {α:Type} {Q:Nat->α->Prop}:∀(n:Nat),(∀i,i<n->∃a,Q i a)->∃l:List α,l.length=n/\∀i a,l[i]? =some a->Q i a
 |0,_=>⟨[],rfl,fun i a h=>by simp at h⟩
 |n+1,h=>by
  obtain ⟨l,hl,hq⟩:=EL n (fun i hi=>h i (by omega))
  obtain ⟨a,ha⟩:=h n (by omega)
  refine ⟨l++[a],by simp [hl],fun i b hb=>?_⟩
  rcases Nat.lt_or_ge i l.length with hi|hi
  ·rw [List.getElem?_append_left hi] at hb;exact hq i b hb
  ·rw [List.getElem?_append_right hi] at hb
   have e:i - l.length=0:=by
    rw [List.getElem?_eq_some_iff] at hb
    obtain ⟨h0,_⟩:=hb
    simp at h0;exact h0
   rw [e] at hb
   simp at hb;subst hb
   have:i=n:=by omega
   subst this;exact ha
theorem Opens.slice {α:Type} {P:Program} {d:Kd α} {t e:TypeId} {G:α->Prop} (ht:P.underlying t=some (.slice e)) (hc:P.cellsOf t=1) (h:Opens P d e G):
 Opens P (Kd.slice e d) t (fun l=>l.length<=maxLen/\∀x,x∈l->G x):=by
 refine ⟨hc,fun enc W held fuel cs x hx=>?_⟩
 rcases Go.Deep.open_slice ht hx with ⟨rfl,_⟩|⟨a,len,cap,m,n,D,Pl,rfl,_,hl,hm,hmm,_,hel⟩
 ·exact ⟨[],⟨none,0,rfl,Nat.le_refl _,rfl,by simp,fun h=>by simp at h⟩,by simp,fun x hx=>by simp at hx⟩
 ·have hm2:len<=m:=by rw [hmm];split<;>omega
  obtain ⟨l,zB,hq⟩:=EL (Q:=fun i a'=>∃c,c.length=d.sz/\d.K W a' c/\(∀j u,c[j]? =some u->W.cell? (a.add (i*d.sz+j))=some u)/\G a') len (fun i hi=>by
   obtain ⟨cs',hcs,htr⟩:=hel i (by omega)
   obtain ⟨a',hk,hg⟩:=h.2 enc W held n cs' _ htr
   obtain ⟨hlen,hce⟩:=a1t hcs
   refine ⟨a',cs',by rw [hlen,h.1],hk,fun j u hu=>?_,hg⟩
   have:=hce j u hu
   rw [h.1,Addr.add_add] at this
   exact this)
  unfold maxLen at hm⊢
  refine ⟨l,⟨some a,cap,by rw [zB],by omega,⟨rfl,by omega,fun _=>⟨a,rfl,fun j p hj=>?_⟩⟩⟩,by omega,fun x hx=>?_⟩
  ·obtain ⟨c,h1,h2,h3,_⟩:=hq j p hj
   exact ⟨c,h1,h2,h3⟩
  ·obtain ⟨i,hi⟩:=List.getElem?_of_mem hx
   obtain ⟨c,_,_,_,h4⟩:=hq i x hi
   exact h4
theorem Opens.pair {α β:Type} {a:Kd α} {b:Kd β} {Ga:α->Prop} {Gb:β->Prop} {W:World} {cs:List Value} {k:Nat}
 (h1:∃x,a.K W x (cs.take k)/\Ga x) (h2:∃y,b.K W y (cs.drop k)/\Gb y):∃p:α×β,(Kd.pair a b).K W p cs/\Ga p.1/\Gb p.2:=by
 obtain ⟨x,hx,gx⟩:=h1
 obtain ⟨y,hy,gy⟩:=h2
 exact ⟨(x,y),⟨cs.take k,cs.drop k,(List.take_append_drop _ _).symm,hx,hy⟩,gx,gy⟩
theorem Opens.struct {α:Type} {P:Program} {d:Kd α} {t:TypeId} {fs:Array Field} {G:α->Prop} (ht:P.underlying t=some (.struct fs)) (hc:P.cellsOf t=d.sz)
 (h:∀{H:Type} (enc:TypeId×Value->H) (W:World) (held:Bool) (n:Nat) (cs:List Value),cs.length=d.sz->
   (∀(i:Nat) (f:Field),fs[i]? =some f->∃y,DataW.trod enc P W 0 (fun _=>true) held n f.type ((cs.drop f.offset).take (P.cellsOf f.type))=some y)->∃a:α,d.K W a cs/\G a):Opens P d t G:=by
 refine ⟨hc,fun enc W held fuel cs x hx=>?_⟩
 obtain ⟨xs,n,_,_,hl,hlen,hf⟩:=DataW.trod_struct ht hx
 refine h enc W held n cs (hl.trans hc) (fun i f hi=>?_)
 have:=hf i f hi
 have hlt:i<xs.length:=by
  rw [hlen]
  rw [Array.getElem?_eq_some_iff] at hi
  exact hi.1
 exact ⟨xs[i],by rw [this,List.getElem?_eq_getElem hlt]⟩
theorem Opens.Tp {α β:Type} {d:Kd α} (f:β->α) (g:α->β) (hfg:∀x,f (g x)=x) {G:α->Prop} {W:World} {cs:List Value} (h:∃x,d.K W x cs/\G x):∃y:β,(Kd.Tp d f).K W y cs/\G (f y):=by
 obtain ⟨x,hx,gx⟩:=h
 refine ⟨g x,?_,by rw [hfg];exact gx⟩
 show d.K W (f (g x)) cs
 rw [hfg];exact hx
theorem Opens.Ig {α:Type} {P:Program} {d:Kd α} {t:TypeId} {G:α->Prop} (h:Opens P d t G) {H:Type} {enc:TypeId×Value->H} {W:World} {held:Bool} {n:Nat} {cs:List Value} {o:Nat}
 (hy:∃y,DataW.trod enc P W 0 (fun _=>true) held n t ((cs.drop o).take (P.cellsOf t))=some y):∃x,d.K W x ((cs.drop o).take d.sz)/\G x:=by
 obtain ⟨y,hy⟩:=hy
 rw [h.1] at hy
 exact h.2 enc W held n _ y hy
theorem Opens.cons {α β:Type} {a:Kd α} {b:Kd β} {Ga:α->Prop} {Gb:β->Prop} {W:World} {cs:List Value} {o k:Nat}
 (h1:∃x,a.K W x ((cs.drop o).take k)/\Ga x) (h2:∃y,b.K W y (cs.drop (o+k))/\Gb y):∃p:α×β,(Kd.pair a b).K W p (cs.drop o)/\Ga p.1/\Gb p.2:=by
 obtain ⟨x,hx,gx⟩:=h1
 obtain ⟨y,hy,gy⟩:=h2
 exact ⟨(x,y),⟨(cs.drop o).take k,cs.drop (o+k),by rw [<-List.drop_drop,List.take_append_drop],hx,hy⟩,gx,gy⟩
theorem Opens.last {α:Type} {a:Kd α} {Ga:α->Prop} {W:World} {cs:List Value} {o k:Nat} (hl:cs.length=o+k)
 (h1:∃x,a.K W x ((cs.drop o).take k)/\Ga x):∃x,a.K W x (cs.drop o)/\Ga x:=by
 rw [List.take_of_length_le (by rw [List.length_drop];omega)] at h1
 exact h1
end Go.Proofs.Ytkckdphjhlbdcaa.Opens
set_option linter.unusedVariables false
set_option linter.unusedSimpArgs false
namespace Go.Proofs.Ytkckdphjhlbdcaa.Lp
def S:Nat->(Nat->Rat)->Rat
 |0,_=>0
 |n+1,f=>S n f+f n
theorem dR {n:Nat} {f g:Nat->Rat} (h:∀j,j<n->f j=g j):S n f=S n g:=by
 induction n with
 |zero=>rfl
 |succ n ih=>simp only [S];rw [ih (fun j hj=>h j (by omega)),h n (by omega)]
theorem AU (n:Nat) (f g:Nat->Rat):S n (fun j=>f j+g j)=S n f+S n g:=by
 induction n with
 |zero=>simp only [S];grind
 |succ n ih=>simp only [S,ih];grind
theorem VO (n:Nat) (f g:Nat->Rat):S n (fun j=>f j - g j)=S n f - S n g:=by
 induction n with
 |zero=>simp only [S];grind
 |succ n ih=>simp only [S,ih];grind
theorem oq (n:Nat) (a:Rat) (f:Nat->Rat):S n (fun j=>a*f j)=a*S n f:=by
 induction n with
 |zero=>simp only [S];grind
 |succ n ih=>simp only [S,ih];grind
theorem XS (n:Nat):S n (fun _=>0)=0:=by
 induction n with
 |zero=>rfl
 |succ n ih=>simp only [S,ih];grind
theorem jy {n:Nat} {f:Nat->Rat} (h:∀j,j<n->f j=0):S n f=0:=by
 rw [dR h];exact XS n
theorem pz {n:Nat} {f:Nat->Rat} (h:∀j,j<n->0<=f j):0<=S n f:=by
 induction n with
 |zero=>simp only [S];grind
 |succ n ih=>
  have h1:=ih (fun j hj=>h j (by omega))
  have h2:=h n (by omega)
  simp only [S];grind
theorem gl {n:Nat} {k:Nat} (hk:k<n) (f:Nat->Rat):S n (fun j=>if j=k then f j else 0)=f k:=by
 induction n with
 |zero=>omega
 |succ n ih=>
  simp only [S]
  by_cases h:n=k
  ·subst h
   rw [if_pos rfl,jy (fun j hj=>if_neg (by omega))];grind
  ·rw [if_neg h,ih (by omega)];grind
theorem Cj (m n:Nat) (f:Nat->Nat->Rat):S m (fun i=>S n (fun j=>f i j))=S n (fun j=>S m (fun i=>f i j)):=by
 induction m with
 |zero=>simp only [S];exact (XS n).symm
 |succ m ih=>simp only [S];rw [ih,<-AU]
theorem uj {n k:Nat} (hk:k<n) {f:Nat->Rat} (h:∀j,j<n->0<=f j):f k<=S n f:=by
 induction n with
 |zero=>omega
 |succ n ih=>
  have h2:=h n (by omega)
  have h3:0<=S n f:=pz (fun j hj=>h j (by omega))
  simp only [S]
  by_cases e:k=n
  ·subst e;grind
  ·have:=ih (by omega) (fun j hj=>h j (by omega));grind
theorem zC {n m:Nat} (f:Nat->Rat):S (n+m) f=S n f+S m (fun i=>f (n+i)):=by
 induction m with
 |zero=>simp only [S,Nat.add_zero];grind
 |succ m ih=>
  show S (n+m) f+f (n+m)=S n f+(S m (fun i=>f (n+i))+f (n+m))
  rw [ih];grind
structure bA where
 cell:Nat->Nat->Rat
 basis:Nat->Nat
def bA.pivot (t:bA) (r c:Nat):bA where
 cell i j:=if i=r then t.cell r j/t.cell r c else t.cell i j - t.cell i c*(t.cell r j/t.cell r c)
 basis i:=if i=r then c else t.basis i
def bA.F (t:bA) (N:Nat) (h:Rat) (x:Nat->Rat) (i:Nat):Rat:=S N (fun j=>t.cell i j*x j)- t.cell i N*h
theorem MV (t:bA) (N:Nat) (h:Rat) (x:Nat->Rat) (r c:Nat):(t.pivot r c).F N h x r=t.F N h x r/t.cell r c:=by
 unfold bA.F bA.pivot
 simp only [if_true]
 have:S N (fun j=>t.cell r j/t.cell r c*x j)=(1/t.cell r c)*S N (fun j=>t.cell r j*x j):=by
  rw [<-oq];exact dR (fun j _=>by grind)
 rw [this];grind
theorem Ck (t:bA) (N:Nat) (h:Rat) (x:Nat->Rat) {r i:Nat} (hi:i≠r) (c:Nat):(t.pivot r c).F N h x i=t.F N h x i - t.cell i c*(t.F N h x r/t.cell r c):=by
 unfold bA.F bA.pivot
 simp only [if_neg hi]
 have:S N (fun j=>(t.cell i j - t.cell i c*(t.cell r j/t.cell r c))*x j)=S N (fun j=>t.cell i j*x j)-(t.cell i c/t.cell r c)*S N (fun j=>t.cell r j*x j):=by
  rw [<-oq,<-VO];exact dR (fun j _=>by grind)
 rw [this];grind
structure Valid (m N K:Nat) (t0 t:bA):Prop where
 lt:∀r,r<m->t.basis r<N
 unit:∀r,r<m->∀i,i<m+K->t.cell i (t.basis r)=if i=r then 1 else 0
 tZ:∀h x,(∀i,i<m->t0.F N h x i=0)↔(∀i,i<m->t.F N h x i=0)
 cost:∀h x,(∀i,i<m->t.F N h x i=0)->∀k,k<K->t.F N h x (m+k)=t0.F N h x (m+k)
theorem Valid.pivot {m N K:Nat} {t0 t:bA} (v:Valid m N K t0 t) {r c:Nat} (hr:r<m) (hc:c<N) (hp:t.cell r c≠0):Valid m N K t0 (t.pivot r c):=by
 have key:∀h x,(∀i,i<m->t.F N h x i=0)↔(∀i,i<m->(t.pivot r c).F N h x i=0):=by
  intro h x
  constructor
  ·intro H i hi
   by_cases e:i=r
   ·subst e;rw [MV,H i hi];grind
   ·rw [Ck _ _ _ _ e,H i hi,H r hr];grind
  ·intro H i hi
   have hrr:t.F N h x r=0:=by
    have:=H r hr;rw [MV] at this
    have h2:t.F N h x r=(t.F N h x r/t.cell r c)*t.cell r c:=by grind
    rw [h2,this];grind
   by_cases e:i=r
   ·subst e;exact hrr
   ·have:=H i hi;rw [Ck _ _ _ _ e,hrr] at this;grind
 refine ⟨?_,?_,?_,?_⟩
 ·intro i hi;show (if i=r then c else t.basis i)<N
  split
  ·exact hc
  ·exact v.lt i hi
 ·intro r' hr' i hi
  simp only [bA.pivot]
  by_cases e:r'=r
  ·subst e
   simp only [if_true]
   by_cases e2:i=r'
   ·subst e2;simp only [if_true];grind
   ·simp only [if_neg e2];grind
  ·simp only [if_neg e]
   have h1:=v.unit r' hr' r (by omega)
   rw [if_neg (fun h=>e h.symm)] at h1
   rw [h1]
   have h2:=v.unit r' hr' i hi
   rw [h2]
   by_cases e2:i=r
   ·subst e2;rw [if_pos rfl,if_neg (fun h=>e h.symm)];grind
   ·rw [if_neg e2];grind
 ·intro h x;exact (v.tZ h x).trans (key h x)
 ·intro h x H k hk
  have H':=(key h x).2 H
  rw [Ck _ _ _ _ (by omega),H' r hr,<-v.cost h x H' k hk];grind
def bA.X (t:bA) (m N:Nat) (j:Nat):Rat:=S m (fun r=>if t.basis r=j then t.cell r N else 0)
theorem a4b {m N:Nat} {t:bA} (hB:∀r,r<m->t.basis r<N) (g:Nat->Rat):S N (fun j=>g j*t.X m N j)=S m (fun r=>g (t.basis r)*t.cell r N):=by
 unfold bA.X
 have:S N (fun j=>g j*S m (fun r=>if t.basis r=j then t.cell r N else 0))=S N (fun j=>S m (fun r=>g j*(if t.basis r=j then t.cell r N else 0))):=
  dR (fun j _=>(oq m (g j) _).symm)
 rw [this,Cj]
 refine dR (fun r hr=>?_)
 have:S N (fun j=>g j*(if t.basis r=j then t.cell r N else 0))=S N (fun j=>if j=t.basis r then g j*t.cell r N else 0):=by
  refine dR (fun j _=>?_)
  by_cases e:t.basis r=j
  ·rw [if_pos e,if_pos e.symm]
  ·rw [if_neg e,if_neg (fun h=>e h.symm)];grind
 rw [this,gl (hB r hr) (fun j=>g j*t.cell r N)]
theorem Valid.MW {m N K:Nat} {t0 t:bA} (v:Valid m N K t0 t) {i:Nat} (hi:i<m):t.F N 1 (t.X m N) i=0:=by
 unfold bA.F
 rw [a4b v.lt]
 have:S m (fun r=>t.cell i (t.basis r)*t.cell r N)=S m (fun r=>if r=i then t.cell r N else 0):=by
  refine dR (fun r hr=>?_)
  rw [v.unit r hr i (by omega)]
  by_cases e:i=r
  ·rw [if_pos e,if_pos e.symm];grind
  ·rw [if_neg e,if_neg (fun h=>e h.symm)];grind
 rw [this,gl hi (fun r=>t.cell r N)];grind
theorem Valid.FN {m N K:Nat} {t0 t:bA} (v:Valid m N K t0 t) {k:Nat} (hk:k<K):t.F N 1 (t.X m N) (m+k)= - t.cell (m+k) N:=by
 unfold bA.F
 rw [a4b v.lt,jy]
 ·grind
 ·intro r hr
  rw [v.unit r hr (m+k) (by omega),if_neg (by omega)];grind
theorem Valid.inj {m N K:Nat} {t0 t:bA} (v:Valid m N K t0 t) {r r':Nat} (hr:r<m) (hr':r'<m) (h:t.basis r=t.basis r'):r=r':=by
 have h1:=v.unit r hr r (by omega)
 have h2:=v.unit r' hr' r (by omega)
 rw [if_pos rfl] at h1
 rw [h] at h1
 rw [h1] at h2
 by_cases e:r=r'
 ·exact e
 ·rw [if_neg e] at h2;grind
theorem Cl {m N K:Nat} {t0 t:bA} (v:Valid m N K t0 t) {r:Nat} (hr:r<m):t.X m N (t.basis r)=t.cell r N:=by
 unfold bA.X
 rw [<-gl hr (fun r=>t.cell r N)]
 refine dR (fun r' hr'=>?_)
 by_cases e:r'=r
 ·subst e;simp
 ·rw [if_neg (fun h=>e (v.inj hr' hr h)),if_neg e]
theorem AV {m N:Nat} {t:bA} {j:Nat} (h:∀r,r<m->t.basis r≠j):t.X m N j=0:=
 jy (fun r hr=>if_neg (h r hr))
theorem a1u {m N K:Nat} {t0 t:bA} (v:Valid m N K t0 t) (g y:Nat->Rat) (hy:∀j,j<N->(∀r,r<m->t.basis r≠j)->y j=0):
 S N (fun j=>g j*y j)=S m (fun r=>g (t.basis r)*y (t.basis r)):=by
 have:S N (fun j=>g j*y j)=S N (fun j=>S m (fun r=>if t.basis r=j then g j*y j else 0)):=by
  refine dR (fun j hj=>?_)
  by_cases e:∃r,r<m/\t.basis r=j
  ·obtain ⟨r,hr,rfl⟩:=e
   have:S m (fun r'=>if t.basis r'=t.basis r then g (t.basis r)*y (t.basis r) else 0)=S m (fun r'=>if r'=r then g (t.basis r)*y (t.basis r) else 0):=by
    refine dR (fun r' hr'=>?_)
    by_cases e:r'=r
    ·subst e;rw [if_pos rfl,if_pos rfl]
    ·rw [if_neg (fun h=>e (v.inj hr' hr h)),if_neg e]
   rw [this,gl hr (fun _=>g (t.basis r)*y (t.basis r))]
  ·rw [hy j hj (fun r hr h=>e ⟨r,hr,h⟩),jy (fun r _=>by split<;>grind)];grind
 rw [this,Cj]
 refine dR (fun r hr=>?_)
 have:S N (fun j=>if t.basis r=j then g j*y j else 0)=S N (fun j=>if j=t.basis r then g j*y j else 0):=by
  refine dR (fun j _=>?_)
  by_cases e:t.basis r=j
  ·rw [if_pos e,if_pos e.symm]
  ·rw [if_neg e,if_neg (fun h=>e h.symm)]
 rw [this,gl (v.lt r hr) (fun j=>g j*y j)]
theorem yY {m N K:Nat} {t0 t:bA} (v:Valid m N K t0 t) {h:Rat} {y:Nat->Rat} (hy:∀j,j<N->(∀r,r<m->t.basis r≠j)->y j=0)
 (hs:∀i,i<m->t.F N h y i=0) {r:Nat} (hr:r<m):y (t.basis r)=t.cell r N*h:=by
 have h1:=hs r hr
 unfold bA.F at h1
 rw [a1u v _ _ hy] at h1
 have:S m (fun r'=>t.cell r (t.basis r')*y (t.basis r'))=S m (fun r'=>if r'=r then y (t.basis r') else 0):=by
  refine dR (fun r' hr'=>?_)
  rw [v.unit r' hr' r (by omega)]
  by_cases e:r=r'
  ·rw [if_pos e,if_pos e.symm];grind
  ·rw [if_neg e,if_neg (fun h=>e h.symm)];grind
 rw [this,gl hr (fun r'=>y (t.basis r'))] at h1
 grind
theorem b6C {m N K:Nat} {t0 t t':bA} (v:Valid m N K t0 t) (v':Valid m N K t0 t') (hb:∀j,(∃r,r<m/\t'.basis r=j)->∃r,r<m/\t.basis r=j):
 ∀j,j<N->t.X m N j=t'.X m N j:=by
 have hs:∀i,i<m->t.F N 1 (t'.X m N) i=0:=(v.tZ 1 _).1 ((v'.tZ 1 _).2 (fun i hi=>v'.MW hi))
 have hy:∀j,j<N->(∀r,r<m->t.basis r≠j)->t'.X m N j=0:=fun j _ h=>AV (fun r hr e=>by
  obtain ⟨r',hr',e'⟩:=hb j ⟨r,hr,e⟩
  exact h r' hr' e')
 intro j hj
 by_cases e:∃r,r<m/\t.basis r=j
 ·obtain ⟨r,hr,rfl⟩:=e
  rw [Cl v hr,yY v hy hs hr];grind
 ·rw [AV (fun r hr h=>e ⟨r,hr,h⟩),hy j hj (fun r hr h=>e ⟨r,hr,h⟩)]
def bA.obj (t:bA) (m N:Nat) (k:Nat):Rat:= - t.cell (m+k) N
theorem AW {m N K:Nat} {t0 t:bA} (v:Valid m N K t0 t) {k:Nat} (hk:k<K):t.obj m N k=t0.F N 1 (t.X m N) (m+k):=by
 rw [<-v.cost 1 _ (fun i hi=>v.MW hi) k hk,v.FN hk];rfl
theorem a8z {m N K:Nat} {t0 t t':bA} (v:Valid m N K t0 t) (v':Valid m N K t0 t') (hb:∀j,(∃r,r<m/\t'.basis r=j)->∃r,r<m/\t.basis r=j)
 {k:Nat} (hk:k<K):t.obj m N k=t'.obj m N k:=by
 rw [AW v hk,AW v' hk]
 unfold bA.F
 rw [dR (fun j hj=>by rw [b6C v v' hb j hj])]
def fk (K:Nat) (u:Nat->Rat):Prop:=∃k,k<K/\(∀i,i<k->u i=0)/\u k<0
def oa (K:Nat) (u:Nat->Rat):Prop:=∃k,k<K/\(∀i,i<k->u i=0)/\0<u k
def DU (K:Nat) (u:Nat->Rat):Prop:=∀k,k<K->u k=0
theorem b2x (K:Nat) (u:Nat->Rat):fk K u∨DU K u∨oa K u:=by
 induction K with
 |zero=>right;left;intro k hk;omega
 |succ K ih=>
  rcases ih with ⟨k,hk,h1,h2⟩|h|⟨k,hk,h1,h2⟩
  ·exact .inl ⟨k,by omega,h1,h2⟩
  ·by_cases e:u K<0
   ·exact .inl ⟨K,by omega,h,e⟩
   ·by_cases e2:0<u K
    ·exact .inr (.inr ⟨K,by omega,h,e2⟩)
    ·refine .inr (.inl (fun k hk=>?_))
     by_cases e3:k=K
     ·subst e3;grind
     ·exact h k (by omega)
  ·exact .inr (.inr ⟨k,by omega,h1,h2⟩)
theorem EM {K:Nat} {u:Nat->Rat} (h1:fk K u) (h2:oa K u):False:=by
 obtain ⟨k,_,a,b⟩:=h1
 obtain ⟨k',_,a',b'⟩:=h2
 rcases Nat.lt_trichotomy k k' with h|h|h
 ·have:=a' k h;grind
 ·subst h;grind
 ·have:=a k' h;grind
theorem xH {K:Nat} {u:Nat->Rat} (h1:DU K u) (h2:oa K u):False:=by
 obtain ⟨k',hk,a',b'⟩:=h2
 have:=h1 k' hk;grind
theorem xI {K:Nat} {u:Nat->Rat} (h1:DU K u) (h2:fk K u):False:=by
 obtain ⟨k',hk,a',b'⟩:=h2
 have:=h1 k' hk;grind
theorem iO {K:Nat} {u:Nat->Rat}:¬fk K u↔DU K u∨oa K u:=
 ⟨fun h=>(b2x K u).resolve_left h,fun h h'=>h.elim (fun z=>xI z h') (fun p=>EM h' p)⟩
theorem oa.congr {K:Nat} {u v:Nat->Rat} (h:oa K u) (e:∀k,k<K->u k=v k):oa K v:=by
 obtain ⟨k,hk,a,b⟩:=h
 exact ⟨k,hk,fun i hi=>(e i (by omega)) ▸ a i hi,(e k hk) ▸ b⟩
theorem fk.congr {K:Nat} {u v:Nat->Rat} (h:fk K u) (e:∀k,k<K->u k=v k):fk K v:=by
 obtain ⟨k,hk,a,b⟩:=h
 exact ⟨k,hk,fun i hi=>(e i (by omega)) ▸ a i hi,(e k hk) ▸ b⟩
theorem NN.congr {K:Nat} {u v:Nat->Rat} (h:¬fk K u) (e:∀k,k<K->u k=v k):¬fk K v:=fun h'=>h (h'.congr (fun k hk=>(e k hk).symm))
theorem fk.neg {K:Nat} {u:Nat->Rat} (h:fk K u):oa K (fun k=> - u k):=by
 obtain ⟨k,hk,a,b⟩:=h
 exact ⟨k,hk,fun i hi=>by have:=a i hi;grind,by grind⟩
theorem oa.neg {K:Nat} {u:Nat->Rat} (h:oa K u):fk K (fun k=> - u k):=by
 obtain ⟨k,hk,a,b⟩:=h
 exact ⟨k,hk,fun i hi=>by have:=a i hi;grind,by grind⟩
theorem oa.add {K:Nat} {u v:Nat->Rat} (h:oa K u) (h':¬fk K v):oa K (fun k=>u k+v k):=by
 obtain ⟨k,hk,a,b⟩:=h
 rcases iO.1 h' with z|⟨k',hk',a',b'⟩
 ·exact ⟨k,hk,fun i hi=>by have:=a i hi;have:=z i (by omega);grind,by have:=z k hk;grind⟩
 ·rcases Nat.lt_trichotomy k k' with e|e|e
  ·exact ⟨k,hk,fun i hi=>by have:=a i hi;have:=a' i (by omega);grind,by have:=a' k e;grind⟩
  ·subst e;exact ⟨k,hk,fun i hi=>by have:=a i hi;have:=a' i (by omega);grind,by grind⟩
  ·exact ⟨k',hk',fun i hi=>by have:=a i (by omega);have:=a' i (by omega);grind,by have:=a k' e;grind⟩
theorem NN.add {K:Nat} {u v:Nat->Rat} (h:¬fk K u) (h':¬fk K v):¬fk K (fun k=>u k+v k):=by
 rcases iO.1 h with z|p
 ·exact NN.congr h' (fun k hk=>by have:=z k hk;grind)
 ·exact iO.2 (.inr (p.add h'))
theorem NN.zero {K:Nat}:¬fk K (fun _=>0):=iO.2 (.inl (fun _ _=>rfl))
theorem VP {a b:Rat} (ha:0<a) (hb:b<0):a*b<0:=by
 have:=Rat.mul_lt_mul_of_pos_right hb ha;grind
theorem xd {a b:Rat} (ha:0<a) (hb:0<b):0<a*b:=by
 have:=Rat.mul_lt_mul_of_pos_right hb ha;grind
theorem oa.smul {K:Nat} {u:Nat->Rat} (h:oa K u) {a:Rat} (ha:0<a):oa K (fun k=>a*u k):=by
 obtain ⟨k,hk,x,y⟩:=h
 exact ⟨k,hk,fun i hi=>by have:=x i hi;grind,xd ha y⟩
theorem fk.smul {K:Nat} {u:Nat->Rat} (h:fk K u) {a:Rat} (ha:0<a):fk K (fun k=>a*u k):=by
 obtain ⟨k,hk,x,y⟩:=h
 exact ⟨k,hk,fun i hi=>by have:=x i hi;grind,VP ha y⟩
theorem NN.smul {K:Nat} {u:Nat->Rat} (h:¬fk K u) {a:Rat} (ha:0<=a):¬fk K (fun k=>a*u k):=by
 by_cases e:a=0
 ·exact NN.congr NN.zero (fun k _=>by rw [e];grind)
 ·rcases iO.1 h with z|p
  ·exact iO.2 (.inl (fun k hk=>by have:=z k hk;show a*u k=0;rw [this];grind))
  ·exact iO.2 (.inr (p.smul (by grind)))
theorem NN.sum {K n:Nat} {u:Nat->Nat->Rat} (h:∀j,j<n->¬fk K (u j)):¬fk K (fun k=>S n (fun j=>u j k)):=by
 induction n with
 |zero=>exact NN.zero
 |succ n ih=>exact NN.add (ih (fun j hj=>h j (by omega))) (h n (by omega))
end Go.Proofs.Ytkckdphjhlbdcaa.Lp
set_option linter.unusedVariables false
set_option linter.unusedSimpArgs false
namespace Go.Proofs.Ytkckdphjhlbdcaa.Lp
def Cn:Nat->List (List Bool)
 |0=>[[]]
 |n+1=>(Cn n).map (List.cons true)++(Cn n).map (List.cons false)
theorem SX (n:Nat):(Cn n).length=2^n:=by
 induction n with
 |zero=>rfl
 |succ n ih=>simp only [Cn,List.length_append,List.length_map,ih];omega
theorem a1v (l:List Bool):l∈Cn l.length:=by
 induction l with
 |nil=>simp [Cn]
 |cons b l ih=>cases b<;>simp [Cn,ih]
theorem pE {α:Type} [DecidableEq α]:∀(l:List α) (m:List α),l.Nodup->(∀x,x∈l->x∈m)->l.length<=m.length
 | [],m,_,_=>by simp
 |a::l,m,hn,hs=>by
  have ha:a∈m:=hs a (by simp)
  rw [List.nodup_cons] at hn
  have:=pE l (m.erase a) hn.2 (fun x hx=>by
   have hxa:x≠a:=fun e=>hn.1 (e ▸ hx)
   exact (List.mem_erase_of_ne hxa).2 (hs x (by simp [hx])))
  rw [List.length_erase_of_mem ha] at this
  have hp:=List.length_pos_of_mem ha
  simp only [List.length_cons];omega
theorem XT (N L:Nat) (f:Nat->List Bool) (hl:∀i,i<=L->(f i).length=N) (hL:2^N<=L):∃i j,i<j/\j<=L/\f i=f j:=by
 apply Classical.byContradiction
 intro hno
 have Ih:((List.range (L+1)).map f).Nodup:=by
  rw [List.nodup_iff_pairwise_ne,List.pairwise_map]
  refine List.Pairwise.imp_of_mem ?_ List.pairwise_lt_range
  intro i j hi hj hij e
  rw [List.mem_range] at hi hj
  exact hno ⟨i,j,hij,by omega,e⟩
 have:=pE _ (Cn N) Ih (fun x hx=>by
  obtain ⟨i,hi,rfl⟩:=List.mem_map.1 hx
  rw [List.mem_range] at hi
  have:=a1v (f i)
  rwa [hl i (by omega)] at this)
 rw [SX,List.length_map,List.length_range] at this
 omega
def jz (m:Nat) (t:bA) (j:Nat):Prop:=∃r,r<m/\t.basis r=j
open Classical in
noncomputable def tv (m N:Nat) (t:bA):List Bool:=(List.range N).map fun j=>decide (jz m t j)
theorem EN (m N:Nat) (t:bA):(tv m N t).length=N:=by simp [tv]
theorem KA {m N:Nat} {t t':bA} (h:tv m N t=tv m N t') {j:Nat} (hj:j<N):jz m t j↔jz m t' j:=by
 have:=congrArg (fun l=>l[j]?) h
 simp [tv,hj] at this
 exact this
theorem PF {m N K:Nat} {t0 t t':bA} (v:Valid m N K t0 t) (v':Valid m N K t0 t') (h:tv m N t=tv m N t') {k:Nat} (hk:k<K):t.obj m N k=t'.obj m N k:=
 a8z v v' (fun _ ⟨r,hr,e⟩=>(KA h (e ▸ v'.lt r hr)).2 ⟨r,hr,e⟩) hk
def bA.cost (t:bA) (m:Nat) (j:Nat):Nat->Rat:=fun k=>t.cell (m+k) j
theorem opt {m N K:Nat} {t0 t:bA} (v:Valid m N K t0 t) (hc:∀j,j<N->¬fk K (t.cost m j)) {x:Nat->Rat} (hx:∀j,j<N->0<=x j) (hs:∀i,i<m->t0.F N 1 x i=0):
 ¬fk K (fun k=>t0.F N 1 x (m+k)- t0.F N 1 (t.X m N) (m+k)):=by
 have hs':=(v.tZ 1 x).1 hs
 refine NN.congr (NN.sum (n:=N) (u:=fun j k=>x j*t.cost m j k) (fun j hj=>NN.smul (hc j hj) (hx j hj))) (fun k hk=>?_)
 rw [<-v.cost 1 x hs' k hk,<-AW v hk]
 unfold bA.F bA.obj
 have:S N (fun j=>x j*t.cost m j k)=S N (fun j=>t.cell (m+k) j*x j):=dR (fun j _=>by unfold bA.cost;grind)
 rw [this];grind
structure DStep (m N K:Nat) (t t':bA) where
 r:Nat
 c:Nat
 hr:r<m
 hc:c<N
 rhs:t.cell r N<0
 neg:t.cell r c<0
 best:∀j,j<N->t.cell r j<0->¬fk K (fun k=>t.cell (m+k) c/t.cell r c - t.cell (m+k) j/t.cell r j)
 eq:t'=t.pivot r c
def OE (m N K:Nat) (t0:bA):Prop:=∀d:Nat->Rat,(∀i,i<m->t0.F N 0 d i=0)->(∀k,k<K->t0.F N 0 d (m+k)=0)->∀j,j<N->d j=0
def bA.dir (t:bA) (m:Nat) (c j:Nat):Rat:=if j=c then 1 else S m (fun r=>if t.basis r=j then - t.cell r c else 0)
theorem KB {m N K:Nat} {t0 t:bA} (v:Valid m N K t0 t) {c:Nat} (hc:c<N) (hnb:¬jz m t c) (g:Nat->Rat):
 S N (fun j=>g j*t.dir m c j)=g c - S m (fun r=>g (t.basis r)*t.cell r c):=by
 have:S N (fun j=>g j*t.dir m c j)=S N (fun j=>(if j=c then g j else 0)+S m (fun r=>if t.basis r=j then -(g j*t.cell r c) else 0)):=by
  refine dR (fun j _=>?_)
  unfold bA.dir
  by_cases e:j=c
  ·subst e;rw [if_pos rfl,if_pos rfl,jy (fun r hr=>if_neg (fun h=>hnb ⟨r,hr,h⟩))];grind
  ·rw [if_neg e,if_neg e,<-oq]
   have:S m (fun r=>g j*(if t.basis r=j then - t.cell r c else 0))=S m (fun r=>if t.basis r=j then -(g j*t.cell r c) else 0):=
    dR (fun r _=>by split<;>grind)
   rw [this];grind
 rw [this,AU,gl hc g,Cj]
 have:S m (fun i=>S N (fun j=>if t.basis i=j then -(g j*t.cell i c) else 0))=S m (fun r=>(-1)*(g (t.basis r)*t.cell r c)):=by
  refine dR (fun r hr=>?_)
  have:S N (fun j=>if t.basis r=j then -(g j*t.cell r c) else 0)=S N (fun j=>if j=t.basis r then -(g j*t.cell r c) else 0):=by
   refine dR (fun j _=>?_)
   by_cases e:t.basis r=j
   ·rw [if_pos e,if_pos e.symm]
   ·rw [if_neg e,if_neg (fun h=>e h.symm)]
  rw [this,gl (v.lt r hr) (fun j=> -(g j*t.cell r c))];grind
 rw [this,oq];grind
theorem zD {m N K:Nat} {t0 t:bA} (v:Valid m N K t0 t) {c:Nat} (hc:c<N) (hnb:¬jz m t c):∀i,i<m->t.F N 0 (t.dir m c) i=0:=by
 intro i hi
 unfold bA.F
 rw [KB v hc hnb]
 have:S m (fun r=>t.cell i (t.basis r)*t.cell r c)=S m (fun r=>if r=i then t.cell r c else 0):=by
  refine dR (fun r hr=>?_)
  rw [v.unit r hr i (by omega)]
  by_cases e:i=r
  ·rw [if_pos e,if_pos e.symm];grind
  ·rw [if_neg e,if_neg (fun h=>e h.symm)];grind
 rw [this,gl hi (fun r=>t.cell r c)];grind
theorem PG {m N K:Nat} {t0 t:bA} (v:Valid m N K t0 t) {c:Nat} (hc:c<N) (hnb:¬jz m t c) {k:Nat} (hk:k<K):t.F N 0 (t.dir m c) (m+k)=t.cost m c k:=by
 unfold bA.F bA.cost
 rw [KB v hc hnb,jy (fun r hr=>by rw [v.unit r hr (m+k) (by omega),if_neg (by omega)];grind)];grind
theorem FO (t:bA) (m c:Nat):t.dir m c c=1:=if_pos rfl
theorem VQ {m N K:Nat} {t0 t:bA} (v:Valid m N K t0 t) (sh:OE m N K t0) {c:Nat} (hc:c<N) (hnb:¬jz m t c):¬DU K (t.cost m c):=by
 intro hz
 have h:=sh (t.dir m c) ((v.tZ 0 _).2 (zD v hc hnb)) (fun k hk=>by rw [<-v.cost 0 _ (zD v hc hnb) k hk,PG v hc hnb hk,hz k hk]) c hc
 rw [FO] at h;grind
theorem KC {m N K:Nat} {t0 t:bA} (v:Valid m N K t0 t) {r c:Nat} (hr:r<m) (h:t.cell r c<0):¬jz m t c:=by
 rintro ⟨r',hr',rfl⟩
 rw [v.unit r' hr' r (by omega)] at h
 split at h<;>grind
theorem KD {a b:Rat} (ha:a<0) (hb:b<0):0<a/b:=by
 have h1:0<(-a)*((-b)⁻¹):=xd (by grind) (Rat.inv_pos.2 (by grind))
 have:(-a)*(-b)⁻¹=a/b:=by grind
 rw [this] at h1;exact h1
structure DInv (m N K:Nat) (t0 t:bA):Prop extends Valid m N K t0 t where
 PI:∀j,j<N->¬fk K (t.cost m j)
theorem DStep.inv {m N K:Nat} {t0 t t':bA} (v:DInv m N K t0 t) (s:DStep m N K t t'):DInv m N K t0 t':=by
 obtain ⟨r,c,hr,hc,rhs,neg,best,rfl⟩:=s
 refine ⟨v.toValid.pivot hr hc (by grind),fun j hj=>?_⟩
 have e:∀k,k<K->t.cell (m+k) j - t.cell (m+k) c*(t.cell r j/t.cell r c)=(t.pivot r c).cost m j k:=fun k hk=>by
  show _=if m+k=r then _ else _
  rw [if_neg (by omega)]
 refine NN.congr ?_ e
 by_cases hn:t.cell r j<0
 ·refine NN.congr (NN.smul (best j hj hn) (a:= - t.cell r j) (by grind)) (fun k hk=>by grind)
 ·have h2:0<= -(t.cell r j/t.cell r c):=by
   by_cases e0:t.cell r j=0
   ·rw [e0];grind
   ·have h1:0<t.cell r j*((- t.cell r c)⁻¹):=xd (by grind) (Rat.inv_pos.2 (by grind))
    have:t.cell r j*(- t.cell r c)⁻¹= -(t.cell r j/t.cell r c):=by grind
    rw [this] at h1;grind
  refine NN.congr (NN.add (v.PI j hj) (NN.smul (v.PI c hc) h2)) (fun k hk=>by unfold bA.cost;grind)
theorem DStep.grows {m N K:Nat} {t0 t t':bA} (v:DInv m N K t0 t) (sh:OE m N K t0) (s:DStep m N K t t'):oa K (fun k=>t'.obj m N k - t.obj m N k):=by
 obtain ⟨r,c,hr,hc,rhs,neg,best,rfl⟩:=s
 have hp:oa K (t.cost m c):=(iO.1 (v.PI c hc)).resolve_left (VQ v.toValid sh hc (KC v.toValid hr neg))
 refine (hp.smul (KD rhs neg)).congr (fun k hk=>?_)
 have:(t.pivot r c).obj m N k= -(t.cell (m+k) N - t.cell (m+k) c*(t.cell r N/t.cell r c)):=by
  show -(if m+k=r then _ else _)=_
  rw [if_neg (by omega)]
 rw [this];unfold bA.obj bA.cost;grind
theorem XU {m N K:Nat} {t0:bA} (sh:OE m N K t0) (seq:Nat->bA) (h0:DInv m N K t0 (seq 0)) (hs:∀i,i<2^N->Nonempty (DStep m N K (seq i) (seq (i+1)))):False:=by
 have hinv:∀i,i<=2^N->DInv m N K t0 (seq i):=by
  intro i;induction i with
  |zero=>intro _;exact h0
  |succ i ih=>intro hi;exact (Classical.choice (hs i (by omega))).inv (ih (by omega))
 have hgrow:∀d i,i+d+1<=2^N->oa K (fun k=>(seq (i+d+1)).obj m N k -(seq i).obj m N k):=by
  intro d i;induction d with
  |zero=>intro hi;exact (Classical.choice (hs i (by omega))).grows (hinv i (by omega)) sh
  |succ d ih=>
   intro hi
   have h1:=ih (by omega)
   have h2:=(Classical.choice (hs (i+d+1) (by omega))).grows (hinv _ (by omega)) sh
   exact (h1.add (iO.2 (.inr h2))).congr (fun k _=>by have:i+(d+1)+1=i+d+1+1:=by omega
                                                      rw [this];grind)
 obtain ⟨i,j,hij,hj,e⟩:=XT N (2^N) (fun i=>tv m N (seq i)) (fun i _=>EN m N _) (Nat.le_refl _)
 have h1:=hgrow (j - i - 1) i (by omega)
 have hji:i+(j - i - 1)+1=j:=by omega
 rw [hji] at h1
 exact xH (fun k hk=>by have:=PF (hinv i (by omega)).toValid (hinv j hj).toValid e hk;show (seq j).obj m N k -(seq i).obj m N k=0;grind) h1
structure mZ (m N K:Nat) (t t':bA) where
 r:Nat
 c:Nat
 hr:r<m
 hc:c<N
 neg:fk K (t.cost m c)
 first:∀j,j<c->¬fk K (t.cost m j)
 pos:0<t.cell r c
 best:∀i,i<m->0<t.cell i c->t.cell r N/t.cell r c<t.cell i N/t.cell i c∨(t.cell r N/t.cell r c=t.cell i N/t.cell i c/\t.basis r<=t.basis i)
 eq:t'=t.pivot r c
structure PInv (m N K:Nat) (t0 t:bA):Prop extends Valid m N K t0 t where
 FP:∀r,r<m->0<=t.cell r N
theorem xe {a b:Rat} (ha:0<=a) (hb:0<b):0<=a/b:=by
 have h1:=Rat.mul_nonneg ha (Rat.le_of_lt (Rat.inv_pos.2 hb))
 have:a*b⁻¹=a/b:=by grind
 rw [this] at h1;exact h1
theorem mZ.inv {m N K:Nat} {t0 t t':bA} (v:PInv m N K t0 t) (s:mZ m N K t t'):PInv m N K t0 t':=by
 obtain ⟨r,c,hr,hc,neg,first,pos,best,rfl⟩:=s
 refine ⟨v.toValid.pivot hr hc (by grind),fun i hi=>?_⟩
 show 0<=if i=r then _ else _
 have hq:=xe (v.FP r hr) pos
 by_cases e:i=r
 ·rw [if_pos e];exact hq
 ·rw [if_neg e]
  have Ii:=v.FP i hi
  by_cases hp:0<t.cell i c
  ·have hle:t.cell r N/t.cell r c<=t.cell i N/t.cell i c:=by
    rcases best i hi hp with h|h<;>grind
   have h1:=Rat.mul_le_mul_of_nonneg_left hle (Rat.le_of_lt hp)
   have:t.cell i c*(t.cell i N/t.cell i c)=t.cell i N:=by grind
   rw [this] at h1;grind
  ·have h1:=Rat.mul_nonneg (show 0<= - t.cell i c by grind) hq
   grind
theorem mZ.obj {m N K:Nat} {t t':bA} (s:mZ m N K t t') (k:Nat):t.obj m N k - t'.obj m N k=(t.cell s.r N/t.cell s.r s.c)* - t.cost m s.c k:=by
 obtain ⟨r,c,hr,hc,neg,first,pos,best,rfl⟩:=s
 have:(t.pivot r c).obj m N k= -(t.cell (m+k) N - t.cell (m+k) c*(t.cell r N/t.cell r c)):=by
  show -(if m+k=r then _ else _)=_
  rw [if_neg (by omega)]
 rw [this];unfold bA.obj bA.cost;grind
theorem MX {m N K:Nat} {t0 t:bA} (v:Valid m N K t0 t) {r c:Nat} (hr:r<m) (hnb:¬jz m t c) (j:Nat):jz m (t.pivot r c) j↔(jz m t j/\j≠t.basis r)∨j=c:=by
 constructor
 ·rintro ⟨i,hi,e⟩
  have e':(if i=r then c else t.basis i)=j:=e
  by_cases h:i=r
  ·rw [if_pos h] at e';exact .inr e'.symm
  ·rw [if_neg h] at e'
   exact .inl ⟨⟨i,hi,e'⟩,fun h2=>h (v.inj hi hr (e'.trans h2))⟩
 ·rintro (⟨⟨i,hi,e⟩,h2⟩|e)
  ·refine ⟨i,hi,?_⟩
   show (if i=r then c else t.basis i)=j
   rw [if_neg (fun h=>h2 (by rw [<-e,h]))];exact e
  ·refine ⟨r,hr,?_⟩
   show (if r=r then c else t.basis r)=j
   rw [if_pos rfl];exact e.symm
theorem tA {m N K:Nat} {t0 t:bA} (v:Valid m N K t0 t) {c:Nat} (h:¬DU K (t.cost m c)):¬jz m t c:=by
 rintro ⟨r,hr,rfl⟩
 exact h (fun k hk=>by show t.cell (m+k) (t.basis r)=0;rw [v.unit r hr (m+k) (by omega),if_neg (by omega)])
theorem mZ.nb {m N K:Nat} {t0 t t':bA} (v:Valid m N K t0 t) (s:mZ m N K t t'):¬jz m t s.c:=tA v (fun h=>xI h s.neg)
theorem a6r {m N K:Nat} {t0 t:bA} (v:Valid m N K t0 t) {r c:Nat} (hr:r<m) (hc:c<N) (hp:t.cell r c≠0) (hnb:¬jz m t c) (h0:t.cell r N=0):
 ∀j,j<N->(t.pivot r c).X m N j=t.X m N j:=by
 have v':=v.pivot hr hc hp
 have hs:∀i,i<m->(t.pivot r c).F N 1 (t.X m N) i=0:=(v'.tZ 1 _).1 ((v.tZ 1 _).2 (fun i hi=>v.MW hi))
 have hy:∀j,j<N->(∀i,i<m->(t.pivot r c).basis i≠j)->t.X m N j=0:=by
  intro j _ h
  by_cases hb:jz m t j
  ·by_cases e:j=t.basis r
   ·subst e;rw [Cl v hr];exact h0
   ·obtain ⟨i,hi,e2⟩:=(MX v hr hnb j).2 (.inl ⟨hb,e⟩)
    exact absurd e2 (h i hi)
  ·exact AV (fun i hi e=>hb ⟨i,hi,e⟩)
 intro j hj
 by_cases e:jz m (t.pivot r c) j
 ·obtain ⟨i,hi,rfl⟩:=e
  rw [Cl v' hi,yY v' hy hs hi];grind
 ·rw [AV (fun i hi e2=>e ⟨i,hi,e2⟩),hy j hj (fun i hi e2=>e ⟨i,hi,e2⟩)]
theorem VR {P:Nat->Prop} {B:Nat} (h:∃x,P x) (hb:∀x,P x->x<B):∃x,P x/\∀y,P y->y<=x:=by
 apply Classical.byContradiction
 intro hno
 have grow:∀n,∃x,P x/\n<=x:=by
  intro n;induction n with
  |zero=>obtain ⟨x,hx⟩:=h;exact ⟨x,hx,by omega⟩
  |succ n ih=>
   obtain ⟨x,hx,hn⟩:=ih
   apply Classical.byContradiction
   intro h2
   exact hno ⟨x,hx,fun y hy=>by
    apply Classical.byContradiction
    intro h3
    exact h2 ⟨y,hy,by omega⟩⟩
 obtain ⟨x,hx,hB⟩:=grow B
 have:=hb x hx
 omega
theorem SY {m N K:Nat} {t0:bA} (seq:Nat->bA) (h0:PInv m N K t0 (seq 0)) (hs':∀i,i<2^N->Nonempty (mZ m N K (seq i) (seq (i+1)))):False:=by
 have hinv:∀i,i<=2^N->PInv m N K t0 (seq i):=by
  intro i;induction i with
  |zero=>intro _;exact h0
  |succ i ih=>intro hi;exact (Classical.choice (hs' i (by omega))).inv (ih (by omega))
 obtain ⟨i,j,hij,hj,em⟩:=XT N (2^N) (fun i=>tv m N (seq i)) (fun i _=>EN m N _) (Nat.le_refl _)
 have em:tv m N (seq i)=tv m N (seq j):=em
 have st:∀p,i<=p/\p<j->Nonempty (mZ m N K (seq p) (seq (p+1))):=fun p hp=>hs' p (by omega)
 have iv:∀p,i<=p/\p<=j->PInv m N K t0 (seq p):=fun p hp=>hinv p (by omega)
 have b6D:∀p,i<=p/\p<j->¬fk K (fun k=>(seq p).obj m N k -(seq (p+1)).obj m N k):=by
  intro p hp
  obtain ⟨s⟩:=st p hp
  have hq:=xe ((iv p (by omega)).FP s.r s.hr) s.pos
  exact NN.congr (NN.smul (iO.2 (.inr s.neg.neg)) hq) (fun k _=>(s.obj k).symm)
 have dec:∀d p,i<=p/\p+d<=j->¬fk K (fun k=>(seq p).obj m N k -(seq (p+d)).obj m N k):=by
  intro d p;induction d with
  |zero=>intro _;exact NN.congr NN.zero (fun k _=>by show (0:Rat)=(seq p).obj m N k -(seq p).obj m N k;grind)
  |succ d ih=>
   intro hp
   exact NN.congr (NN.add (ih (by omega)) (b6D (p+d) (by omega))) (fun k _=>by
    show _=(seq p).obj m N k -(seq (p+d+1)).obj m N k
    grind)
 have still:∀p,i<=p/\p<j->∀s:mZ m N K (seq p) (seq (p+1)),(seq p).cell s.r N=0:=by
  intro p hp s
  have hr:=(iv p (by omega)).FP s.r s.hr
  apply Classical.byContradiction
  intro hne
  have hpos:0<(seq p).cell s.r N/(seq p).cell s.r s.c:=by
   have:=xd (show 0<(seq p).cell s.r N by grind) (Rat.inv_pos.2 s.pos)
   have e:(seq p).cell s.r N*((seq p).cell s.r s.c)⁻¹=(seq p).cell s.r N/(seq p).cell s.r s.c:=by grind
   rw [e] at this;exact this
  have h1:oa K (fun k=>(seq p).obj m N k -(seq (p+1)).obj m N k):=(s.neg.neg.smul hpos).congr (fun k _=>(s.obj k).symm)
  have h2:=dec (p - i) i (by omega)
  have h3:=dec (j -(p+1)) (p+1) (by omega)
  have e2:i+(p - i)=p:=by omega
  have e3:p+1+(j -(p+1))=j:=by omega
  rw [e2] at h2;rw [e3] at h3
  have h4:=(h1.add h2).add h3
  exact xH (fun k hk=>by
   have:=PF (iv i (by omega)).toValid (iv j (by omega)).toValid em hk
   show _ - _+(_ - _)+(_ - _)=_
   grind) h4
 have xst:∀d p,i<=p/\p+d<=j->∀c,c<N->(seq (p+d)).X m N c=(seq p).X m N c:=by
  intro d p;induction d with
  |zero=>intro _ c _;rfl
  |succ d ih=>
   intro hp c hc
   rw [<-ih (by omega) c hc]
   obtain ⟨s⟩:=st (p+d) (by omega)
   have h0:=still (p+d) (by omega) s
   have v:=(iv (p+d) (by omega)).toValid
   have e:=s.eq
   show (seq (p+d+1)).X m N c=_
   rw [e]
   exact a6r v s.hr s.hc (by have:=s.pos;grind) (s.nb v) h0 c hc
 have xeq:∀p q,(i<=p/\p<=j)->(i<=q/\q<=j)->∀c,c<N->(seq p).X m N c=(seq q).X m N c:=by
  intro p q hp hq c hc
  have h1:=xst (p - i) i (by omega) c hc
  have h2:=xst (q - i) i (by omega) c hc
  have e1:i+(p - i)=p:=by omega
  have e2:i+(q - i)=q:=by omega
  rw [e1] at h1;rw [e2] at h2;rw [h1,h2]
 let Leaves:Nat->Prop:=fun x=>∃p,(i<=p/\p<j)/\∃s:mZ m N K (seq p) (seq (p+1)),(seq p).basis s.r=x
 let Enters:Nat->Prop:=fun x=>∃p,(i<=p/\p<j)/\∃s:mZ m N K (seq p) (seq (p+1)),s.c=x
 have VS:∀p,i<=p/\p<j->∀s:mZ m N K (seq p) (seq (p+1)),∀x,jz m (seq (p+1)) x↔(jz m (seq p) x/\x≠(seq p).basis s.r)∨x=s.c:=by
  intro p hp s x
  have v:=(iv p (by omega)).toValid
  have:=MX v (c:=s.c) s.hr (s.nb v) x
  rw [<-s.eq] at this;exact this
 have stay:∀x,¬Leaves x->∀d p,i<=p/\p+d<=j->jz m (seq p) x->jz m (seq (p+d)) x:=by
  intro x hx d p;induction d with
  |zero=>intro _ h;exact h
  |succ d ih=>
   intro hp h
   obtain ⟨s⟩:=st (p+d) (by omega)
   exact (VS (p+d) (by omega) s x).2 (.inl ⟨ih (by omega) h,fun e=>hx ⟨p+d,by omega,s,e.symm⟩⟩)
 have always:∀x,x<N->¬Leaves x->∀p q,(i<=p/\p<=j)->(i<=q/\q<=j)->jz m (seq p) x->jz m (seq q) x:=by
  intro x hxN hx p q hp hq h
  have h1:=stay x hx (j - p) p (by omega) h
  have e1:p+(j - p)=j:=by omega
  rw [e1] at h1
  have h2:=(KA em hxN).2 h1
  have h3:=stay x hx (q - i) i (by omega) h2
  have e2:i+(q - i)=q:=by omega
  rw [e2] at h3;exact h3
 have XV:∀x,¬Enters x->∀d p,i<=p/\p+d<=j->jz m (seq (p+d)) x->jz m (seq p) x:=by
  intro x hx d p;induction d with
  |zero=>intro _ h;exact h
  |succ d ih=>
   intro hp h
   obtain ⟨s⟩:=st (p+d) (by omega)
   rcases (VS (p+d) (by omega) s x).1 h with h|h
   ·exact ih (by omega) h.1
   ·exact absurd ⟨p+d,by omega,s,h.symm⟩ hx
 have Co:∀x,Leaves x->x<N:=by
  rintro x ⟨p,hp,s,rfl⟩;exact (iv p (by omega)).lt s.r s.hr
 obtain ⟨s0⟩:=st i (by omega)
 obtain ⟨t,⟨p,hp,s,ht⟩,a8A⟩:=VR (P:=Leaves) (B:=N) ⟨_,i,by omega,s0,rfl⟩ Co
 have vp:=(iv p (by omega)).toValid
 have htN:t<N:=Co t ⟨p,hp,s,ht⟩
 have b6E:∀q,i<=q/\q<j->∀s:mZ m N K (seq q) (seq (q+1)),Leaves s.c:=by
  intro q hq s'
  apply Classical.byContradiction
  intro hno
  exact s'.nb (iv q (by omega)).toValid (always s'.c s'.hc hno (q+1) q (by omega) (by omega) ((VS q hq s' s'.c).2 (.inr rfl)))
 have hst:s.c<t:=by
  have h1:=a8A s.c (b6E p hp s)
  have h2:s.c≠t:=by
   intro e;apply s.nb vp;rw [e,<-ht];exact ⟨s.r,s.hr,rfl⟩
  omega
 have hte:Enters t:=by
  apply Classical.byContradiction
  intro hno
  have hb:jz m (seq p) t:=⟨s.r,s.hr,ht⟩
  have h1:=XV t hno (p - i) i (by omega)
  have e1:i+(p - i)=p:=by omega
  rw [e1] at h1
  have h2:=(KA em htN).1 (h1 hb)
  have h3:=XV t hno (j -(p+1)) (p+1) (by omega)
  have e3:p+1+(j -(p+1))=j:=by omega
  rw [e3] at h3
  rcases (VS p hp s t).1 (h3 h2) with h|h
  ·exact h.2 ht.symm
  ·omega
 obtain ⟨q,hq,s2,ht2⟩:=hte
 have vq:=(iv q (by omega)).toValid
 have hnb:=s.nb vp
 have hom:=zD vp s.hc hnb
 have b6F:∀a,a<m->(seq q).F N 0 ((seq p).dir m s.c) a=0:=(vq.tZ 0 _).1 ((vp.tZ 0 _).2 hom)
 have b2y:∀k,k<K->(seq p).cost m s.c k=(seq q).cost m s.c k+S m (fun a=> -((seq q).cost m ((seq p).basis a) k*(seq p).cell a s.c)):=by
  intro k hk
  rw [<-PG vp s.hc hnb hk,vp.cost 0 _ hom k hk,<-vq.cost 0 _ b6F k hk]
  unfold bA.F
  rw [KB vp s.hc hnb]
  have:S m (fun a=> -((seq q).cost m ((seq p).basis a) k*(seq p).cell a s.c))=(-1)*S m (fun r=>(seq q).cell (m+k) ((seq p).basis r)*(seq p).cell r s.c):=by
   rw [<-oq];exact dR (fun a _=>by unfold bA.cost;grind)
  rw [this];unfold bA.cost;grind
 have hneg:fk K (fun k=>(seq q).cost m s.c k+S m (fun a=> -((seq q).cost m ((seq p).basis a) k*(seq p).cell a s.c))):=s.neg.congr b2y
 have hc2:¬fk K ((seq q).cost m s.c):=s2.first s.c (by omega)
 have hex:∃a,a<m/\fk K (fun k=> -((seq q).cost m ((seq p).basis a) k*(seq p).cell a s.c)):=by
  apply Classical.byContradiction
  intro hno
  exact NN.add hc2 (NN.sum (n:=m) (u:=fun a k=> -((seq q).cost m ((seq p).basis a) k*(seq p).cell a s.c)) (fun a ha h=>hno ⟨a,ha,h⟩)) hneg
 obtain ⟨a,ha,han⟩:=hex
 have a4c:oa K (fun k=>(seq q).cost m ((seq p).basis a) k*(seq p).cell a s.c):=han.neg.congr (fun k _=>by grind)
 have b6G:¬jz m (seq q) ((seq p).basis a):=tA vq (fun hz=>xH (fun k hk=>by rw [hz k hk];grind) a4c)
 have Ij:Leaves ((seq p).basis a):=by
  apply Classical.byContradiction
  intro hno
  exact b6G (always _ (vp.lt a ha) hno p q (by omega) (by omega) ⟨a,ha,rfl⟩)
 have hale:=a8A _ Ij
 have hane:(seq p).basis a≠t:=by
  intro e
  have har:a=s.r:=vp.inj ha s.hr (e.trans ht.symm)
  subst har
  have h1:fk K (fun k=>(seq p).cell s.r s.c*(seq q).cost m s2.c k):=s2.neg.smul s.pos
  exact EM (h1.congr (fun k _=>by rw [ht2,e];grind)) a4c
 have hcell:0<(seq p).cell a s.c:=by
  have hc3:¬fk K ((seq q).cost m ((seq p).basis a)):=s2.first _ (by omega)
  apply Classical.byContradiction
  intro hno
  have:=NN.smul hc3 (show 0<= -(seq p).cell a s.c by grind)
  exact this (han.congr (fun k _=>by grind))
 have ha0:(seq p).cell a N=0:=by
  obtain ⟨p',hp',s',e'⟩:=Ij
  have h1:=still p' hp' s'
  rw [<-Cl vp ha,xeq p p' (by omega) (by omega) _ (vp.lt a ha),<-e',Cl (iv p' (by omega)).toValid s'.hr];exact h1
 have fl:=still p hp s
 rcases s.best a ha hcell with h|⟨_,h⟩
 ·rw [fl,ha0] at h;grind
 ·omega
end Go.Proofs.Ytkckdphjhlbdcaa.Lp
set_option linter.unusedVariables false
set_option linter.unusedSimpArgs false
namespace Go.Proofs.Ytkckdphjhlbdcaa.Lp
def kL:Nat->Rat
 |0=>1
 |n+1=> - kL n
def minor (M:Nat->Nat->Rat) (j:Nat):Nat->Nat->Rat:=fun i k=>M (i+1) (if k<j then k else k+1)
def eK:Nat->(Nat->Nat->Rat)->Rat
 |0,_=>1
 |n+1,M=>S (n+1) fun j=>kL j*M 0 j*eK n (minor M j)
def upd (M:Nat->Nat->Rat) (c:Nat) (v:Nat->Rat):Nat->Nat->Rat:=fun i j=>if j=c then v i else M i j
theorem nC:∀(n:Nat) {M M':Nat->Nat->Rat},(∀i j,i<n->j<n->M i j=M' i j)->eK n M=eK n M'
 |0,_,_,_=>rfl
 |n+1,M,M',h=>by
  simp only [eK]
  refine dR (fun j hj=>?_)
  rw [h 0 j (by omega) hj,nC n (M:=minor M j) (M':=minor M' j) (fun i k hi hk=>?_)]
  unfold minor
  split
  ·exact h _ _ (by omega) (by omega)
  ·exact h _ _ (by omega) (by omega)
theorem uk (M:Nat->Nat->Rat) (c:Nat) (v:Nat->Rat):minor (upd M c v) c=minor M c:=by
 funext i k;unfold minor upd
 by_cases h:k<c
 ·rw [if_pos h,if_neg (by omega)]
 ·rw [if_neg h,if_neg (by omega)]
theorem xJ (M:Nat->Nat->Rat) {c j:Nat} (v:Nat->Rat) (h:c<j):minor (upd M c v) j=upd (minor M j) c (fun i=>v (i+1)):=by
 funext i k;unfold minor upd
 by_cases h1:k<j
 ·simp only [if_pos h1]
 ·simp only [if_neg h1]
  rw [if_neg (by omega),if_neg (by omega)]
theorem xK (M:Nat->Nat->Rat) {c j:Nat} (v:Nat->Rat) (h:j<c):minor (upd M c v) j=upd (minor M j) (c - 1) (fun i=>v (i+1)):=by
 funext i k;unfold minor upd
 by_cases h1:k<j
 ·simp only [if_pos h1]
  rw [if_neg (by omega),if_neg (by omega)]
 ·simp only [if_neg h1]
  by_cases h2:k=c - 1
  ·rw [if_pos (by omega),if_pos h2]
  ·rw [if_neg (by omega),if_neg h2]
theorem DV:∀(n:Nat) (M:Nat->Nat->Rat) (c:Nat),c<n->∀(a b:Rat) (v w:Nat->Rat),eK n (upd M c (fun i=>a*v i+b*w i))=a*eK n (upd M c v)+b*eK n (upd M c w)
 |0,_,_,hc,_,_,_,_=>by omega
 |n+1,M,c,hc,a,b,v,w=>by
  simp only [eK]
  rw [<-oq,<-oq,<-AU]
  refine dR (fun j hj=>?_)
  rcases Nat.lt_trichotomy c j with h|h|h
  ·rw [xJ _ _ h,xJ _ _ h,xJ _ _ h,DV n (minor M j) c (by omega) a b (fun i=>v (i+1)) (fun i=>w (i+1))]
   have e:∀u:Nat->Rat,upd M c u 0 j=M 0 j:=fun u=>if_neg (by omega)
   rw [e,e,e];grind
  ·subst h
   rw [uk,uk,uk]
   have e:∀u:Nat->Rat,upd M c u 0 c=u 0:=fun u=>if_pos rfl
   rw [e,e,e];grind
  ·rw [xK _ _ h,xK _ _ h,xK _ _ h,DV n (minor M j) (c - 1) (by omega) a b (fun i=>v (i+1)) (fun i=>w (i+1))]
   have e:∀u:Nat->Rat,upd M c u 0 j=M 0 j:=fun u=>if_neg (by omega)
   rw [e,e,e];grind
def swp (p j:Nat):Nat:=if j=p then p+1 else if j=p+1 then p else j
theorem AX:∀(n:Nat) (M:Nat->Nat->Rat) (p:Nat),p+1<n->eK n (fun i j=>M i (swp p j))= - eK n M
 |0,_,_,h=>by omega
 |n+1,M,p,hp=>by
  simp only [eK]
  have key:∀j,j<n+1->j≠p->j≠p+1->kL j*M 0 (swp p j)*eK n (minor (fun i j=>M i (swp p j)) j)= -(kL j*M 0 j*eK n (minor M j)):=by
   intro j hj h1 h2
   have e0:swp p j=j:=by unfold swp;rw [if_neg h1,if_neg h2]
   by_cases h:j<p
   ·have e:minor (fun i j=>M i (swp p j)) j=fun i k=>minor M j i (swp (p - 1) k):=by
     funext i k;unfold minor swp
     congr 1
     clear e0
     grind
    rw [e,AX n (minor M j) (p - 1) (by omega),e0];grind
   ·have e:minor (fun i j=>M i (swp p j)) j=fun i k=>minor M j i (swp p k):=by
     funext i k;unfold minor swp
     congr 1
     clear e0
     grind
    rw [e,AX n (minor M j) p (by omega),e0];grind
  have ep:kL p*M 0 (swp p p)*eK n (minor (fun i j=>M i (swp p j)) p)= -(kL (p+1)*M 0 (p+1)*eK n (minor M (p+1))):=by
   have e:minor (fun i j=>M i (swp p j)) p=minor M (p+1):=by
    funext i k;unfold minor swp
    congr 1
    grind
   have e0:swp p p=p+1:=by unfold swp;rw [if_pos rfl]
   rw [e,e0];simp only [kL];grind
  have ep1:kL (p+1)*M 0 (swp p (p+1))*eK n (minor (fun i j=>M i (swp p j)) (p+1))= -(kL p*M 0 p*eK n (minor M p)):=by
   have e:minor (fun i j=>M i (swp p j)) (p+1)=minor M p:=by
    funext i k;unfold minor swp
    congr 1
    grind
   have e0:swp p (p+1)=p:=by unfold swp;rw [if_neg (by omega),if_pos rfl]
   rw [e,e0];simp only [kL];grind
  have all:S (n+1) (fun j=>kL j*M 0 (swp p j)*eK n (minor (fun i j=>M i (swp p j)) j))
   =S (n+1) (fun j=>(-1)*(kL j*M 0 j*eK n (minor M j))
      +((if j=p then kL p*M 0 p*eK n (minor M p)- kL (p+1)*M 0 (p+1)*eK n (minor M (p+1)) else 0)
       +(if j=p+1 then kL (p+1)*M 0 (p+1)*eK n (minor M (p+1))- kL p*M 0 p*eK n (minor M p) else 0))):=by
   refine dR (fun j hj=>?_)
   by_cases h1:j=p
   ·subst h1;rw [ep,if_pos rfl,if_neg (by omega)];grind
   ·by_cases h2:j=p+1
    ·subst h2;rw [ep1,if_neg h1,if_pos rfl];grind
    ·rw [key j hj h1 h2,if_neg h1,if_neg h2];grind
  rw [all,AU,AU,oq,gl (by omega) (fun _=>kL p*M 0 p*eK n (minor M p)- kL (p+1)*M 0 (p+1)*eK n (minor M (p+1))),
   gl (by omega) (fun _=>kL (p+1)*M 0 (p+1)*eK n (minor M (p+1))- kL p*M 0 p*eK n (minor M p))]
  grind
theorem KE (n:Nat):∀(d p:Nat) (M:Nat->Nat->Rat),p+d+1<n->(∀i,i<n->M i p=M i (p+d+1))->eK n M=0
 |0,p,M,hq,h=>by
  have h1:=AX n M p (by omega)
  have h2:eK n (fun i j=>M i (swp p j))=eK n M:=by
   refine nC n (fun i j hi hj=>?_)
   unfold swp
   by_cases e:j=p
   ·subst e;rw [if_pos rfl];exact (h i hi).symm
   ·rw [if_neg e]
    by_cases e2:j=p+1
    ·subst e2;rw [if_pos rfl];exact h i hi
    ·rw [if_neg e2]
  rw [h2] at h1;grind
 |d+1,p,M,hq,h=>by
  have h1:=AX n M (p+d+1) (by omega)
  have h2:=KE n d p (fun i j=>M i (swp (p+d+1) j)) (by omega) (fun i hi=>by
   have e1:swp (p+d+1) p=p:=by unfold swp;rw [if_neg (by omega),if_neg (by omega)]
   have e2:swp (p+d+1) (p+d+1)=p+(d+1)+1:=by unfold swp;rw [if_pos rfl];omega
   show M i (swp (p+d+1) p)=M i (swp (p+d+1) (p+d+1))
   rw [e1,e2];exact h i hi)
  rw [h2] at h1;grind
theorem PJ {n p q:Nat} {M:Nat->Nat->Rat} (hp:p<n) (hq:q<n) (hne:p≠q) (h:∀i,i<n->M i p=M i q):eK n M=0:=by
 rcases Nat.lt_or_gt_of_ne hne with hl|hl
 ·refine KE n (q - p - 1) p M (by omega) (fun i hi=>?_)
  have:p+(q - p - 1)+1=q:=by omega
  rw [this];exact h i hi
 ·refine KE n (p - q - 1) q M (by omega) (fun i hi=>?_)
  have:q+(p - q - 1)+1=p:=by omega
  rw [this];exact (h i hi).symm
theorem upd_same (M:Nat->Nat->Rat) (c:Nat):upd M c (fun i=>M i c)=M:=by
 funext i j;unfold upd;split
 ·next h=>rw [h]
 ·rfl
theorem Cp {n:Nat} (M:Nat->Nat->Rat) {c:Nat} (hc:c<n):eK n (upd M c (fun _=>0))=0:=by
 have h:=DV n M c hc 0 0 (fun _=>0) (fun _=>0)
 have e:(fun i:Nat=>(0:Rat)*(fun _=>0:Nat->Rat) i+0*(fun _=>0:Nat->Rat) i)=fun _=>0:=by funext i;grind
 rw [e] at h;rw [h];grind
theorem b2z {n:Nat} (M:Nat->Nat->Rat) {c:Nat} (hc:c<n) (x:Nat->Rat) (v:Nat->Nat->Rat) (l:Nat):
 eK n (upd M c (fun i=>S l (fun r=>x r*v r i)))=S l (fun r=>x r*eK n (upd M c (v r))):=by
 induction l with
 |zero=>simp only [S];exact Cp M hc
 |succ l ih=>
  have h:=DV n M c hc 1 (x l) (fun i=>S l (fun r=>x r*v r i)) (v l)
  have e:(fun i:Nat=>(1:Rat)*(fun i=>S l (fun r=>x r*v r i)) i+x l*v l i)=fun i=>S (l+1) (fun r=>x r*v r i):=by
   funext i;simp only [S];grind
  rw [e,ih] at h;rw [h];simp only [S];grind
theorem XW {n:Nat} {M:Nat->Nat->Rat} {x a:Nat->Rat} (h:∀i,i<n->a i=S n (fun r=>x r*M i r)) {c:Nat} (hc:c<n):eK n (upd M c a)=x c*eK n M:=by
 have h1:eK n (upd M c a)=eK n (upd M c (fun i=>S n (fun r=>x r*(fun r i=>M i r) r i))):=by
  refine nC n (fun i j hi _=>?_)
  unfold upd;split
  ·exact h i hi
  ·rfl
 rw [h1,b2z M hc x (fun r i=>M i r) n]
 rw [<-gl hc (fun r=>x r*eK n M)]
 refine dR (fun r hr=>?_)
 by_cases e:r=c
 ·subst e;rw [if_pos rfl,upd_same]
 ·rw [if_neg e,PJ (p:=c) (q:=r) hc hr (fun h=>e h.symm) (fun i _=>?_)]
  ·grind
  ·unfold upd;rw [if_pos rfl,if_neg e]
theorem FQ:∀(n:Nat) (M:Nat->Nat->Rat),(∀i,i<n->M i n=0)->M n n=1->eK (n+1) M=eK n M
 |0,M,_,h1=>by simp only [eK,S,kL];rw [h1];grind
 |n+1,M,h0,h1=>by
  have:eK (n+1+1) M=S (n+1+1) (fun j=>kL j*M 0 j*eK (n+1) (minor M j)):=rfl
  rw [this]
  have e:S (n+1+1) (fun j=>kL j*M 0 j*eK (n+1) (minor M j))=S (n+1) (fun j=>kL j*M 0 j*eK (n+1) (minor M j))+kL (n+1)*M 0 (n+1)*eK (n+1) (minor M (n+1)):=rfl
  rw [e,h0 0 (by omega)]
  have e2:eK (n+1) M=S (n+1) (fun j=>kL j*M 0 j*eK n (minor M j)):=rfl
  rw [e2]
  have:S (n+1) (fun j=>kL j*M 0 j*eK (n+1) (minor M j))=S (n+1) (fun j=>kL j*M 0 j*eK n (minor M j)):=by
   refine dR (fun j hj=>?_)
   rw [FQ n (minor M j) (fun i hi=>by unfold minor;rw [if_neg (by omega)];exact h0 _ (by omega)) (by unfold minor;rw [if_neg (by omega)];exact h1)]
  rw [this];grind
theorem TA:∀(n:Nat) (M:Nat->Nat->Rat),(∀i j,i<n->j<n->M i j=if i=j then 1 else 0)->eK n M=1
 |0,_,_=>rfl
 |n+1,M,h=>by
  rw [FQ n M (fun i hi=>by rw [h i n (by omega) (by omega),if_neg (by omega)]) (by rw [h n n (by omega) (by omega),if_pos rfl])]
  exact TA n M (fun i j hi hj=>h i j (by omega) (by omega))
def Bd (b:Nat) (q:Rat):Prop:=∃z:Int,q=(z:Rat)/\z.natAbs<=b
theorem Bd.add {a b:Nat} {p q:Rat} (h:Bd a p) (h':Bd b q):Bd (a+b) (p+q):=by
 obtain ⟨x,rfl,hx⟩:=h
 obtain ⟨y,rfl,hy⟩:=h'
 exact ⟨x+y,by rw [Rat.intCast_add],by omega⟩
theorem Bd.zero (b:Nat):Bd b 0:=⟨0,rfl,by simp⟩
theorem Bd.neg {b:Nat} {q:Rat} (h:Bd b q):Bd b (-q):=by
 obtain ⟨x,rfl,hx⟩:=h
 exact ⟨-x,by rw [Rat.intCast_neg],by omega⟩
theorem Bd.sum {b n:Nat} {f:Nat->Rat} (h:∀j,j<n->Bd b (f j)):Bd (n*b) (S n f):=by
 induction n with
 |zero=>simp only [S];exact Bd.zero _
 |succ n ih=>
  have:=(ih (fun j hj=>h j (by omega))).add (h n (by omega))
  simp only [S]
  rw [Nat.succ_mul];exact this
def Sg (x:Rat):Prop:=x=1∨x= -1
theorem Sg.mul {x y:Rat} (h:Sg x) (h':Sg y):Sg (x*y):=by
 unfold Sg at*;rcases h with h|h<;>rcases h' with h'|h'<;>rw [h,h']<;>grind
theorem PK:∀n,Sg (kL n)
 |0=> .inl rfl
 |n+1=>by
  have:=PK n
  unfold Sg at*;simp only [kL];grind
theorem Bd.sg {b:Nat} {q x:Rat} (hx:Sg x) (h:Bd b q):Bd b (x*q):=by
 rcases hx with hx|hx
 ·rw [hx];have:1*q=q:=by grind
  rw [this];exact h
 ·rw [hx];have: -1*q= -q:=by grind
  rw [this];exact h.neg
def Ik (n:Nat) (M:Nat->Nat->Rat):Prop:=∃σ τ:Nat->Rat,(∀j,Sg (σ j))/\(∀i,Sg (τ i))/\∀i j,i<n->j<n->M i j=0∨M i j=σ j*τ i
theorem Ik.minor {n:Nat} {M:Nat->Nat->Rat} (h:Ik (n+1) M) (j:Nat):Ik n (minor M j):=by
 obtain ⟨σ,τ,h1,h2,h3⟩:=h
 refine ⟨fun k=>σ (if k<j then k else k+1),fun i=>τ (i+1),fun k=>h1 _,fun i=>h2 _,fun i k hi hk=>?_⟩
 exact h3 (i+1) _ (by omega) (by split<;>omega)
def Cq:Nat->Nat
 |0=>1
 |1=>1
 |2=>2
 |3=>2
 |n+4=>(n+4)*Cq (n+3)
def ua (b:Bool):Int:=if b then 1 else 0
def d3 (a b c d e f g h i:Bool):Int:=ua a*(ua e*ua i - ua f*ua h)- ua b*(ua d*ua i - ua f*ua g)+ua c*(ua d*ua h - ua e*ua g)
theorem b2A:∀a b c d e f g h i:Bool,(d3 a b c d e f g h i).natAbs<=2:=by decide
theorem entry {x s:Rat} (h:x=0∨x=s):∃b:Bool,x=s*((ua b:Int):Rat):=by
 rcases h with h|h
 ·exact ⟨false,by rw [h];simp [ua]⟩
 ·exact ⟨true,by rw [h];simp [ua]⟩
theorem b6H {M:Nat->Nat->Rat} (h:Ik 3 M):Bd 2 (eK 3 M):=by
 obtain ⟨σ,τ,h1,h2,h3⟩:=h
 obtain ⟨a,ea⟩:=entry (h3 0 0 (by omega) (by omega))
 obtain ⟨b,eb⟩:=entry (h3 0 1 (by omega) (by omega))
 obtain ⟨c,ec⟩:=entry (h3 0 2 (by omega) (by omega))
 obtain ⟨d,ed⟩:=entry (h3 1 0 (by omega) (by omega))
 obtain ⟨e,ee⟩:=entry (h3 1 1 (by omega) (by omega))
 obtain ⟨f,ef⟩:=entry (h3 1 2 (by omega) (by omega))
 obtain ⟨g,eg⟩:=entry (h3 2 0 (by omega) (by omega))
 obtain ⟨h,eh⟩:=entry (h3 2 1 (by omega) (by omega))
 obtain ⟨i,ei⟩:=entry (h3 2 2 (by omega) (by omega))
 have hd:eK 3 M=(σ 0*σ 1*σ 2*(τ 0*τ 1*τ 2))*((d3 a b c d e f g h i:Int):Rat):=by
  simp only [eK,S,kL,minor]
  simp only [Nat.lt_irrefl,if_false,if_true,Nat.zero_add,Nat.lt_add_one,show ¬(1<0) by omega,show (0<2) by omega,show (1<2) by omega,Nat.reduceAdd]
  rw [ea,eb,ec,ed,ee,ef,eg,eh,ei]
  unfold d3
  simp only [Rat.intCast_sub,Rat.intCast_add,Rat.intCast_mul]
  grind
 rw [hd]
 exact Bd.sg (((h1 0).mul (h1 1)).mul (h1 2)|>.mul (((h2 0).mul (h2 1)).mul (h2 2))) ⟨_,rfl,b2A _ _ _ _ _ _ _ _ _⟩
theorem AY {n b:Nat} {M:Nat->Nat->Rat} (h:Ik (n+1) M) (ih:∀j,j<n+1->Bd b (eK n (minor M j))):Bd ((n+1)*b) (eK (n+1) M):=by
 obtain ⟨σ,τ,h1,h2,h3⟩:=h
 simp only [eK]
 refine Bd.sum (fun j hj=>?_)
 rcases h3 0 j (by omega) hj with e|e
 ·rw [e];have:kL j*0*eK n (minor M j)=0:=by grind
  rw [this];exact Bd.zero _
 ·rw [e];exact Bd.sg ((PK j).mul ((h1 j).mul (h2 0))) (ih j hj)
theorem Il:∀(n:Nat) {M:Nat->Nat->Rat},Ik n M->Bd (Cq n) (eK n M)
 |0,_,_=>⟨1,rfl,by simp [Cq]⟩
 |1,M,h=>by
  have:=AY (n:=0) (b:=1) h (fun j _=>⟨1,rfl,by simp⟩)
  simpa [Cq] using this
 |2,M,h=>by
  have:=AY (n:=1) (b:=1) h (fun j _=>by
   have:=AY (n:=0) (b:=1) (h.minor j) (fun j _=>⟨1,rfl,by simp⟩)
   simpa using this)
  simpa [Cq] using this
 |3,M,h=>b6H h
 |n+4,M,h=>AY (n:=n+3) h (fun j _=>Il (n+3) (h.minor j))
end Go.Proofs.Ytkckdphjhlbdcaa.Lp
set_option linter.unusedVariables false
set_option linter.unusedSimpArgs false
namespace Go.Proofs.Ytkckdphjhlbdcaa.Lp
def yt (m N K:Nat) (t0 t:bA):Prop:=∀i,i<m+K->∀j,j<=N->t0.cell i j=S m (fun r=>t.cell r j*t0.cell i (t.basis r))+(if i<m then 0 else t.cell i j)
theorem yt.pivot {m N K:Nat} {t0 t:bA} (h:yt m N K t0 t) {r c:Nat} (hr:r<m) (hc:c<N) (hp:t.cell r c≠0):yt m N K t0 (t.pivot r c):=by
 intro i hi j hj
 have hj':=h i hi j hj
 have hc':=h i hi c (by omega)
 have e:S m (fun r'=>(t.pivot r c).cell r' j*t0.cell i ((t.pivot r c).basis r'))
  =S m (fun r'=>t.cell r' j*t0.cell i (t.basis r'))-(t.cell r j/t.cell r c)*S m (fun r'=>t.cell r' c*t0.cell i (t.basis r'))+(t.cell r j/t.cell r c)*t0.cell i c:=by
  rw [<-oq,<-VO]
  have e2:(t.cell r j/t.cell r c)*t0.cell i c=S m (fun r'=>if r'=r then (t.cell r j/t.cell r c)*t0.cell i c else 0):=
   (gl hr (fun _=>(t.cell r j/t.cell r c)*t0.cell i c)).symm
  rw [e2,<-AU]
  refine dR (fun r' hr'=>?_)
  simp only [bA.pivot]
  by_cases e:r'=r
  ·subst e;simp only [if_true];grind
  ·simp only [if_neg e];grind
 rw [e]
 by_cases hm:i<m
 ·rw [if_pos hm] at hj' hc'⊢;grind
 ·rw [if_neg hm] at hj' hc'⊢
  have:(t.pivot r c).cell i j=t.cell i j - t.cell i c*(t.cell r j/t.cell r c):=if_neg (by omega)
  rw [this];grind
def bA.D (t0 t:bA) (m:Nat):Rat:=eK m (fun i r=>t0.cell i (t.basis r))
theorem yt.FR {m N K:Nat} {t0 t:bA} (h:yt m N K t0 t) {r j:Nat} (hr:r<m) (hj:j<=N):
 t.cell r j*t0.D t m=eK m (upd (fun i r=>t0.cell i (t.basis r)) r (fun i=>t0.cell i j)):=by
 unfold bA.D
 rw [XW (x:=fun r=>t.cell r j) (fun i hi=>by rw [h i (by omega) j hj,if_pos hi];grind) hr]
theorem KF {m N K:Nat} {t0 t:bA} (h:yt m N K t0 t) {r c:Nat} (hr:r<m) (hc:c<N):t0.D (t.pivot r c) m=t.cell r c*t0.D t m:=by
 rw [h.FR hr (by omega)]
 unfold bA.D
 refine nC m (fun i j _ _=>?_)
 unfold upd bA.pivot
 show t0.cell i (if j=r then c else t.basis j)=_
 split<;>rfl
def ot (m:Nat) (t0 t:bA) (k:Nat) (v:Nat->Rat) (i r:Nat):Rat:=if r<m then (if i<m then t0.cell i (t.basis r) else t0.cell (m+k) (t.basis r)) else v i
theorem yt.PL {m N K:Nat} {t0 t:bA} (h:yt m N K t0 t) {k j:Nat} (hk:k<K) (hj:j<=N):
 t.cell (m+k) j*t0.D t m=eK (m+1) (ot m t0 t k (fun i=>if i<m then t0.cell i j else t0.cell (m+k) j)):=by
 have e0:eK (m+1) (ot m t0 t k (fun i=>if i=m then 1 else 0))=t0.D t m:=by
  rw [FQ m _ (fun i hi=>by unfold ot;rw [if_neg (by omega)];exact if_neg (by omega)) (by unfold ot;rw [if_neg (by omega)];exact if_pos rfl)]
  unfold bA.D
  exact nC m (fun i r hi hr=>by unfold ot;rw [if_pos hr,if_pos hi])
 have hcr:=XW (n:=m+1) (M:=ot m t0 t k (fun i=>if i=m then 1 else 0)) (x:=fun r=>if r<m then t.cell r j else t.cell (m+k) j)
  (a:=fun i=>if i<m then t0.cell i j else t0.cell (m+k) j) (fun i hi=>by
    show _=S m _+_
    have:S m (fun r=>(if r<m then t.cell r j else t.cell (m+k) j)*ot m t0 t k (fun i=>if i=m then 1 else 0) i r)
     =S m (fun r=>t.cell r j*(if i<m then t0.cell i (t.basis r) else t0.cell (m+k) (t.basis r))):=
     dR (fun r hr=>by unfold ot;rw [if_pos hr,if_pos hr])
    rw [this]
    show _=_+(if m<m then t.cell m j else t.cell (m+k) j)*ot m t0 t k (fun i=>if i=m then 1 else 0) i m
    have e2:ot m t0 t k (fun i=>if i=m then 1 else 0) i m=if i=m then 1 else 0:=by unfold ot;rw [if_neg (by omega)]
    rw [e2,if_neg (show ¬m<m by omega)]
    by_cases hm:i<m
    ·rw [if_pos hm,if_neg (show ¬i=m by omega),h i (by omega) j hj,if_pos hm]
     simp only [if_pos hm];grind
    ·have:i=m:=by omega
     subst this
     rw [if_neg hm,if_pos rfl,h (i+k) (by omega) j hj,if_neg (show ¬i+k<i by omega)]
     simp only [if_neg hm];grind) (c:=m) (by omega)
 rw [e0] at hcr
 simp only [if_neg (show ¬m<m by omega)] at hcr
 rw [<-hcr]
 refine nC (m+1) (fun i r hi hr=>?_)
 unfold upd ot
 by_cases hm:r<m
 ·rw [if_neg (by omega),if_pos hm,if_pos hm]
 ·rw [if_pos (by omega),if_neg hm]
def uR (m N K:Nat) (t0:bA):Prop:=∃σ τ:Nat->Rat,(∀j,Sg (σ j))/\(∀i,Sg (τ i))/\∀i j,i<m+K->j<=N->t0.cell i j=0∨t0.cell i j=σ j*τ i
theorem b2B {m N K:Nat} {t0 t:bA} (hs:uR m N K t0) (hB:∀r,r<m->t.basis r<N):Ik m (fun i r=>t0.cell i (t.basis r)):=by
 obtain ⟨σ,τ,h1,h2,h3⟩:=hs
 exact ⟨fun r=>σ (t.basis r),τ,fun r=>h1 _,h2,fun i r hi hr=>h3 i _ (by omega) (by have:=hB r hr;omega)⟩
theorem a1w {m N K:Nat} {t0 t:bA} (hs:uR m N K t0) (hB:∀r,r<m->t.basis r<N) (r:Nat) {j:Nat} (hj:j<=N):Ik m (upd (fun i r=>t0.cell i (t.basis r)) r (fun i=>t0.cell i j)):=by
 obtain ⟨σ,τ,h1,h2,h3⟩:=hs
 refine ⟨fun q=>if q=r then σ j else σ (t.basis q),τ,fun q=>by show Sg (if _ then _ else _);split<;>exact h1 _,h2,fun i q hi hq=>?_⟩
 unfold upd
 by_cases e:q=r
 ·simp only [if_pos e];exact h3 i j (by omega) hj
 ·simp only [if_neg e];exact h3 i _ (by omega) (by have:=hB q hq;omega)
theorem a1x {m N K:Nat} {t0 t:bA} (hs:uR m N K t0) (hB:∀r,r<m->t.basis r<N) {k j:Nat} (hk:k<K) (hj:j<=N):
 Ik (m+1) (ot m t0 t k (fun i=>if i<m then t0.cell i j else t0.cell (m+k) j)):=by
 obtain ⟨σ,τ,h1,h2,h3⟩:=hs
 refine ⟨fun r=>if r<m then σ (t.basis r) else σ j,fun i=>if i<m then τ i else τ (m+k),fun q=>by show Sg (if _ then _ else _);split<;>exact h1 _,
  fun q=>by show Sg (if _ then _ else _);split<;>exact h2 _,fun i r hi hr=>?_⟩
 unfold ot
 by_cases e:r<m
 ·simp only [if_pos e]
  have:=hB r e
  by_cases f:i<m
  ·simp only [if_pos f];exact h3 i _ (by omega) (by omega)
  ·simp only [if_neg f];exact h3 _ _ (by omega) (by omega)
 ·simp only [if_neg e]
  by_cases f:i<m
  ·simp only [if_pos f];exact h3 i _ (by omega) (by omega)
  ·simp only [if_neg f];exact h3 _ _ (by omega) (by omega)
structure Small (m N K:Nat) (t0 t:bA) (d:Int):Prop where
 ne:d≠0
 den:d.natAbs<=Cq m
 row:∀r,r<m->∀j,j<=N->∃a:Int,t.cell r j*(d:Rat)=(a:Rat)/\a.natAbs<=Cq m
 cost:∀k,k<K->∀j,j<=N->∃a:Int,t.cell (m+k) j*(d:Rat)=(a:Rat)/\a.natAbs<=Cq (m+1)
theorem small {m N K:Nat} {t0 t:bA} (hs:uR m N K t0) (hB:∀r,r<m->t.basis r<N) (h:yt m N K t0 t) (hD:t0.D t m≠0):∃d:Int,(d:Rat)=t0.D t m/\Small m N K t0 t d:=by
 obtain ⟨d,hd,hdb⟩:=Il m (b2B hs hB)
 have hd':t0.D t m=(d:Rat):=hd
 refine ⟨d,hd'.symm,⟨?_,hdb,?_,?_⟩⟩
 ·intro e;apply hD;rw [hd',e];rfl
 ·intro r hr j hj
  obtain ⟨a,ha,hab⟩:=Il m (a1w hs hB r hj)
  exact ⟨a,by rw [<-hd',h.FR hr hj];exact ha,hab⟩
 ·intro k hk j hj
  obtain ⟨a,ha,hab⟩:=Il (m+1) (a1x hs hB hk hj)
  exact ⟨a,by rw [<-hd',h.PL hk hj];exact ha,hab⟩
end Go.Proofs.Ytkckdphjhlbdcaa.Lp
set_option linter.unusedVariables false
set_option linter.unusedSimpArgs false
namespace Go.Proofs.Ytkckdphjhlbdcaa.Lp
def init (n m:Nat) (A:Nat->Nat->Rat) (right:Nat->Rat) (s:Rat):bA where
 cell i j:=if i<m then (if j<n then A i j else if j=n+m then right i else if j=n+i then 1 else 0)
  else if i=m then (if j<n then s else 0) else (if j<n/\j+(m+1)=i then 1 else 0)
 basis i:=n+i
def ext (n:Nat) (A:Nat->Nat->Rat) (right:Nat->Rat) (x:Nat->Rat) (j:Nat):Rat:=if j<n then x j else right (j - n)- S n (fun c=>A (j - n) c*x c)
section
variable {n m:Nat} {A:Nat->Nat->Rat} {right:Nat->Rat} {s:Rat}
theorem pF (h:Rat) (x:Nat->Rat) {i:Nat} (hi:i<m):(init n m A right s).F (n+m) h x i=S n (fun j=>A i j*x j)+x (n+i)- right i*h:=by
 unfold bA.F
 rw [zC]
 have e1:S n (fun j=>(init n m A right s).cell i j*x j)=S n (fun j=>A i j*x j):=dR (fun j hj=>by simp only [init];rw [if_pos hi,if_pos hj])
 have e2:S m (fun q=>(init n m A right s).cell i (n+q)*x (n+q))=S m (fun q=>if q=i then x (n+q) else 0):=dR (fun q hq=>by
  simp only [init];rw [if_pos hi,if_neg (by omega),if_neg (by omega)]
  by_cases e:q=i
  ·rw [if_pos (by omega),if_pos e];grind
  ·rw [if_neg (by omega),if_neg e];grind)
 have e3:(init n m A right s).cell i (n+m)=right i:=by simp only [init];rw [if_pos hi,if_neg (by omega)];simp
 rw [e1,e2,e3,gl hi (fun q=>x (n+q))]
theorem AZ (h:Rat) (x:Nat->Rat):(init n m A right s).F (n+m) h x (m+0)=s*S n x:=by
 unfold bA.F
 rw [zC]
 have e1:S n (fun j=>(init n m A right s).cell (m+0) j*x j)=S n (fun j=>s*x j):=dR (fun j hj=>by simp only [init];rw [if_neg (by omega),if_pos (by omega),if_pos hj])
 have e2:S m (fun q=>(init n m A right s).cell (m+0) (n+q)*x (n+q))=0:=jy (fun q hq=>by
  simp only [init];rw [if_neg (by omega),if_pos (by omega),if_neg (by omega)];grind)
 have e3:(init n m A right s).cell (m+0) (n+m)=0:=by simp only [init];rw [if_neg (by omega),if_pos (by omega),if_neg (by omega)]
 rw [e1,e2,e3,oq];grind
theorem MZ (h:Rat) (x:Nat->Rat) {k:Nat} (hk:k<n):(init n m A right s).F (n+m) h x (m+(k+1))=x k:=by
 unfold bA.F
 rw [zC]
 have e1:S n (fun j=>(init n m A right s).cell (m+(k+1)) j*x j)=S n (fun j=>if j=k then x j else 0):=dR (fun j hj=>by
  simp only [init];rw [if_neg (by omega),if_neg (by omega)]
  by_cases e:j=k
  ·rw [if_pos (by omega),if_pos e];grind
  ·rw [if_neg (by omega),if_neg e];grind)
 have e2:S m (fun q=>(init n m A right s).cell (m+(k+1)) (n+q)*x (n+q))=0:=jy (fun q hq=>by
  simp only [init];rw [if_neg (by omega),if_neg (by omega),if_neg (by omega)];grind)
 have e3:(init n m A right s).cell (m+(k+1)) (n+m)=0:=by simp only [init];rw [if_neg (by omega),if_neg (by omega),if_neg (by omega)]
 rw [e1,e2,e3,gl hk x];grind
theorem tB:Valid m (n+m) (n+1) (init n m A right s) (init n m A right s):=by
 refine ⟨fun r hr=>by simp only [init];omega,fun r hr i hi=>?_,fun _ _=>Iff.rfl,fun _ _ _ _ _=>rfl⟩
 simp only [init]
 by_cases h:i<m
 ·rw [if_pos h,if_neg (by omega),if_neg (by omega)]
  by_cases e:i=r
  ·rw [if_pos (by omega),if_pos e]
  ·rw [if_neg (by omega),if_neg e]
 ·rw [if_neg h,if_neg (show ¬i=r by omega)]
  by_cases e:i=m
  ·rw [if_pos e,if_neg (by omega)]
  ·rw [if_neg e,if_neg (by omega)]
theorem FT:yt m (n+m) (n+1) (init n m A right s) (init n m A right s):=by
 intro i hi j hj
 have v:=tB (n:=n) (m:=m) (A:=A) (right:=right) (s:=s)
 have e:S m (fun r=>(init n m A right s).cell r j*(init n m A right s).cell i ((init n m A right s).basis r))=S m (fun r=>if r=i then (init n m A right s).cell r j else 0):=by
  refine dR (fun r hr=>?_)
  rw [v.unit r hr i hi]
  by_cases e:i=r
  ·rw [if_pos e,if_pos e.symm];grind
  ·rw [if_neg e,if_neg (fun h=>e h.symm)];grind
 rw [e]
 by_cases h:i<m
 ·rw [if_pos h,gl h (fun r=>(init n m A right s).cell r j)];grind
 ·rw [if_neg h,jy (fun r hr=>if_neg (by omega))];grind
theorem PM:(init n m A right s).D (init n m A right s) m=1:=by
 unfold bA.D
 exact TA m _ (fun i j hi hj=>tB.unit j hj i (by omega))
theorem VT:OE m (n+m) (n+1) (init n m A right s):=by
 intro d h1 h2 j hj
 have hst:∀j,j<n->d j=0:=fun j hj=>by
  have:=h2 (j+1) (by omega);rwa [MZ 0 d hj] at this
 by_cases h:j<n
 ·exact hst j h
 ·have:=h1 (j - n) (by omega)
  rw [pF 0 d (by omega),jy (fun c hc=>by rw [hst c hc];grind)] at this
  have e:n+(j - n)=j:=by omega
  rw [e] at this;grind
theorem Ba {a ρ:Rat} (ha:Sg a) (hρ:Sg ρ) (hA:∀i j,i<m->j<n->A i j=0∨A i j=a) (hr:∀i,i<m->right i=0∨right i=ρ) (hs:Sg s):
 uR m (n+m) (n+1) (init n m A right s):=by
 refine ⟨fun j=>if j<n then a else if j=n+m then ρ else 1,fun i=>if i<m then 1 else if i=m then s*a else a,fun j=>?_,fun i=>?_,fun i j hi hj=>?_⟩
 ·show Sg (if _ then _ else if _ then _ else _)
  (repeat' split)<;>first|exact ha|exact hρ|exact .inl rfl
 ·show Sg (if _ then _ else if _ then _ else _)
  (repeat' split)<;>first|exact .inl rfl|exact hs.mul ha|exact ha
 ·have haa:a*a=1:=by rcases ha with h|h<;>rw [h]<;>grind
  simp only [init]
  by_cases h1:i<m
  ·simp only [if_pos h1]
   by_cases h2:j<n
   ·simp only [if_pos h2]
    rcases hA i j h1 h2 with h|h
    ·exact .inl h
    ·exact .inr (by rw [h];grind)
   ·simp only [if_neg h2]
    by_cases h3:j=n+m
    ·simp only [if_pos h3]
     rcases hr i h1 with h|h
     ·exact .inl h
     ·exact .inr (by rw [h];grind)
    ·simp only [if_neg h3]
     split
     ·exact .inr (by grind)
     ·exact .inl rfl
  ·simp only [if_neg h1]
   by_cases h2:i=m
   ·simp only [if_pos h2]
    by_cases h3:j<n
    ·simp only [if_pos h3];exact .inr (by grind)
    ·simp only [if_neg h3];exact .inl trivial
   ·simp only [if_neg h2]
    by_cases h3:j<n
    ·simp only [if_pos h3]
     split
     ·exact .inr haa.symm
     ·exact .inl rfl
    ·rw [if_neg (by omega)];simp
def Cr (n m:Nat) (A:Nat->Nat->Rat) (right:Nat->Rat) (x:Nat->Rat):Prop:=(∀j,j<n->0<=x j)/\∀i,i<m->S n (fun j=>A i j*x j)<=right i
def gm (n:Nat) (s:Rat) (x:Nat->Rat) (k:Nat):Rat:=if k=0 then s*S n x else x (k - 1)
def PN (n m:Nat) (A:Nat->Nat->Rat) (right:Nat->Rat) (s:Rat) (x:Nat->Rat):Prop:=
 Cr n m A right x/\∀y,Cr n m A right y->¬fk (n+1) (fun k=>gm n s y k - gm n s x k)
theorem VU {x:Nat->Rat} {i:Nat} (hi:i<m):(init n m A right s).F (n+m) 1 (ext n A right x) i=0:=by
 rw [pF 1 _ hi]
 have e1:S n (fun j=>A i j*ext n A right x j)=S n (fun j=>A i j*x j):=dR (fun j hj=>by unfold ext;rw [if_pos hj])
 have e2:ext n A right x (n+i)=right i - S n (fun c=>A i c*x c):=by
  unfold ext;rw [if_neg (by omega)]
  have:n+i - n=i:=by omega
  rw [this]
 rw [e1,e2];grind
theorem Im {x:Nat->Rat} (h:Cr n m A right x):∀j,j<n+m->0<=ext n A right x j:=by
 intro j hj
 unfold ext
 split
 ·next h1=>exact h.1 j h1
 ·have:=h.2 (j - n) (by omega);grind
theorem Cs (x:Nat->Rat) {k:Nat} (hk:k<n+1):(init n m A right s).F (n+m) 1 x (m+k)=gm n s x k:=by
 unfold gm
 by_cases h:k=0
 ·subst h;rw [if_pos rfl];exact AZ 1 x
 ·rw [if_neg h]
  have e:k=(k - 1)+1:=by omega
  rw [e,MZ 1 x (by omega)];rfl
theorem tC {x y:Nat->Rat} (h:∀j,j<n->x j=y j) {k:Nat} (hk:k<n+1):gm n s x k=gm n s y k:=by
 unfold gm
 split
 ·rw [dR h]
 ·exact h _ (by omega)
theorem VV {x y:Nat->Rat} (h:∀j,j<n->x j=y j) (hx:Cr n m A right x):Cr n m A right y:=
 ⟨fun j hj=>h j hj ▸ hx.1 j hj,fun i hi=>by
  have:=hx.2 i hi
  rwa [dR (g:=fun j=>A i j*y j) (fun j hj=>by rw [h j hj])] at this⟩
theorem TB {t:bA} (v:Valid m (n+m) (n+1) (init n m A right s) t) (hc:∀j,j<n+m->¬fk (n+1) (t.cost m j)) (hr:∀r,r<m->0<=t.cell r (n+m)):
 PN n m A right s (t.X m (n+m)):=by
 have hX:∀j,0<=t.X m (n+m) j:=fun j=>pz (fun r hr'=>by
  split
  ·exact hr r hr'
  ·grind)
 have hF:∀i,i<m->(init n m A right s).F (n+m) 1 (t.X m (n+m)) i=0:=(v.tZ 1 _).2 (fun i hi=>v.MW hi)
 refine ⟨⟨fun j _=>hX j,fun i hi=>?_⟩,fun y hy=>?_⟩
 ·have:=hF i hi
  rw [pF 1 _ hi] at this
  have:=hX (n+i);grind
 ·refine NN.congr (opt v hc (Im hy) (fun i hi=>VU hi)) (fun k hk=>?_)
  rw [Cs _ hk,Cs _ hk]
  rw [tC (x:=ext n A right y) (y:=y) (fun j hj=>by unfold ext;rw [if_pos hj]) hk]
theorem Na {t:bA} (v:Valid m (n+m) (n+1) (init n m A right s) t) {y:Nat->Rat} (h1:∀j,j<n->¬jz m t j->y j=0) (h2:∀i,i<m->¬jz m t (n+i)->S n (fun j=>A i j*y j)=right i):
 ∀j,j<n->y j=t.X m (n+m) j:=by
 have hz:∀j,j<n+m->(∀r,r<m->t.basis r≠j)->ext n A right y j=0:=by
  intro j hj hb
  unfold ext
  by_cases h:j<n
  ·rw [if_pos h];exact h1 j h (fun ⟨r,hr,e⟩=>hb r hr e)
  ·rw [if_neg h]
   have e:n+(j - n)=j:=by omega
   have:=h2 (j - n) (by omega) (fun ⟨r,hr,e2⟩=>hb r hr (e2.trans e))
   rw [this];grind
 have hs:∀i,i<m->t.F (n+m) 1 (ext n A right y) i=0:=(v.tZ 1 _).1 (fun i hi=>VU hi)
 intro j hj
 have e:y j=ext n A right y j:=by unfold ext;rw [if_pos hj]
 by_cases hb:jz m t j
 ·obtain ⟨r,hr,rfl⟩:=hb
  rw [e,yY v hz hs hr,Cl v hr];grind
 ·rw [AV (fun r hr e2=>hb ⟨r,hr,e2⟩)]
  exact h1 j hj hb
theorem FU {t:bA} (v:Valid m (n+m) (n+1) (init n m A right s) t):(∀j,j<n->¬jz m t j->t.X m (n+m) j=0)/\(∀i,i<m->¬jz m t (n+i)->S n (fun j=>A i j*t.X m (n+m) j)=right i):=by
 refine ⟨fun j _ hb=>AV (fun r hr e=>hb ⟨r,hr,e⟩),fun i hi hb=>?_⟩
 have hF:=(v.tZ 1 (t.X m (n+m))).2 (fun i hi=>v.MW hi) i hi
 rw [pF 1 _ hi,AV (j:=n+i) (fun r hr e=>hb ⟨r,hr,e⟩)] at hF
 grind
end
end Go.Proofs.Ytkckdphjhlbdcaa.Lp
set_option linter.unusedVariables false
set_option linter.unusedSimpArgs false
namespace Go.Proofs.Ytkckdphjhlbdcaa.Num
theorem PO (a b:Int):Int.gcd b (a.tmod b)=Int.gcd a b:=by
 unfold Int.gcd
 rw [Int.natAbs_tmod,Nat.gcd_comm a.natAbs,Nat.gcd_rec b.natAbs a.natAbs,Nat.gcd_comm]
def nc (n d:Int):Int:=if d<0 then -(n/(Int.gcd n d:Int)) else n/(Int.gcd n d:Int)
def lQ (n d:Int):Int:=if d<0 then -(d/(Int.gcd n d:Int)) else d/(Int.gcd n d:Int)
theorem um {n d:Int} (h:d≠0):0<(Int.gcd n d:Int):=by
 have:=Int.gcd_pos_of_ne_zero_right n h
 omega
theorem wE (n d:Int):Int.tdiv n (Int.gcd n d:Int)=n/(Int.gcd n d:Int):=
 Int.tdiv_eq_ediv_of_dvd (Int.gcd_dvd_left n d)
theorem uo (n d:Int):Int.tdiv d (Int.gcd n d:Int)=d/(Int.gcd n d:Int):=
 Int.tdiv_eq_ediv_of_dvd (Int.gcd_dvd_right n d)
theorem wO (n d:Int):Int.tdiv n (-(Int.gcd n d:Int))= -(n/(Int.gcd n d:Int)):=by
 rw [Int.tdiv_neg,wE]
theorem vD (n d:Int):Int.tdiv d (-(Int.gcd n d:Int))= -(d/(Int.gcd n d:Int)):=by
 rw [Int.tdiv_neg,uo]
theorem EO {n d:Int} (h:d≠0):Int.gcd (n/(Int.gcd n d:Int)) (d/(Int.gcd n d:Int))=1:=by
 rw [Int.gcd_ediv (Int.gcd_dvd_left n d) (Int.gcd_dvd_right n d)]
 have:=um (n:=n) h
 simp only [Int.natAbs_natCast]
 exact Nat.div_self (by omega)
theorem PR {n d:Int} (h:d≠0):Int.gcd (nc n d) (lQ n d)=1:=by
 unfold nc lQ
 split
 ·rw [Int.gcd_neg,Int.neg_gcd];exact EO h
 ·exact EO h
theorem XX {n d:Int} (h:d≠0):0<lQ n d:=by
 have hg:=um (n:=n) h
 have hd:=Int.ediv_mul_cancel (Int.gcd_dvd_right n d)
 unfold lQ
 generalize (Int.gcd n d:Int)=g at*
 generalize d/g=q at*
 split
 ·have:q<0:=by
   apply Int.lt_of_not_ge;intro hq
   have:=Int.mul_nonneg hq (Int.le_of_lt hg);omega
  omega
 ·have:0<q:=by
   apply Int.lt_of_not_ge;intro hq
   have:=Int.mul_nonpos_of_nonpos_of_nonneg hq (Int.le_of_lt hg);omega
  omega
theorem Ot (n d:Int):nc n d*(Int.gcd n d:Int)=if d<0 then -n else n:=by
 unfold nc;split
 ·rw [Int.neg_mul,Int.ediv_mul_cancel (Int.gcd_dvd_left n d)]
 ·rw [Int.ediv_mul_cancel (Int.gcd_dvd_left n d)]
theorem KG (n d:Int):lQ n d*(Int.gcd n d:Int)=if d<0 then -d else d:=by
 unfold lQ;split
 ·rw [Int.neg_mul,Int.ediv_mul_cancel (Int.gcd_dvd_right n d)]
 ·rw [Int.ediv_mul_cancel (Int.gcd_dvd_right n d)]
theorem Io (a g:Int) (hg:0<g) (h:g∣a):(a/g).natAbs<=a.natAbs:=by
 obtain ⟨c,rfl⟩:=h
 rw [Int.mul_ediv_cancel_left _ (by omega),Int.natAbs_mul]
 exact Nat.le_mul_of_pos_left _ (by omega)
theorem Ct {n d:Int} (h:d≠0):(nc n d).natAbs<=n.natAbs:=by
 unfold nc
 have:=Io n _ (um h) (Int.gcd_dvd_left n d)
 split<;>omega
theorem Cu {n d:Int} (h:d≠0):(lQ n d).natAbs<=d.natAbs:=by
 unfold lQ
 have:=Io d _ (um h) (Int.gcd_dvd_right n d)
 split<;>omega
end Go.Proofs.Ytkckdphjhlbdcaa.Num
set_option linter.unusedVariables false
set_option linter.unusedSimpArgs false
namespace Go.Proofs.Ytkckdphjhlbdcaa.Lp
open Go.Proofs.Ytkckdphjhlbdcaa.Num
def P (q:Rat):Int×Int:=(q.num,(q.den:Int))
theorem KH {a b c d:Int} (hb:0<b) (hd:0<d) (h1:Int.gcd a b=1) (h2:Int.gcd c d=1) (h:a*d=c*b):a=c/\b=d:=by
 have k1:b∣d:=by
  have:b∣a*d:=⟨c,by rw [h,Int.mul_comm]⟩
  have h3:=Int.dvd_gcd_mul_iff_dvd_mul.2 this
  rw [Int.gcd_comm,h1] at h3;simpa using h3
 have k2:d∣b:=by
  have:d∣c*b:=⟨a,by rw [<-h,Int.mul_comm]⟩
  have h3:=Int.dvd_gcd_mul_iff_dvd_mul.2 this
  rw [Int.gcd_comm,h2] at h3;simpa using h3
 have hbd:b=d:=Int.dvd_antisymm (by omega) (by omega) k1 k2
 subst hbd
 exact ⟨Int.eq_of_mul_eq_mul_right (by omega) h,rfl⟩
theorem yu (q:Rat):Int.gcd q.num (q.den:Int)=1:=by
 have:=q.reduced
 unfold Int.gcd
 simpa using this
theorem FV (q:Rat):0<(q.den:Int):=by have:=q.den_pos;omega
theorem rq (q:Rat):q*(q.den:Rat)=(q.num:Rat):=by
 have h:=Rat.num_divInt_den q
 rw [Rat.divInt_eq_div] at h
 have hd:((q.den:Int):Rat)≠0:=by
  intro e
  have:((q.den:Int):Rat)=((0:Int):Rat):=e
  have:=Rat.intCast_inj.1 this
  have:=q.den_pos;omega
 have e1:((q.den:Int):Rat)=(q.den:Rat):=rfl
 rw [<-e1]
 have h2:(q.num:Rat)/((q.den:Int):Rat)*((q.den:Int):Rat)=(q.num:Rat):=by grind
 rw [h] at h2;exact h2
theorem yZ {a b:Int} (h:(a:Rat)=(b:Rat)):a=b:=by exact_mod_cast h
theorem PS {n d:Int} (hd:d≠0) {q:Rat} (h:q*(d:Rat)=(n:Rat)):(nc n d,lQ n d)=P q:=by
 have e1:=Ot n d
 have e2:=KG n d
 have hg:=um (n:=n) hd
 have h3:q.num*d=n*(q.den:Int):=by
  apply yZ
  rw [Rat.intCast_mul,Rat.intCast_mul,<-h]
  have hm:=rq q
  have:(((q.den:Int):Rat))=(q.den:Rat):=rfl
  rw [this]
  grind
 have key:nc n d*(q.den:Int)=q.num*lQ n d:=by
  have:(nc n d*(q.den:Int))*(Int.gcd n d:Int)=(q.num*lQ n d)*(Int.gcd n d:Int):=by
   have a1:(nc n d*(q.den:Int))*(Int.gcd n d:Int)=(nc n d*(Int.gcd n d:Int))*(q.den:Int):=by grind
   have a2:(q.num*lQ n d)*(Int.gcd n d:Int)=q.num*(lQ n d*(Int.gcd n d:Int)):=by grind
   rw [a1,a2,e1,e2]
   split<;>grind
  exact Int.eq_of_mul_eq_mul_right (by omega) this
 obtain ⟨k1,k2⟩:=KH (XX (n:=n) hd) (FV q) (PR hd) (yu q) key
 rw [k1,k2];rfl
def Qu (a b:Nat) (q:Rat):Prop:=∃x y:Int,y≠0/\q*(y:Rat)=(x:Rat)/\x.natAbs<=a/\y.natAbs<=b
theorem Qu.num {a b:Nat} {q:Rat} (h:Qu a b q):q.num.natAbs<=a/\q.den<=b:=by
 obtain ⟨x,y,hy,e,hx,hb⟩:=h
 have hP:=PS hy e
 have h1:nc x y=q.num:=congrArg Prod.fst hP
 have h2:lQ x y=(q.den:Int):=congrArg Prod.snd hP
 have h3:=Ct (n:=x) hy
 have h4:=Cu (n:=x) hy
 omega
theorem Qu.mono {a b a' b':Nat} {q:Rat} (h:Qu a b q) (ha:a<=a') (hb:b<=b'):Qu a' b' q:=by
 obtain ⟨x,y,hy,e,hx,hb'⟩:=h
 exact ⟨x,y,hy,e,by omega,by omega⟩
theorem Qu.mul {a b a' b':Nat} {p q:Rat} (h:Qu a b p) (h':Qu a' b' q):Qu (a*a') (b*b') (p*q):=by
 obtain ⟨x,y,hy,e,hx,hb⟩:=h
 obtain ⟨x',y',hy',e',hx',hb'⟩:=h'
 exact ⟨x*x',y*y',Int.mul_ne_zero hy hy',by rw [Rat.intCast_mul,Rat.intCast_mul,<-e,<-e'];grind,by rw [Int.natAbs_mul];exact Nat.mul_le_mul hx hx',by rw [Int.natAbs_mul];exact Nat.mul_le_mul hb hb'⟩
theorem KI {y:Int} (h:y≠0):(y:Rat)≠0:=fun e=>h (yZ (e.trans rfl))
theorem Qu.Ip {x y:Int} (hy:y≠0) {a b:Nat} (hx:x.natAbs<=a) (hb:y.natAbs<=b) {q:Rat} (e:q*(y:Rat)=(x:Rat)):Qu a b q:=⟨x,y,hy,e,hx,hb⟩
theorem Qu.sub {a b a' b':Nat} {p q:Rat} (h:Qu a b p) (h':Qu a' b' q):Qu (a*b'+a'*b) (b*b') (p - q):=by
 obtain ⟨x,y,hy,e,hx,hb⟩:=h
 obtain ⟨x',y',hy',e',hx',hb'⟩:=h'
 refine ⟨x*y' - x'*y,y*y',Int.mul_ne_zero hy hy',by rw [Rat.intCast_sub,Rat.intCast_mul,Rat.intCast_mul,Rat.intCast_mul,<-e,<-e'];grind,?_,by rw [Int.natAbs_mul];exact Nat.mul_le_mul hb hb'⟩
 have h1:(x*y').natAbs<=a*b':=by rw [Int.natAbs_mul];exact Nat.mul_le_mul hx hb'
 have h2:(x'*y).natAbs<=a'*b:=by rw [Int.natAbs_mul];exact Nat.mul_le_mul hx' hb
 omega
theorem Qu.add {a b a' b':Nat} {p q:Rat} (h:Qu a b p) (h':Qu a' b' q):Qu (a*b'+a'*b) (b*b') (p+q):=by
 obtain ⟨x,y,hy,e,hx,hb⟩:=h
 obtain ⟨x',y',hy',e',hx',hb'⟩:=h'
 refine ⟨x*y'+x'*y,y*y',Int.mul_ne_zero hy hy',by rw [Rat.intCast_add,Rat.intCast_mul,Rat.intCast_mul,Rat.intCast_mul,<-e,<-e'];grind,?_,by rw [Int.natAbs_mul];exact Nat.mul_le_mul hb hb'⟩
 have h1:(x*y').natAbs<=a*b':=by rw [Int.natAbs_mul];exact Nat.mul_le_mul hx hb'
 have h2:(x'*y).natAbs<=a'*b:=by rw [Int.natAbs_mul];exact Nat.mul_le_mul hx' hb
 omega
theorem Qu.pos {a b:Nat} {q:Rat} (h:Qu a b q):0<b:=by obtain ⟨x,y,hy,_,_,hb⟩:=h;omega
theorem sub_mul (x y:Rat):(x - y)*((x.den*y.den:Int):Rat)=((x.num*y.den - y.num*x.den:Int):Rat):=by
 have h1:=rq x
 have h2:=rq y
 simp only [Rat.intCast_sub,Rat.intCast_mul]
 have e1:((x.den:Int):Rat)=(x.den:Rat):=rfl
 have e2:((y.den:Int):Rat)=(y.den:Rat):=rfl
 rw [e1,e2,<-h1,<-h2];grind
theorem add_mul (x y:Rat):(x+y)*((x.den*y.den:Int):Rat)=((x.num*y.den+y.num*x.den:Int):Rat):=by
 have h1:=rq x
 have h2:=rq y
 simp only [Rat.intCast_add,Rat.intCast_mul]
 have e1:((x.den:Int):Rat)=(x.den:Rat):=rfl
 have e2:((y.den:Int):Rat)=(y.den:Rat):=rfl
 rw [e1,e2,<-h1,<-h2];grind
theorem TC (x y:Rat):(x*y)*((x.den*y.den:Int):Rat)=((x.num*y.num:Int):Rat):=by
 have h1:=rq x
 have h2:=rq y
 simp only [Rat.intCast_mul]
 have e1:((x.den:Int):Rat)=(x.den:Rat):=rfl
 have e2:((y.den:Int):Rat)=(y.den:Rat):=rfl
 rw [e1,e2,<-h1,<-h2];grind
theorem XY {y:Rat} (h:y≠0):y.num≠0:=fun e=>h (Rat.num_eq_zero.1 e)
theorem div_mul (x:Rat) {y:Rat} (hy:y≠0):(x/y)*((x.den*y.num:Int):Rat)=((x.num*y.den:Int):Rat):=by
 have h1:=rq x
 have h2:=rq y
 simp only [Rat.intCast_mul]
 have e1:((x.den:Int):Rat)=(x.den:Rat):=rfl
 have e2:((y.den:Int):Rat)=(y.den:Rat):=rfl
 rw [e1,e2,<-h1,<-h2];grind
theorem sign_neg {q:Rat}:q.num<0↔q<0:=by
 have:=@Rat.num_nonneg q
 constructor
 ·intro h;apply Rat.not_le.1;intro h2;have:=this.2 h2;omega
 ·intro h;apply Int.lt_of_not_ge;intro h2;exact Rat.not_le.2 h (this.1 h2)
theorem a1y {q:Rat}:0<q.num↔0<q:=by
 have h1:=@sign_neg (-q)
 rw [Rat.neg_num] at h1
 constructor
 ·intro h;have:=h1.1 (by omega);grind
 ·intro h;have:=h1.2 (by grind);omega
theorem sign_zero {q:Rat}:q.num=0↔q=0:=Rat.num_eq_zero
end Go.Proofs.Ytkckdphjhlbdcaa.Lp
namespace Go.Proofs.Ytkckdphjhlbdcaa.EvKit
open Go.RowKit Go.Proofs.YtkckdphjhlbdcaaW.PrintWords
set_option linter.all false
theorem XZ {n:Int} (h1: -9223372036854775808<=n) (h2:n<=9223372036854775807):wrap64 n=n:=by
 unfold wrap64;omega
theorem dQ {n:Nat} (h2:n<=9223372036854775806):wrap64 ((n:Int)+1)=((n+1:Nat):Int):=by
 unfold wrap64;omega
theorem Ev.succ {α:Type} {g:Nat->Option α} {r:α} (h:Ev (fun k=>g (k+1)) r):Ev g r:=Ev.step (fun _=>rfl) h
theorem Ev.some {α:Type} (r:α):Ev (fun _=>Option.some r) r:=Ev.now r
theorem Ev.loop {α:Type} {g:Nat->Nat->Option α} {n:Nat} {R:Nat->α} (hend:Ev (fun k=>g k n) (R n)) (hstep:∀i,i<n->Ev (fun k=>g k (i+1)) (R (i+1))->Ev (fun k=>g k i) (R i)):
 ∀i,i<=n->Ev (fun k=>g k i) (R i):=by
 have h:∀d i,i+d=n->Ev (fun k=>g k i) (R i):=by
  intro d
  induction d with
  |zero=>intro i hi;have:i=n:=by omega
         subst this;exact hend
  |succ d ih=>intro i hi;exact hstep i (by omega) (ih (i+1) (by omega))
 intro i hi
 exact h (n - i) i (by omega)
theorem qh {l:List Int} {i:Nat} (h:i<l.length):rd l (i:Int)=l[i]:=by
 unfold rd;simp [List.getD_eq_getElem?_getD,h]
theorem getD_at {α:Type} {l:List α} {i:Nat} (d:α) (h:i<l.length):l.getD ((i:Int).toNat) d=l[i]:=by
 simp [List.getD_eq_getElem?_getD,h]
theorem ox {α:Type} {l:List α} {i:Nat} (h:i<l.length):l.drop i=l[i]::l.drop (i+1):=List.drop_eq_getElem_cons h
theorem Ev.pos {α:Type} {c:Prop} [Decidable c] {A B:Nat->Option α} {r:α} (h:c) (hA:Ev A r):Ev (fun k=>if c then A k else B k) r:=Ev.congr (fun _=>if_pos h) hA
theorem Ev.neg {α:Type} {c:Prop} [Decidable c] {A B:Nat->Option α} {r:α} (h:¬c) (hB:Ev B r):Ev (fun k=>if c then A k else B k) r:=Ev.congr (fun _=>if_neg h) hB
theorem Ev.to {α:Type} {g:Nat->Option α} {r r':α} (h:Ev g r) (e:r=r'):Ev g r':=e ▸ h
theorem Ev.val {α β:Type} {o:Option α} {x:α} {g:α->Nat->Option β} {r:β} (h:o=Option.some x) (hg:Ev (g x) r):Ev (fun k=>o.bind fun y=>g y k) r:=by
 subst h;exact hg
theorem Ev.all {α:Type} (l:List α) (p:α->Bool) {g:Nat->Nat->Option Bool} {R:Bool} (hend:l.all p=true->Ev (fun k=>g k l.length) R)
 (hyes:∀i (h:i<l.length),p l[i]=true->∀R',Ev (fun k=>g k (i+1)) R'->Ev (fun k=>g k i) R') (hno:∀i (h:i<l.length),p l[i]=false->Ev (fun k=>g k i) false):
 Ev (fun k=>g k 0) (l.all p&&R):=by
 have key:∀d i,i+d=l.length->((l.drop i).all p=true->Ev (fun k=>g k l.length) R)->Ev (fun k=>g k i) ((l.drop i).all p&&R):=by
  intro d
  induction d with
  |zero=>
   intro i hi he
   have:i=l.length:=by omega
   subst this
   simpa using he (by simp)
  |succ d ih=>
   intro i hi he
   have hlt:i<l.length:=by omega
   rw [List.drop_eq_getElem_cons hlt,List.all_cons] at he⊢
   cases hp:p l[i] with
   |true=>rw [Bool.true_and];exact hyes i hlt hp _ (ih (i+1) (by omega) (fun h=>he (by rw [hp,h];rfl)))
   |false=>simpa using hno i hlt hp
 simpa using key l.length 0 (by omega) (by simpa using hend)
theorem Ev.b6I {α β:Type} (l:List α) (f:α->β) (z:β) {g:Nat->List β->Nat->Option (List β)} (hend:∀acc,acc.length=l.length->Ev (fun k=>g k acc l.length) acc)
 (hstep:∀i (h:i<l.length) acc R,acc.length=l.length->Ev (fun k=>g k (acc.set i (f l[i])) (i+1)) R->Ev (fun k=>g k acc i) R):
 Ev (fun k=>g k (List.replicate l.length z) 0) (l.map f):=by
 have key:∀d i,i+d=l.length->Ev (fun k=>g k ((l.take i).map f++List.replicate d z) i) (l.map f):=by
  intro d
  induction d with
  |zero=>
   intro i hi
   have e:i=l.length:=by omega
   subst e
   have:=hend ((l.take l.length).map f++List.replicate 0 z) (by simp)
   simpa using this
  |succ d ih=>
   intro i hi
   have hlt:i<l.length:=by omega
   refine hstep i hlt _ _ (by simp;omega) ?_
   have hs:((l.take i).map f++List.replicate (d+1) z).set i (f l[i])=(l.take (i+1)).map f++List.replicate d z:=by
    rw [List.set_append_right _ _ (by simp;omega),List.take_succ_eq_append_getElem hlt]
    have:i -((l.take i).map f).length=0:=by simp;omega
    rw [this,List.replicate_succ]
    simp only [List.set_cons_zero,List.map_append,List.map_cons,List.map_nil,List.append_assoc,List.singleton_append]
   rw [hs]
   exact ih (i+1) (by omega)
 simpa using key l.length 0 (by omega)
end Go.Proofs.Ytkckdphjhlbdcaa.EvKit
namespace Go.Proofs.Ytkckdphjhlbdcaa.P
open Go.RowKit Go.Proofs.YtkckdphjhlbdcaaW.PrintWords Go.Proofs.YtkckdphjhlbdcaaW.PrintLast Go.Proofs.YtkckdphjhlbdcaaW.PrintMore
attribute [local go_sem] max2_int min2_int max_two min_two max_three min_three max_four min_four
set_option linter.all false
def a8C:Option Int->Value
 |none=> .nilIface
 |some c=> .iface 0 (.int .i64 c)
theorem aX:a8C none= .nilIface:=rfl
theorem aY (c:Int):a8C (some c)= .iface 0 (.int .i64 c):=rfl
theorem info3:(Try.prog.info? 3).map (fun i=>(i.zero,i.size,i.bytes))=some (some (.int .i64 0),1,8):=by kernel_rfl
theorem Ya:(Try.prog.info? 23).map (fun i=>(i.zero,i.size,i.bytes))=some (some (.slice none 0 0),1,24):=by kernel_rfl
theorem Cv:(Try.prog.info? 34).map (fun i=>(i.zero,i.size,i.bytes))=some (some (.agg #[(.int .i64 0),(.int .i64 0)]),2,16):=by kernel_rfl
theorem Yb:(Try.prog.info? 96).map (fun i=>(i.zero,i.size,i.bytes))=some (some (.agg #[(.slice none 0 0),(.bool false),(.int .i64 0)]),3,40):=by kernel_rfl
def cZ (xs:List (List Int)) (i:Int):(List Int):=xs.getD i.toNat ([]:List Int)
theorem kX {w:World} {A:Option Addr} {n:Nat} {xs:List (List Int)} (h:Kd.C (Kd.slice 3 (Kd.int .i64)) w A n xs) (i:Int) (h0:0<=i) (h1:i<n):∃ad A0 c0,A=some ad/\w.cell? (ad.add i.toNat)=some (.slice A0 (cZ xs i).length c0)/\(cZ xs i).length<=c0/\(Kd.int .i64).C w A0 (cZ xs i).length (cZ xs i):=by
 obtain ⟨ad,c,e,_,hK,hc0⟩:=Kd.OB h ([]:List Int) i h0 h1
 have hc:∀j u,c[j]? =some u->w.cell? (ad.add (i.toNat*1+j))=some u:=hc0
 obtain ⟨A0,c0,rfl,l0,g0⟩:=hK
 exact ⟨ad,A0,c0,e,by have hq:=hc 0 _ rfl;rwa [Nat.mul_one,Nat.add_zero] at hq,l0,g0⟩
structure rS where
 f0:Int
 f1:Int
def z26:rS:=⟨(0:Int),(0:Int)⟩
def BG:Kd rS:=Kd.Tp (Kd.pair (Kd.int .i64) (Kd.int .i64)) (fun x:rS=>(x.f0,x.f1))
theorem a1z {w:World} {x:rS} {cs:List Value} (h:BG.K w x cs):cs=[.int .i64 x.f0,.int .i64 x.f1]:=by
 obtain ⟨_,_,rfl,rfl,rfl⟩:=h
 exact rfl
def tD (xs:List rS) (i:Int):rS:=xs.getD i.toNat z26
theorem a8D {w:World} {A:Option Addr} {n:Nat} {xs:List rS} (h:Kd.C BG w A n xs) (i:Int) (h0:0<=i) (h1:i<n):∃ad,A=some ad/\w.cell? (ad.add (i.toNat*2))=some (.int .i64 (tD xs i).f0)/\w.cell? ⟨(ad.add (i.toNat*2)).block,(ad.add (i.toNat*2)).off+1,none⟩=some (.int .i64 (tD xs i).f1):=by
 obtain ⟨ad,c,e,_,hK,hc0⟩:=Kd.OB h z26 i h0 h1
 have hc:∀j u,c[j]? =some u->w.cell? (ad.add (i.toNat*2+j))=some u:=hc0
 obtain rfl:=a1z hK
 exact ⟨ad,e,hc 0 _ rfl,by rw [<-ym _ _ 1 (by omega)];exact hc 1 _ rfl⟩
structure dm where
 f0:Int
 f1:Int
def z34:dm:=⟨(0:Int),(0:Int)⟩
def gY:Kd dm:=Kd.Tp (Kd.pair (Kd.int .i64) (Kd.int .i64)) (fun x:dm=>(x.f0,x.f1))
theorem a1A {w:World} {x:dm} {cs:List Value} (h:gY.K w x cs):cs=[.int .i64 x.f0,.int .i64 x.f1]:=by
 obtain ⟨_,_,rfl,rfl,rfl⟩:=h
 exact rfl
theorem Cw {w:World} {base:Nat} {ok:Nat->Prop} {x:dm} {cs:List Value} (h:gY.M w base ok x cs):cs=[.int .i64 x.f0,.int .i64 x.f1]:=by
 obtain ⟨_,_,rfl,rfl,rfl⟩:=h
 exact rfl
theorem xB (w:World) (base:Nat) (ok:Nat->Prop) (x:dm):gY.M w base ok x [.int .i64 x.f0,.int .i64 x.f1]:=⟨[.int .i64 x.f0],[.int .i64 x.f1],rfl,rfl,rfl⟩
def aZ (xs:List dm) (i:Int):dm:=xs.getD i.toNat z34
theorem kj {w:World} {A:Option Addr} {n:Nat} {xs:List dm} (h:Kd.C gY w A n xs) (i:Int) (h0:0<=i) (h1:i<n):∃ad,A=some ad/\w.cell? (ad.add (i.toNat*2))=some (.int .i64 (aZ xs i).f0)/\w.cell? ⟨(ad.add (i.toNat*2)).block,(ad.add (i.toNat*2)).off+1,none⟩=some (.int .i64 (aZ xs i).f1):=by
 obtain ⟨ad,c,e,_,hK,hc0⟩:=Kd.OB h z34 i h0 h1
 have hc:∀j u,c[j]? =some u->w.cell? (ad.add (i.toNat*2+j))=some u:=hc0
 obtain rfl:=a1A hK
 exact ⟨ad,e,hc 0 _ rfl,by rw [<-ym _ _ 1 (by omega)];exact hc 1 _ rfl⟩
structure dz where
 f0:(List Int)
 f1:Bool
 f2:Int
def tE:dz:=⟨([]:List Int),false,(0:Int)⟩
def mm:Kd dz:=Kd.Tp (Kd.pair (Kd.slice 3 (Kd.int .i64)) (Kd.pair Kd.bool (Kd.int .i64))) (fun x:dz=>(x.f0,x.f1,x.f2))
theorem a1B {w:World} {x:dz} {cs:List Value} (h:mm.K w x cs):∃A0 c0,cs=[.slice A0 x.f0.length c0,.bool x.f1,.int .i64 x.f2]/\x.f0.length<=c0/\(Kd.int .i64).C w A0 x.f0.length x.f0:=by
 obtain ⟨_,_,rfl,⟨A0,c0,rfl,l0,g0⟩,⟨_,_,rfl,rfl,rfl⟩⟩:=h
 exact ⟨A0,c0,rfl,l0,g0⟩
theorem a8E (w:World) (x:dz) {A0:Option Addr} {c0:Nat} (l0:x.f0.length<=c0) (g0:(Kd.int .i64).C w A0 x.f0.length x.f0):mm.K w x [.slice A0 x.f0.length c0,.bool x.f1,.int .i64 x.f2]:=⟨[.slice A0 x.f0.length c0],[.bool x.f1,.int .i64 x.f2],rfl,⟨A0,c0,rfl,l0,g0⟩,⟨[.bool x.f1],[.int .i64 x.f2],rfl,rfl,rfl⟩⟩
theorem TD (w:World) (base:Nat) (ok:Nat->Prop) (x:dz) {v0:Value} (g0:(Kd.int .i64).R 3 w base ok v0 x.f0):mm.M w base ok x [v0,.bool x.f1,.int .i64 x.f2]:=⟨[v0],[.bool x.f1,.int .i64 x.f2],rfl,⟨v0,rfl,g0⟩,⟨[.bool x.f1],[.int .i64 x.f2],rfl,rfl,rfl⟩⟩
def tF (xs:List dz) (i:Int):dz:=xs.getD i.toNat tE
theorem PU {w:World} {A:Option Addr} {n:Nat} {xs:List dz} (h:Kd.C mm w A n xs) (i:Int) (h0:0<=i) (h1:i<n):∃ad A0 c0,A=some ad/\w.cell? (ad.add (i.toNat*3))=some (.slice A0 (tF xs i).f0.length c0)/\w.cell? ⟨(ad.add (i.toNat*3)).block,(ad.add (i.toNat*3)).off+1,none⟩=some (.bool (tF xs i).f1)/\w.cell? ⟨(ad.add (i.toNat*3)).block,(ad.add (i.toNat*3)).off+2,none⟩=some (.int .i64 (tF xs i).f2)/\(tF xs i).f0.length<=c0/\(Kd.int .i64).C w A0 (tF xs i).f0.length (tF xs i).f0:=by
 obtain ⟨ad,c,e,_,hK,hc0⟩:=Kd.OB h tE i h0 h1
 have hc:∀j u,c[j]? =some u->w.cell? (ad.add (i.toNat*3+j))=some u:=hc0
 obtain ⟨A0,c0,rfl,l0,g0⟩:=a1B hK
 exact ⟨ad,A0,c0,e,hc 0 _ rfl,by rw [<-ym _ _ 1 (by omega)];exact hc 1 _ rfl,by rw [<-ym _ _ 2 (by omega)];exact hc 2 _ rfl,l0,g0⟩
def dL.l0:Nat->Int->Int->Option (Int)
 |0,_,_=>none
 |k+1,x0,x1=>if x1=0 then (some (mx x0 (wrap64 (-x0)))) else (dL.l0 k x1 (Int.tmod x0 x1))
def dL.f (k:Nat) (a0:Int) (a1:Int):Option (Int):=dL.l0 k a0 a1
theorem dL.cC:∀k,(∀y0 y1,aR (dL.l0 k y0 y1) (dL.l0 (k+1) y0 y1))
 |0=>fun _ _ r h=>by simp [dL.l0] at h
 |k+1=>by
  have dN:=dL.cC k
  ·intro y0 y1
   unfold dL.l0
   repeat' first
   |(with_reducible exact dN _ _)
   |(with_reducible exact aR.refl _)
   |(with_reducible exact aR.none _)
   |(with_reducible refine aR.ite ?_ ?_)
   |(with_reducible refine aR.bind ?_ (fun _=>?_))
theorem dL.mono:∀a0 a1 k,aR (dL.f k a0 a1) (dL.f (k+1) a0 a1):=by
 intro a0 a1 k
 have dN:=dL.cC k
 unfold dL.f
 repeat' first
  |(with_reducible exact dN _ _)
  |(with_reducible exact aR.refl _)
  |(with_reducible exact aR.none _)
  |(with_reducible refine aR.ite ?_ ?_)
  |(with_reducible refine aR.bind ?_ (fun _=>?_))
set_option maxHeartbeats 8000000 in
set_option maxRecDepth 100000 in
theorem dL.calls (k:Nat) (a0:Int) (a1:Int) (r:Int) (w:World) (h:dL.f k a0 a1=some r):
 Calls Try.prog 88 #[.int .i64 a0,.int .i64 a1] w fun e w'=>e= .returned (.int .i64 r)/\Below w.heap.size w w':=by
 have HB:=Aside0.mk (Below.refl w.heap.size w)
 have H:(dL.l0 k a0 a1)=some r:=h
 clear h
 have H':=Aside0.mk H
 clear H
 go_enter Try.func88,Try.ntmps88
 go_wp2
 repeat (go_quiet (fail);try go_wp2)
 go_loopg [0,1] k (fun kq v0 v1 w'=>∃(oy:Int) (kU:Int),v0= .int .i64 oy/\v1= .int .i64 kU/\Aside0 (dL.l0 kq oy kU=some r)/\Aside0 (kq<=k)/\Aside0 (Below w.heap.size w w'))
 case atStart=>exact ⟨(a0),(a1),(by first|rfl|(simp;done)|(simp [*];done)),(by first|rfl|(simp;done)|(simp [*];done)),H',⟨Nat.le_refl _⟩,⟨ay⟩⟩
 case round=>
  clear H'
  try clear p2
  obtain ⟨oy,kU,rfl,rfl,HA,dX,HB⟩:=hrel
  cases gk with
  |zero=>exact absurd HA.out (by simp [dL.l0])
  |succ k1=>
   have H:=HA.out
   clear HA
   simp only [dL.l0] at H
   by_cases c3:kU=0
   ·rw [if_pos c3] at H
    have iw:(kU==0)=true:=beq_iff_eq.mpr c3
    have oz:(kU !=0)=false:=bne_eq_false_iff_eq.mpr c3
    clear c3
    obtain ⟨ji4,VW⟩:∃j_:Int,(mx oy (wrap64 (-oy)))=j_:=⟨_,rfl⟩
    replace H:(some ji4)=some r:=by first|(rw [VW] at H;exact H)|(simp only [VW] at H⊢;exact H)
    have hji4_:(if oy<(wrap64 (-oy)) then (wrap64 (-oy)) else oy)=ji4:=VW
    obtain rfl:=Option.some.inj H
    go_wp2
    repeat (go_quiet (fail);try go_wp2)
    go_ret
    exact ⟨by first|rfl|(simp [aX,aY]<;>rfl)|(simp only [<-VW];first|rfl|(simp [aX,aY]<;>rfl))|(simp [*,aX,aY]<;>rfl),ay⟩
   ·rw [if_neg c3] at H
    have iw:(kU==0)=false:=beq_eq_false_iff_ne.mpr c3
    have oz:(kU !=0)=true:=bne_iff_ne.mpr c3
    have H':=Aside0.mk H
    clear H
    go_wp2
    repeat (go_quiet (fail);try go_wp2)
    go_roundg k1
    case measure=>have:=dX.out;omega
    case rel=>exact ⟨(kU),(Int.tmod oy kU),(by first|rfl|(simp;done)|(simp [*];done)),(by first|rfl|(simp;done)|(simp [*];done)),H',⟨by have:=dX.out;omega⟩,⟨ay⟩⟩
def eB.f (a0:Int) (a1:Int) (a2:Int):Option (Bool):=if a0>=a1 then (some (decide (a0<=a2))) else (some false)
set_option maxHeartbeats 8000000 in
set_option maxRecDepth 100000 in
theorem eB.calls (a0:Int) (a1:Int) (a2:Int) (r:Bool) (w:World) (h:eB.f a0 a1 a2=some r):
 Calls Try.prog 34 #[.int .i64 a0,.int .i64 a1,.int .i64 a2] w fun e w'=>e= .returned (.bool r)/\aW w w':=by
 have H:(if a0>=a1 then (some (decide (a0<=a2))) else (some false))=some r:=h
 clear h
 by_cases c4:a0>=a1
 ·rw [if_pos c4] at H
  have mj:decide (a1<=a0)=true:=decide_eq_true c4
  clear c4
  obtain rfl:=Option.some.inj H
  go_enter Try.func34,Try.ntmps34
  go_wp2
  go_ret
  exact ⟨by first|rfl|(simp;done)|(simp [*];done),by repeat (first|exact aW.refl _|apply aW.step)⟩
 ·rw [if_neg c4] at H
  have mj:decide (a1<=a0)=false:=decide_eq_false c4
  clear c4
  obtain rfl:=Option.some.inj H
  go_enter Try.func34,Try.ntmps34
  go_wp2
  go_ret
  exact ⟨by first|rfl|(simp;done)|(simp [*];done),by repeat (first|exact aW.refl _|apply aW.step)⟩
def cj.f (k:Nat) (aM:Int) (aJ:Int):Option (Bool):=(eB.f aJ 1 1000000).bind fun KJ=>(if KJ=true then ((eB.f aM (-1000000) 1000000).bind fun za=>(if za=true then ((dL.f k aM aJ).bind fun tG=>(some (tG==1))) else (some false))) else (some false))
theorem cj.mono:∀a0 a1 k,aR (cj.f k a0 a1) (cj.f (k+1) a0 a1):=by
 intro a0 a1 k
 unfold cj.f
 repeat' first
  |(with_reducible exact dL.mono _ _ _)
  |(with_reducible exact aR.refl _)
  |(with_reducible exact aR.none _)
  |(with_reducible refine aR.ite ?_ ?_)
  |(with_reducible refine aR.bind ?_ (fun _=>?_))
set_option maxHeartbeats 8000000 in
set_option maxRecDepth 100000 in
theorem cj.calls (k:Nat) (aM:Int) (aJ:Int) (r:Bool) (w:World) (h:cj.f k aM aJ=some r):
 Calls Try.prog 80 #[.agg #[.int .i64 aM,.int .i64 aJ]] w fun e w'=>e= .returned (.bool r)/\Below w.heap.size w w':=by
 have lB:=Try.underlying34
 have HB:=Aside0.mk (Below.refl w.heap.size w)
 have H:((eB.f aJ 1 1000000).bind fun KJ=>(if KJ=true then ((eB.f aM (-1000000) 1000000).bind fun za=>(if za=true then ((dL.f k aM aJ).bind fun tG=>(some (tG==1))) else (some false))) else (some false)))=some r:=h
 clear h
 replace H:=Option.bind_eq_some_iff.mp H
 obtain ⟨KJ,zE,H⟩:=H
 replace H:(if KJ=true then ((eB.f aM (-1000000) 1000000).bind fun za=>(if za=true then ((dL.f k aM aJ).bind fun tG=>(some (tG==1))) else (some false))) else (some false))=some r:=H
 have A2:=Aside0.mk zE
 clear zE
 by_cases c3:KJ=true
 ·subst c3
  have H1:((eB.f aM (-1000000) 1000000).bind fun za=>(if za=true then ((dL.f k aM aJ).bind fun tG=>(some (tG==1))) else (some false)))=some r:=by rw [if_pos rfl] at H;exact H
  clear H
  have H:=H1
  clear H1
  replace H:=Option.bind_eq_some_iff.mp H
  obtain ⟨za,vE,H⟩:=H
  replace H:(if za=true then ((dL.f k aM aJ).bind fun tG=>(some (tG==1))) else (some false))=some r:=H
  have A4:=Aside0.mk vE
  clear vE
  by_cases c5:za=true
  ·subst c5
   have H1:((dL.f k aM aJ).bind fun tG=>(some (tG==1)))=some r:=by rw [if_pos rfl] at H;exact H
   clear H
   have H:=H1
   clear H1
   replace H:=Option.bind_eq_some_iff.mp H
   obtain ⟨tG,sW,H⟩:=H
   replace H:(some (tG==1))=some r:=H
   have A6:=Aside0.mk sW
   clear sW
   obtain rfl:=Option.some.inj H
   go_enter Try.func80,Try.ntmps80
   go_wp2_with (first|((with_reducible refine bn (N:=1) rfl ?_);refine bq ?hg (N:=1) ?hd (cs:= #[.int .i64 aM,.int .i64 aJ]) (t:=34) ?hr ?_;(case hd=>rfl);(case hg=>rfl);(case hr=>first|(go_simp;done)|(go_simp;rfl));intro pG hg w7 aU hb;have aA:=Aside0.mk (ah ay hb);have aC:=Aside0.mk (aU);have aD:=Aside0.mk ((by rw [hg];exact (ax ay):w.heap.size<=pG));have aK:=Aside0.mk ((by rw [hg];exact (ax ay):w.heap.size<=pG));clear HB;have HB:=aA;have nD:=aC;have a4d:=aD;have a4e:=aK;clear aA aC aD aK;clear hb aU hg;have PV:w7.cell? ⟨pG,0,none⟩=some (.int .i64 aM):=(ag nD.out 0).trans rfl;have PW:w7.cell? ⟨pG,1,none⟩=some (.int .i64 aJ):=(ag nD.out 1).trans rfl;have PX:=af nD.out 0;have PY:=af nD.out 1)|((with_reducible refine aV (f:=34) rfl ?_);refine bH (some 5) rfl rfl Try.func34 (by kernel_rfl) rfl #[.int .i64 aJ,.int .i64 1,.int .i64 1000000] rfl (by (try simp only [List.map_toArray,List.map_cons,List.map_nil]);first|done|rfl|(simp only [List.length_drop,List.length_take];rfl)) ?_;(with_reducible refine (eB.calls aJ 1 1000000 true _ A2.out).mono ?_);rintro e w' ⟨rfl,⟨nd,rfl⟩⟩;refine ⟨_,rfl,?_⟩)|(go_at_call 34;(with_reducible refine (eB.calls aM (-1000000) 1000000 true _ A4.out).mono ?_);rintro e w' ⟨rfl,⟨nd,rfl⟩⟩)|(go_at_call 88;(with_reducible refine (dL.calls k aM aJ tG _ A6.out).mono ?_);rintro e w9 ⟨rfl,hb⟩;have aA:=Aside0.mk (aj (g:=pG) (o:= .cells #[.int .i64 aM,.int .i64 aJ] 34 (0,0)) (aH nD) hb);have aC:=Aside0.mk (ah ay hb);clear nD;clear HB;have nD:=aA;have HB:=aC;clear aA aC;(try clear hb);(try clear hb2);(try clear hk);(try clear hi)))
   go_ret
   exact ⟨by first|rfl|(simp [aX,aY]<;>rfl)|(simp [*,aX,aY]<;>rfl),ay⟩
  ·replace c5:=Bool.eq_false_iff.mpr c5
   subst c5
   have H1:(some false)=some r:=by rw [if_neg (show ¬(false=true) by decide)] at H;exact H
   clear H
   have H:=H1
   clear H1
   obtain rfl:=Option.some.inj H
   go_enter Try.func80,Try.ntmps80
   go_wp2_with (first|((with_reducible refine bn (N:=1) rfl ?_);refine bq ?hg (N:=1) ?hd (cs:= #[.int .i64 aM,.int .i64 aJ]) (t:=34) ?hr ?_;(case hd=>rfl);(case hg=>rfl);(case hr=>first|(go_simp;done)|(go_simp;rfl));intro pG hg mU aU hb;have aA:=Aside0.mk (ah ay hb);have aC:=Aside0.mk (aU);have aD:=Aside0.mk ((by rw [hg];exact (ax ay):w.heap.size<=pG));have aK:=Aside0.mk ((by rw [hg];exact (ax ay):w.heap.size<=pG));clear HB;have HB:=aA;have nD:=aC;have a4d:=aD;have a4e:=aK;clear aA aC aD aK;clear hb aU hg;have uq:mU.cell? ⟨pG,0,none⟩=some (.int .i64 aM):=(ag nD.out 0).trans rfl;have ur:mU.cell? ⟨pG,1,none⟩=some (.int .i64 aJ):=(ag nD.out 1).trans rfl;have uu:=af nD.out 0;have uv:=af nD.out 1)|((with_reducible refine aV (f:=34) rfl ?_);refine bH (some 5) rfl rfl Try.func34 (by kernel_rfl) rfl #[.int .i64 aJ,.int .i64 1,.int .i64 1000000] rfl (by (try simp only [List.map_toArray,List.map_cons,List.map_nil]);first|done|rfl|(simp only [List.length_drop,List.length_take];rfl)) ?_;(with_reducible refine (eB.calls aJ 1 1000000 true _ A2.out).mono ?_);rintro e w' ⟨rfl,⟨nd,rfl⟩⟩;refine ⟨_,rfl,?_⟩)|(go_at_call 34;(with_reducible refine (eB.calls aM (-1000000) 1000000 false _ A4.out).mono ?_);rintro e w' ⟨rfl,⟨nd,rfl⟩⟩))
   go_ret
   exact ⟨by first|rfl|(simp [aX,aY]<;>rfl)|(simp [*,aX,aY]<;>rfl),ay⟩
 ·replace c3:=Bool.eq_false_iff.mpr c3
  subst c3
  have H1:(some false)=some r:=by rw [if_neg (show ¬(false=true) by decide)] at H;exact H
  clear H
  have H:=H1
  clear H1
  obtain rfl:=Option.some.inj H
  go_enter Try.func80,Try.ntmps80
  go_wp2_with (first|((with_reducible refine bn (N:=1) rfl ?_);refine bq ?hg (N:=1) ?hd (cs:= #[.int .i64 aM,.int .i64 aJ]) (t:=34) ?hr ?_;(case hd=>rfl);(case hg=>rfl);(case hr=>first|(go_simp;done)|(go_simp;rfl));intro pG hg mV aU hb;have aA:=Aside0.mk (ah ay hb);have aC:=Aside0.mk (aU);have aD:=Aside0.mk ((by rw [hg];exact (ax ay):w.heap.size<=pG));have aK:=Aside0.mk ((by rw [hg];exact (ax ay):w.heap.size<=pG));clear HB;have HB:=aA;have nD:=aC;have a4d:=aD;have a4e:=aK;clear aA aC aD aK;clear hb aU hg;have pZ:mV.cell? ⟨pG,0,none⟩=some (.int .i64 aM):=(ag nD.out 0).trans rfl;have qa:mV.cell? ⟨pG,1,none⟩=some (.int .i64 aJ):=(ag nD.out 1).trans rfl;have qb:=af nD.out 0;have qc:=af nD.out 1)|((with_reducible refine aV (f:=34) rfl ?_);refine bH (some 5) rfl rfl Try.func34 (by kernel_rfl) rfl #[.int .i64 aJ,.int .i64 1,.int .i64 1000000] rfl (by (try simp only [List.map_toArray,List.map_cons,List.map_nil]);first|done|rfl|(simp only [List.length_drop,List.length_take];rfl)) ?_;(with_reducible refine (eB.calls aJ 1 1000000 false _ A2.out).mono ?_);rintro e w' ⟨rfl,⟨nd,rfl⟩⟩;refine ⟨_,rfl,?_⟩))
  go_ret
  exact ⟨by first|rfl|(simp [aX,aY]<;>rfl)|(simp [*,aX,aY]<;>rfl),ay⟩
end Go.Proofs.Ytkckdphjhlbdcaa.P
