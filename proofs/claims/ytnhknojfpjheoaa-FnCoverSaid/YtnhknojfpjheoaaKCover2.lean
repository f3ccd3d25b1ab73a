/-
  Part 2 of the proof of this: The law FnCover answers true at every argument.
-/
import Derived.Test.YtnhknojfpjheoaaKCover1
import Derived.ChangeArms
import Derived.Deep.Slices
import Derived.OpenShut
import Derived.Test.YtnhknojfpjheoaaProg
import Derived.Below
import Derived.Deep.Draws
import Derived.Deep.AppendLies
import Derived.Maps.AppendAt
import Derived.OwnWalk
import Derived.Laws.BytesArg
import Derived.Laws.MakeOwn
import Derived.Laws.OwnMore
import Derived.Deep.OwnRows
import Derived.Tactics
import Derived.Lib.ConvBytes
import Derived.Laws.Slices
import Derived.WalkKit
import Derived.KernelRfl
import Derived.RowKit3
import Derived.Deep.LoopGhost
import Derived.Deep.QuietTactic
import Derived.BigQuiet
import Derived.WideLaws
import Derived.Deep.DeepCutAuto
import Derived.Deep.CutBlock
import Derived.Deep.RegionHeld3
import Derived.Laws.Rows
import Derived.Lib.AppendStr
import Derived.ArgAppend
import Derived.Laws.IdiomCopy
import Derived.OrdersHeld
import Derived.Laws.BitsLemmas
import Derived.RowKit
namespace Go.Proofs.YtnhknojfpjheoaaW.PrintWords
open Go.RowKit Go.Proofs.YtnhknojfpjheoaaW.PrintLast
set_option linter.all false
theorem ax {P:Prop} (h:P:=by repeat (first|(with_reducible first|exact HB.out|apply aK|apply gj|apply bn|refine br ?_ (Aside0.out (by assumption)))|exact HB.out)):P:=h
theorem aJ {P Q:Prop} (h:Aside0 P) (g:P->Q:=by intro h_;(with_reducible repeat (first|refine au ?_ _|refine ak ?_|refine aq ?_ _));exact h_):Q:=g h.out
theorem dx {a a':Act} {N:Option Tmp} {v:Value} (h:a.put N v=a':=by simp only [Act.put,List.setIfInBounds_toArray,List.set_cons_zero,List.set_cons_succ,cZ,eo];rfl):a.put N v=a':=h
section
variable {P:Program} {ops:Array Oper} {Q:Exit->Act->World->Prop} {md:Region.Mode} {S:World->Prop} {ds:List Nat}
theorem aI {i:Nat} {N:Option Tmp} {oi:Oper} {v:Value} {fuel:Nat} {l:Array Bool} {a:Act} {w:World} {a':Act} (h:cD P md ops Q S ds fuel (l.setIfInBounds i true) a' w) (hc:JD md ops l (l.setIfInBounds i true) i=true:=by kernel_rfl) (hi:ops[i]? =some oi:=by exact rfl) (hN:oi.dst=N:=by exact rfl)
 (hQ:∀c a w,Q (.panic c) (a.put oi.dst v) w->Q (.panic c) a w:=by exact fun _ _ _ h=>h) (hy:Yields P ops oi v a:=by (refine Or.inl ⟨by rfl,?_⟩;intro w';go_simp;with_reducible rfl)) (ha:a.put N v=a':=by simp only [Act.put,List.setIfInBounds_toArray,List.set_cons_zero,List.set_cons_succ,cZ,eo];rfl):cD P md ops Q S ds (fuel+1) l a w:=Uk _ hi hN hc hQ hy ha h
theorem bZ {T:Bool×List (List Nat×List Nat)} {i:Nat} {N:Option Tmp} {oi:Oper} {v:Value} {fuel:Nat} {l:Array Bool} {a:Act} {w:World} {a':Act} (hT:Aside0 (kF md ops=T)) (h:cD P md ops Q S ds fuel (l.setIfInBounds i true) a' w) (hc:a0j T l.toList (l.setIfInBounds i true).toList i=true:=by kernel_rfl) (hi:ops[i]? =some oi:=by exact rfl) (hN:oi.dst=N:=by exact rfl)
 (hQ:∀c a w,Q (.panic c) (a.put oi.dst v) w->Q (.panic c) a w:=by exact fun _ _ _ h=>h) (hy:Yields P ops oi v a:=by (refine Or.inl ⟨by rfl,?_⟩;intro w';go_simp;with_reducible rfl)) (ha:a.put N v=a':=by simp only [Act.put,List.setIfInBounds_toArray,List.set_cons_zero,List.set_cons_succ,cZ,eo];rfl):cD P md ops Q S ds (fuel+1) l a w:=Uk _ hi hN (a7Y hT.out hc) hQ hy ha h
theorem ij {i:Nat} {N:Option Tmp} {oi:Oper} {fuel:Nat} {l:Array Bool} {a:Act} {w:World} {a':Act} (h:cD P md ops Q S ds fuel (l.setIfInBounds i true) a' w) (hc:JD md ops l (l.setIfInBounds i true) i=true:=by kernel_rfl) (hi:ops[i]? =some oi:=by exact rfl) (hN:oi.dst=N:=by exact rfl)
 (hQ:∀c a w,Q (.panic c) (a.put oi.dst undef) w->Q (.panic c) a w:=by exact fun _ _ _ h=>h) (hy:Yields P ops oi undef a:=by exact Or.inr ⟨by rfl,rfl⟩) (ha:a.put N undef=a':=by simp only [Act.put,List.setIfInBounds_toArray,List.set_cons_zero,List.set_cons_succ,cZ,eo];rfl):cD P md ops Q S ds (fuel+1) l a w:=Uk _ hi hN hc hQ hy ha h
end
end Go.Proofs.YtnhknojfpjheoaaW.PrintWords
namespace Go.Proofs.Ytnhknojfpjheoaa.Opens
open Go.Proofs.YtnhknojfpjheoaaW.PrintWords Go.RowKit
set_option linter.all false
def Opens {α:Type} (P:Program) (d:Kd α) (t:TypeId) (G:α->Prop):Prop:=
 P.cellsOf t=d.sz/\∀{H:Type} (enc:TypeId×Value->H) (W:World) (held:Bool) (fuel:Nat) (cs:List Value) (x:DataW H×List MemPlace),DataW.trod enc P W 0 (fun _=>true) held fuel t cs=some x->∃a:α,d.K W a cs/\G a
theorem Opens.int {P:Program} {t:TypeId} {k:IntKind} (ht:P.underlying t=some (.int k)) (hc:P.cellsOf t=1):Opens P (Kd.int k) t (fun n=>(Lit.int k n).wf=true):=
 ⟨hc,fun _ _ _ _ _ _ h=>by obtain ⟨n,rfl,_,hw⟩:=DataW.trod_int ht h;exact ⟨n,rfl,hw⟩⟩
theorem Opens.bool {P:Program} {t:TypeId} (ht:P.underlying t=some .bool) (hc:P.cellsOf t=1):Opens P Kd.bool t (fun _=>True):=
 ⟨hc,fun _ _ _ _ _ _ h=>by obtain ⟨n,rfl,_⟩:=DataW.trod_bool ht h;exact ⟨n,rfl,trivial⟩⟩
theorem Opens.string {P:Program} {t:TypeId} (ht:P.underlying t=some .string) (hc:P.cellsOf t=1):Opens P Kd.string t (fun s=>s.size<=maxLen):=
 ⟨hc,fun _ _ _ _ _ _ h=>by obtain ⟨n,rfl,_,hw⟩:=DataW.trod_string ht h;exact ⟨n,rfl,hw⟩⟩
theorem a0k {w:World} {a:Addr} {n:Nat} {cs:List Value} (h:w.cells? 0 a n=some cs):cs.length=n/\∀i u,cs[i]? =some u->w.cell? (a.add i)=some u:=by
 unfold World.cells? at h
 rw [if_pos (Nat.zero_le _)] at h
 have h1:∀(l:List Nat) (cs:List Value),l.mapM (fun i=>w.cell? (a.add i))=some cs->cs.length=l.length/\∀(i:Nat) (u:Value),cs[i]? =some u->∃j:Nat,l[i]? =some j/\w.cell? (a.add j)=some u:=by
  intro l
  induction l with
  |nil=>intro cs h;simp at h;subst h;exact ⟨rfl,fun i u h=>by simp at h⟩
  |cons x l ih=>
   intro cs h
   rw [List.mapM_cons] at h
   obtain ⟨v,hv,h⟩:=Option.bind_eq_some_iff.1 h
   obtain ⟨vs,hvs,h⟩:=Option.bind_eq_some_iff.1 h
   cases h
   obtain ⟨hl,hi⟩:=ih vs hvs
   refine ⟨by simp [hl],fun i u hu=>?_⟩
   cases i with
   |zero=>simp at hu;subst hu;exact ⟨x,by simp,hv⟩
   |succ i=>simp at hu;obtain ⟨j,hj,hc⟩:=hi i u hu;exact ⟨j,by simpa using hj,hc⟩
 obtain ⟨hl,hi⟩:=h1 _ _ h
 refine ⟨by simpa using hl,fun i u hu=>?_⟩
 obtain ⟨j,hj,hc⟩:=hi i u hu
 have:i=j:=by
  rw [List.getElem?_eq_some_iff] at hj
  obtain ⟨hlt,e⟩:=hj
  simpa using e
 subst this;exact hc
theorem Eo {α:Type} {Q:Nat->α->Prop}:∀(n:Nat),(∀i,i<n->∃a,Q i a)->∃l:List α,l.length=n/\∀i a,l[i]? =some a->Q i a
 |0,_=>⟨[],rfl,fun i a h=>by simp at h⟩
 |n+1,h=>by
  obtain ⟨l,hl,hq⟩:=Eo n (fun i hi=>h i (by omega))
  obtain ⟨a,ha⟩:=h n (by omega)
  refine ⟨l++[a],by simp [hl],fun i b hb=>?_⟩
  rcases Nat.lt_or_ge i l.length with hi|hi
  ·rw [List.getElem?_append_left hi] at hb;exact hq i b hb
  ·rw [List.getElem?_append_right hi] at hb
   have e:i - l.length=0:=by
    rw [List.getElem?_eq_some_iff] at hb
    obtain ⟨h0,_⟩:=hb
    simp at h0;exact h0
   rw [e] at hb
   simp at hb;subst hb
   have:i=n:=by omega
   subst this;exact ha
theorem Opens.slice {α:Type} {P:Program} {d:Kd α} {t e:TypeId} {G:α->Prop} (ht:P.underlying t=some (.slice e)) (hc:P.cellsOf t=1) (h:Opens P d e G):
 Opens P (Kd.slice e d) t (fun l=>l.length<=maxLen/\∀x,x∈l->G x):=by
 refine ⟨hc,fun enc W held fuel cs x hx=>?_⟩
 rcases Go.Deep.open_slice ht hx with ⟨rfl,_⟩|⟨a,len,cap,m,n,D,Pl,rfl,_,hl,hm,hmm,_,hel⟩
 ·exact ⟨[],⟨none,0,rfl,Nat.le_refl _,rfl,by simp,fun h=>by simp at h⟩,by simp,fun x hx=>by simp at hx⟩
 ·have hm2:len<=m:=by rw [hmm];split<;>omega
  obtain ⟨l,hll,hq⟩:=Eo (Q:=fun i a'=>∃c,c.length=d.sz/\d.K W a' c/\(∀j u,c[j]? =some u->W.cell? (a.add (i*d.sz+j))=some u)/\G a') len (fun i hi=>by
   obtain ⟨cs',hcs,htr⟩:=hel i (by omega)
   obtain ⟨a',hk,hg⟩:=h.2 enc W held n cs' _ htr
   obtain ⟨hlen,hce⟩:=a0k hcs
   refine ⟨a',cs',by rw [hlen,h.1],hk,fun j u hu=>?_,hg⟩
   have:=hce j u hu
   rw [h.1,Addr.add_add] at this
   exact this)
  unfold maxLen at hm⊢
  refine ⟨l,⟨some a,cap,by rw [hll],by omega,⟨rfl,by omega,fun _=>⟨a,rfl,fun j p hj=>?_⟩⟩⟩,by omega,fun x hx=>?_⟩
  ·obtain ⟨c,h1,h2,h3,_⟩:=hq j p hj
   exact ⟨c,h1,h2,h3⟩
  ·obtain ⟨i,hi⟩:=List.getElem?_of_mem hx
   obtain ⟨c,_,_,_,h4⟩:=hq i x hi
   exact h4
theorem Opens.pair {α β:Type} {a:Kd α} {b:Kd β} {Ga:α->Prop} {Gb:β->Prop} {W:World} {cs:List Value} {k:Nat}
 (h1:∃x,a.K W x (cs.take k)/\Ga x) (h2:∃y,b.K W y (cs.drop k)/\Gb y):∃p:α×β,(Kd.pair a b).K W p cs/\Ga p.1/\Gb p.2:=by
 obtain ⟨x,hx,gx⟩:=h1
 obtain ⟨y,hy,gy⟩:=h2
 exact ⟨(x,y),⟨cs.take k,cs.drop k,(List.take_append_drop _ _).symm,hx,hy⟩,gx,gy⟩
theorem Opens.iso {α β:Type} {d:Kd α} (f:β->α) (g:α->β) (hfg:∀x,f (g x)=x) {G:α->Prop} {W:World} {cs:List Value} (h:∃x,d.K W x cs/\G x):∃y:β,(Kd.iso d f).K W y cs/\G (f y):=by
 obtain ⟨x,hx,gx⟩:=h
 refine ⟨g x,?_,by rw [hfg];exact gx⟩
 show d.K W (f (g x)) cs
 rw [hfg];exact hx
theorem Opens.cons {α β:Type} {a:Kd α} {b:Kd β} {Ga:α->Prop} {Gb:β->Prop} {W:World} {cs:List Value} {o k:Nat}
 (h1:∃x,a.K W x ((cs.drop o).take k)/\Ga x) (h2:∃y,b.K W y (cs.drop (o+k))/\Gb y):∃p:α×β,(Kd.pair a b).K W p (cs.drop o)/\Ga p.1/\Gb p.2:=by
 obtain ⟨x,hx,gx⟩:=h1
 obtain ⟨y,hy,gy⟩:=h2
 exact ⟨(x,y),⟨(cs.drop o).take k,cs.drop (o+k),by rw [<-List.drop_drop,List.take_append_drop],hx,hy⟩,gx,gy⟩
theorem Opens.last {α:Type} {a:Kd α} {Ga:α->Prop} {W:World} {cs:List Value} {o k:Nat} (hl:cs.length=o+k)
 (h1:∃x,a.K W x ((cs.drop o).take k)/\Ga x):∃x,a.K W x (cs.drop o)/\Ga x:=by
 rw [List.take_of_length_le (by rw [List.length_drop];omega)] at h1
 exact h1
end Go.Proofs.Ytnhknojfpjheoaa.Opens
namespace Go.Proofs.Ytnhknojfpjheoaa.EvKit
open Go.RowKit Go.Proofs.YtnhknojfpjheoaaW.PrintWords
set_option linter.all false
theorem rN {n:Int} (h1: -9223372036854775808<=n) (h2:n<=9223372036854775807):wrap64 n=n:=by
 unfold wrap64;omega
theorem eD {n:Nat} (h2:n<=9223372036854775806):wrap64 ((n:Int)+1)=((n+1:Nat):Int):=by
 unfold wrap64;omega
theorem Ev.succ {α:Type} {g:Nat->Option α} {r:α} (h:Ev (fun k=>g (k+1)) r):Ev g r:=Ev.step (fun _=>rfl) h
theorem Ev.some {α:Type} (r:α):Ev (fun _=>Option.some r) r:=Ev.now r
theorem Ev.loop {α:Type} {g:Nat->Nat->Option α} {n:Nat} {R:Nat->α} (hend:Ev (fun k=>g k n) (R n)) (hstep:∀i,i<n->Ev (fun k=>g k (i+1)) (R (i+1))->Ev (fun k=>g k i) (R i)):
 ∀i,i<=n->Ev (fun k=>g k i) (R i):=by
 have h:∀d i,i+d=n->Ev (fun k=>g k i) (R i):=by
  intro d
  induction d with
  |zero=>intro i hi;have:i=n:=by omega
         subst this;exact hend
  |succ d ih=>intro i hi;exact hstep i (by omega) (ih (i+1) (by omega))
 intro i hi
 exact h (n - i) i (by omega)
theorem qa {l:List Int} {i:Nat} (h:i<l.length):rd l (i:Int)=l[i]:=by
 unfold rd;simp [List.getD_eq_getElem?_getD,h]
theorem yK {α:Type} {l:List α} {i:Nat} (h:i<l.length):l.drop i=l[i]::l.drop (i+1):=List.drop_eq_getElem_cons h
theorem Ev.pos {α:Type} {c:Prop} [Decidable c] {A B:Nat->Option α} {r:α} (h:c) (hA:Ev A r):Ev (fun k=>if c then A k else B k) r:=Ev.congr (fun _=>if_pos h) hA
theorem Ev.neg {α:Type} {c:Prop} [Decidable c] {A B:Nat->Option α} {r:α} (h:¬c) (hB:Ev B r):Ev (fun k=>if c then A k else B k) r:=Ev.congr (fun _=>if_neg h) hB
theorem Ev.to {α:Type} {g:Nat->Option α} {r r':α} (h:Ev g r) (e:r=r'):Ev g r':=e ▸ h
theorem Ev.val {α β:Type} {o:Option α} {x:α} {g:α->Nat->Option β} {r:β} (h:o=Option.some x) (hg:Ev (g x) r):Ev (fun k=>o.bind fun y=>g y k) r:=by
 subst h;exact hg
theorem Ev.all {α:Type} (l:List α) (p:α->Bool) {g:Nat->Nat->Option Bool} {R:Bool} (hend:l.all p=true->Ev (fun k=>g k l.length) R)
 (hyes:∀i (h:i<l.length),p l[i]=true->∀R',Ev (fun k=>g k (i+1)) R'->Ev (fun k=>g k i) R') (hno:∀i (h:i<l.length),p l[i]=false->Ev (fun k=>g k i) false):
 Ev (fun k=>g k 0) (l.all p&&R):=by
 have key:∀d i,i+d=l.length->((l.drop i).all p=true->Ev (fun k=>g k l.length) R)->Ev (fun k=>g k i) ((l.drop i).all p&&R):=by
  intro d
  induction d with
  |zero=>
   intro i hi he
   have:i=l.length:=by omega
   subst this
   simpa using he (by simp)
  |succ d ih=>
   intro i hi he
   have hlt:i<l.length:=by omega
   rw [List.drop_eq_getElem_cons hlt,List.all_cons] at he⊢
   cases hp:p l[i] with
   |true=>rw [Bool.true_and];exact hyes i hlt hp _ (ih (i+1) (by omega) (fun h=>he (by rw [hp,h];rfl)))
   |false=>simpa using hno i hlt hp
 simpa using key l.length 0 (by omega) (by simpa using hend)
end Go.Proofs.Ytnhknojfpjheoaa.EvKit
namespace Go.Proofs.Ytnhknojfpjheoaa.PT
open Go.RowKit Go.Proofs.YtnhknojfpjheoaaW.PrintWords
set_option linter.all false
theorem a5C (w:World) (o:Obj):(w.alloc o).heap.size=w.heap.size+1:=Array.size_push _
end Go.Proofs.Ytnhknojfpjheoaa.PT
namespace Go.Proofs.Ytnhknojfpjheoaa.P
open Go.RowKit Go.Proofs.YtnhknojfpjheoaaW.PrintWords Go.Proofs.YtnhknojfpjheoaaW.PrintLast Go.Proofs.YtnhknojfpjheoaaW.PrintMore
attribute [local go_sem] max2_int min2_int max_two min_two max_three min_three max_four min_four
set_option linter.all false
def a7Z:Option Int->Value
 |none=> .nilIface
 |some c=> .iface 0 (.int .i64 c)
theorem aM:a7Z none= .nilIface:=rfl
theorem aQ (c:Int):a7Z (some c)= .iface 0 (.int .i64 c):=rfl
theorem info3:(Try.prog.info? 3).map (fun i=>(i.zero,i.size,i.bytes))=some (some (.int .i64 0),1,8):=by kernel_rfl
theorem rZ:(Try.prog.info? 22).map (fun i=>(i.zero,i.size,i.bytes))=some (some (.slice none 0 0),1,24):=by kernel_rfl
theorem WD:(Try.prog.info? 26).map (fun i=>(i.zero,i.size,i.bytes))=some (some (.agg #[(.int .i64 0),(.int .i64 0)]),2,16):=by kernel_rfl
theorem GL:(Try.prog.info? 49).map (fun i=>(i.zero,i.size,i.bytes))=some (some (.agg #[(.slice none 0 0),(.bool false),(.int .i64 0)]),3,40):=by kernel_rfl
def eu (xs:List (List Int)) (i:Int):(List Int):=xs.getD i.toNat ([]:List Int)
theorem qP {w:World} {A:Option Addr} {n:Nat} {xs:List (List Int)} (h:Kd.C (Kd.slice 3 (Kd.int .i64)) w A n xs) (i:Int) (h0:0<=i) (h1:i<n):∃ad A0 c0,A=some ad/\w.cell? (ad.add i.toNat)=some (.slice A0 (eu xs i).length c0)/\(eu xs i).length<=c0/\(Kd.int .i64).C w A0 (eu xs i).length (eu xs i):=by
 obtain ⟨ad,c,e,_,hK,hc0⟩:=Kd.Ug h ([]:List Int) i h0 h1
 have hc:∀j u,c[j]? =some u->w.cell? (ad.add (i.toNat*1+j))=some u:=hc0
 obtain ⟨A0,c0,rfl,l0,g0⟩:=hK
 exact ⟨ad,A0,c0,e,by have hq:=hc 0 _ rfl;rwa [Nat.mul_one,Nat.add_zero] at hq,l0,g0⟩
structure bV where
 f0:Int
 f1:Int
def z26:bV:=⟨(0:Int),(0:Int)⟩
def fD:Kd bV:=Kd.iso (Kd.pair (Kd.int .i64) (Kd.int .i64)) (fun x:bV=>(x.f0,x.f1))
theorem a0l {w:World} {x:bV} {cs:List Value} (h:fD.K w x cs):cs=[.int .i64 x.f0,.int .i64 x.f1]:=by
 obtain ⟨_,_,rfl,rfl,rfl⟩:=h
 exact rfl
theorem uu {w:World} {base:Nat} {ok:Nat->Prop} {x:bV} {cs:List Value} (h:fD.M w base ok x cs):cs=[.int .i64 x.f0,.int .i64 x.f1]:=by
 obtain ⟨_,_,rfl,rfl,rfl⟩:=h
 exact rfl
theorem a8a (w:World) (x:bV):fD.K w x [.int .i64 x.f0,.int .i64 x.f1]:=⟨[.int .i64 x.f0],[.int .i64 x.f1],rfl,rfl,rfl⟩
theorem Dl (w:World) (base:Nat) (ok:Nat->Prop) (x:bV):fD.M w base ok x [.int .i64 x.f0,.int .i64 x.f1]:=⟨[.int .i64 x.f0],[.int .i64 x.f1],rfl,rfl,rfl⟩
def bh (xs:List bV) (i:Int):bV:=xs.getD i.toNat z26
theorem iI {w:World} {A:Option Addr} {n:Nat} {xs:List bV} (h:Kd.C fD w A n xs) (i:Int) (h0:0<=i) (h1:i<n):∃ad,A=some ad/\w.cell? (ad.add (i.toNat*2))=some (.int .i64 (bh xs i).f0)/\w.cell? ⟨(ad.add (i.toNat*2)).block,(ad.add (i.toNat*2)).off+1,none⟩=some (.int .i64 (bh xs i).f1):=by
 obtain ⟨ad,c,e,_,hK,hc0⟩:=Kd.Ug h z26 i h0 h1
 have hc:∀j u,c[j]? =some u->w.cell? (ad.add (i.toNat*2+j))=some u:=hc0
 obtain rfl:=a0l hK
 exact ⟨ad,e,hc 0 _ rfl,by rw [<-BF _ _ 1 (by omega)];exact hc 1 _ rfl⟩
structure cC where
 f0:(List Int)
 f1:Bool
 f2:Int
def z49:cC:=⟨([]:List Int),false,(0:Int)⟩
def jh:Kd cC:=Kd.iso (Kd.pair (Kd.slice 3 (Kd.int .i64)) (Kd.pair Kd.bool (Kd.int .i64))) (fun x:cC=>(x.f0,x.f1,x.f2))
theorem a0m {w:World} {x:cC} {cs:List Value} (h:jh.K w x cs):∃A0 c0,cs=[.slice A0 x.f0.length c0,.bool x.f1,.int .i64 x.f2]/\x.f0.length<=c0/\(Kd.int .i64).C w A0 x.f0.length x.f0:=by
 obtain ⟨_,_,rfl,⟨A0,c0,rfl,l0,g0⟩,⟨_,_,rfl,rfl,rfl⟩⟩:=h
 exact ⟨A0,c0,rfl,l0,g0⟩
theorem a8b (w:World) (x:cC) {A0:Option Addr} {c0:Nat} (l0:x.f0.length<=c0) (g0:(Kd.int .i64).C w A0 x.f0.length x.f0):jh.K w x [.slice A0 x.f0.length c0,.bool x.f1,.int .i64 x.f2]:=⟨[.slice A0 x.f0.length c0],[.bool x.f1,.int .i64 x.f2],rfl,⟨A0,c0,rfl,l0,g0⟩,⟨[.bool x.f1],[.int .i64 x.f2],rfl,rfl,rfl⟩⟩
theorem Dm (w:World) (base:Nat) (ok:Nat->Prop) (x:cC) {v0:Value} (g0:(Kd.int .i64).R 3 w base ok v0 x.f0):jh.M w base ok x [v0,.bool x.f1,.int .i64 x.f2]:=⟨[v0],[.bool x.f1,.int .i64 x.f2],rfl,⟨v0,rfl,g0⟩,⟨[.bool x.f1],[.int .i64 x.f2],rfl,rfl,rfl⟩⟩
def se (xs:List cC) (i:Int):cC:=xs.getD i.toNat z49
theorem Ol {w:World} {A:Option Addr} {n:Nat} {xs:List cC} (h:Kd.C jh w A n xs) (i:Int) (h0:0<=i) (h1:i<n):∃ad A0 c0,A=some ad/\w.cell? (ad.add (i.toNat*3))=some (.slice A0 (se xs i).f0.length c0)/\w.cell? ⟨(ad.add (i.toNat*3)).block,(ad.add (i.toNat*3)).off+1,none⟩=some (.bool (se xs i).f1)/\w.cell? ⟨(ad.add (i.toNat*3)).block,(ad.add (i.toNat*3)).off+2,none⟩=some (.int .i64 (se xs i).f2)/\(se xs i).f0.length<=c0/\(Kd.int .i64).C w A0 (se xs i).f0.length (se xs i).f0:=by
 obtain ⟨ad,c,e,_,hK,hc0⟩:=Kd.Ug h z49 i h0 h1
 have hc:∀j u,c[j]? =some u->w.cell? (ad.add (i.toNat*3+j))=some u:=hc0
 obtain ⟨A0,c0,rfl,l0,g0⟩:=a0m hK
 exact ⟨ad,A0,c0,e,hc 0 _ rfl,by rw [<-BF _ _ 1 (by omega)];exact hc 1 _ rfl,by rw [<-BF _ _ 2 (by omega)];exact hc 2 _ rfl,l0,g0⟩
end Go.Proofs.Ytnhknojfpjheoaa.P
namespace Go.Proofs.Ytnhknojfpjheoaa.PT
open Go.RowKit Go.Proofs.Ytnhknojfpjheoaa.P Go.Proofs.YtnhknojfpjheoaaW.PrintWords Go.Proofs.YtnhknojfpjheoaaW.PrintLast Go.Proofs.Ytnhknojfpjheoaa.EvKit
set_option linter.all false
structure Tr (S:Nat->Prop) (W W':World):Prop where
 os:W'.os=W.os
 tape:W'.tape=W.tape
 output:W'.output=W.output
 size:W.heap.size<=W'.heap.size
 block:∀k,k<W.heap.size->¬S k->W'.heap[k]? =W.heap[k]?
theorem Tr.wE {W W':World} (h:Below W.heap.size W W'):Tr (fun _=>False) W W':=⟨h.os,h.tape,h.output,h.size,fun k hk _=>h.block k hk⟩
theorem Tr.below {S:Nat->Prop} {W W':World} {B:Nat} (h:Tr S W W') (hS:∀k,S k->B<=k) (hB:B<=W.heap.size):Below B W W':=⟨h.os,h.tape,h.output,by have:=h.size;omega,fun k hk=>h.block k (by omega) (fun hs=>by have:=hS k hs;omega)⟩
theorem Tr.trans {S S' T:Nat->Prop} {W W' W'':World} (h:Tr S W W') (h':Tr S' W' W'') (h1:∀k,S k->T k) (h2:∀k,S' k->k<W.heap.size->T k):Tr T W W'':=
 ⟨h'.os.trans h.os,h'.tape.trans h.tape,h'.output.trans h.output,Nat.le_trans h.size h'.size,fun k hk hn=>(h'.block k (Nat.lt_of_lt_of_le hk h.size) (fun hs=>hn (h2 k hs hk))).trans (h.block k hk (fun hs=>hn (h1 k hs)))⟩
theorem Tr.refl (S:Nat->Prop) (W:World):Tr S W W:=⟨rfl,rfl,rfl,Nat.le_refl _,fun _ _ _=>rfl⟩
structure Ow (α:Type) where
 kd:Kd α
 own:World->α->List Value->List Nat->Prop
 rd:∀{W x cs bs},own W x cs bs->kd.K W x cs
 lt:∀{W x cs bs},own W x cs bs->∀b,b∈bs->b<W.heap.size
 nodup:∀{W x cs bs},own W x cs bs->bs.Nodup
 move:∀{W W' x cs bs},own W x cs bs->(∀b,b∈bs->W'.heap[b]? =W.heap[b]?)->own W' x cs bs
namespace Ow
variable {α β:Type} {W W':World}
theorem tr {D:Ow α} {x:α} {cs:List Value} {bs:List Nat} {S:Nat->Prop} (h:D.own W x cs bs) (t:Tr S W W') (hs:∀b,b∈bs->¬S b):D.own W' x cs bs:=D.move h (fun b hb=>t.block b (D.lt h b hb) (hs b hb))
def scalar (enc:α->Value) (h1:∀x,(enc x).oneCell'=true):Ow α where
 kd:=Kd.scalar enc h1
 own:=fun _ x cs bs=>cs=[enc x]/\bs=[]
 rd:=fun h=>h.1
 lt:=fun h b hb=>by rw [h.2] at hb;cases hb
 nodup:=fun h=>by rw [h.2];exact List.nodup_nil
 move:=fun h _=>h
def int:Ow Int:=scalar (Value.int .i64) (fun _=>rfl)
def string:Ow ByteArray:=scalar Value.string (fun _=>rfl)
def bool:Ow Bool:=scalar Value.bool (fun _=>rfl)
def pair (A:Ow α) (B:Ow β):Ow (α×β) where
 kd:=Kd.pair A.kd B.kd
 own:=fun W x cs bs=>∃c1 c2 b1 b2,cs=c1++c2/\bs=b1++b2/\bs.Nodup/\A.own W x.1 c1 b1/\B.own W x.2 c2 b2
 rd:=fun ⟨c1,c2,_,_,h,_,_,ha,hb⟩=>⟨c1,c2,h,A.rd ha,B.rd hb⟩
 lt:=by
  rintro W x cs bs ⟨c1,c2,b1,b2,_,rfl,_,ha,hb⟩ b h
  rcases List.mem_append.1 h with h|h
  ·exact A.lt ha b h
  ·exact B.lt hb b h
 nodup:=fun ⟨_,_,_,_,_,_,h,_⟩=>h
 move:=by
  rintro W W' x cs bs ⟨c1,c2,b1,b2,h1,rfl,h3,ha,hb⟩ hm
  exact ⟨c1,c2,b1,b2,h1,rfl,h3,A.move ha (fun b h=>hm b (List.mem_append_left _ h)),B.move hb (fun b h=>hm b (List.mem_append_right _ h))⟩
theorem Dn {A:Ow α} {B:Ow β} {x:α} {y:β} {c1 c2:List Value} {b1 b2:List Nat} (ha:A.own W x c1 b1) (hb:B.own W y c2 b2) (hd:∀b,b∈b1->b∈b2->False):(pair A B).own W (x,y) (c1++c2) (b1++b2):=
 ⟨c1,c2,b1,b2,rfl,rfl,List.nodup_append.2 ⟨A.nodup ha,B.nodup hb,fun a h b h' e=>hd a h (e ▸ h')⟩,ha,hb⟩
def seg (sz:Nat) (cur:Array Value) (j:Nat):List Value:=(cur.toList.drop (j*sz)).take sz
def slice (e:Nat) (D:Ow α):Ow (List α) where
 kd:=Kd.slice e D.kd
 own:=fun W xs cs bs=>(xs=[]/\cs=[.slice none 0 0]/\bs=[])∨
  ∃(g:Nat) (cap:Nat) (cur:Array Value) (kO:List (List Nat)),cs=[.slice (some ⟨g,0,none⟩) xs.length cap]/\W.heap[g]? =some (.cells cur e (0,0))/\xs.length<=cap/\cap<=maxLen/\cur.size=cap*D.kd.sz/\
   bs=g::kO.flatten/\bs.Nodup/\kO.length=xs.length/\∀j,(h:j<xs.length)->(h':j<kO.length)->D.own W xs[j] (seg D.kd.sz cur j) kO[j]
 rd:=by
  rintro W xs cs bs (⟨rfl,rfl,_⟩|⟨g,cap,cur,kO,rfl,hg,hl,hm,hc,_,_,hb,hj⟩)
  ·exact ⟨none,0,rfl,Nat.le_refl _,rfl,by simp,fun h=>absurd h (by simp)⟩
  ·refine ⟨some ⟨g,0,none⟩,cap,rfl,hl,rfl,by unfold maxLen at hm;omega,fun _=>⟨_,rfl,fun j p hp=>?_⟩⟩
   obtain ⟨hlt,rfl⟩:=List.getElem?_eq_some_iff.1 hp
   have hD:=D.rd (hj j hlt (by omega))
   refine ⟨seg D.kd.sz cur j,D.kd.iW hD,hD,fun i u hu=>?_⟩
   have hi:i<D.kd.sz:=by
    have:=(List.getElem?_eq_some_iff.1 hu).1
    rw [D.kd.iW hD] at this;exact this
   have:(⟨g,0,none⟩:Addr).add (j*D.kd.sz+i)=⟨g,j*D.kd.sz+i,none⟩:=add_plain _ _
   rw [this,ag hg]
   unfold seg at hu
   rw [List.getElem?_take,if_pos hi,List.getElem?_drop] at hu
   rw [<-Array.getElem?_toList];exact hu
 lt:=by
  rintro W xs cs bs (⟨_,_,rfl⟩|⟨g,cap,cur,kO,_,hg,_,_,_,rfl,_,hb,hj⟩) b h
  ·cases h
  ·rcases List.mem_cons.1 h with rfl|h
   ·exact aY hg
   ·obtain ⟨l,hl,hbl⟩:=List.mem_flatten.1 h
    obtain ⟨j,hlt,rfl⟩:=List.getElem_of_mem hl
    exact D.lt (hj j (by omega) hlt) b hbl
 nodup:=by
  rintro W xs cs bs (⟨_,_,rfl⟩|⟨g,cap,cur,kO,_,_,_,_,_,_,h,_⟩)
  ·exact List.nodup_nil
  ·exact h
 move:=by
  rintro W W' xs cs bs (h|⟨g,cap,cur,kO,h1,hg,h3,h4,h5,rfl,h7,h8,hj⟩) hm
  ·exact .inl h
  ·refine .inr ⟨g,cap,cur,kO,h1,(hm g List.mem_cons_self).trans hg,h3,h4,h5,rfl,h7,h8,fun j h h'=>D.move (hj j h h') (fun b hb=>hm b (List.mem_cons_of_mem _ (List.mem_flatten.2 ⟨_,List.getElem_mem h',hb⟩)))⟩
structure Fit (D:Ow α):Prop where
 of:∀{W base ok x cs},D.kd.M W base ok x cs->∃bs,D.own W x cs bs/\∀b,b∈bs->ok b/\base<=b
 put:∀{W base} {ok:Nat->Prop} {x cs bs},D.own W x cs bs->(∀b,b∈bs->ok b/\base<=b)->D.kd.M W base ok x cs
theorem GM (enc:α->Value) (h1:∀x,(enc x).oneCell'=true):Fit (scalar enc h1):=⟨fun h=>⟨[],⟨h,rfl⟩,fun b hb=>by cases hb⟩,fun h _=>h.1⟩
theorem RJ:Fit int:=GM _ _
theorem b7k {D:Ow α} (F:Fit D) {e base:Nat} {ok:Nat->Prop} {v:Value} {xs:List α} (h:Kd.S D.kd e W base ok v xs):∃bs,(slice e D).own W xs [v] bs/\∀b,b∈bs->ok b/\base<=b:=by
 obtain ⟨f,h0,inner,⟨hl,ho⟩,hr⟩:=h
 have hz:xs.zipIdx.length=xs.length:=List.length_zipIdx
 rw [hz] at hl ho
 rcases ho with ⟨rfl,h00⟩|⟨g,cap,cur,rfl,hg,hh,h1,h2,h3,h4⟩
 ·have:xs=[]:=List.eq_nil_of_length_eq_zero h00
  subst this
  exact ⟨[],.inl ⟨rfl,rfl,rfl⟩,fun b hb=>by cases hb⟩
 ·have hs:(Kd.tag f D.kd).sz=D.kd.sz:=rfl
  rw [hs] at h3 h4 hl
  have BL:∀j,j<xs.length->(inner.drop (j*D.kd.sz)).take D.kd.sz=seg D.kd.sz cur j:=fun j hj=>by
   rw [<-h4,List.drop_take,List.take_take]
   unfold seg
   congr 1
   have:j*D.kd.sz+D.kd.sz<=xs.length*D.kd.sz:=by rw [<-Nat.succ_mul];exact Nat.mul_le_mul_right _ hj
   omega
  have hex:∀j:Fin xs.length,∃bs,D.own W xs[j.1] (seg D.kd.sz cur j.1) bs/\∀b,b∈bs->((ok b/\b≠g)/\f b=j.1)/\base<=b:=fun j=>by
   have hM:=hr.2 j.1 (xs[j.1],j.1) (by rw [List.getElem?_zipIdx,List.getElem?_eq_getElem j.2];simp)
   obtain ⟨bs,hb1,hb2⟩:=F.of hM
   rw [hs,BL j.1 j.2] at hb1
   exact ⟨bs,hb1,fun b hb=>⟨⟨⟨(hb2 b hb).1.1.1,fun e=>(hb2 b hb).1.1.2 (by rw [e];rfl)⟩,(hb2 b hb).1.2⟩,(hb2 b hb).2⟩⟩
  obtain ⟨bf,Om⟩:=Classical.axiomOfChoice hex
  let kO:=(List.finRange xs.length).map bf
  have hbl:kO.length=xs.length:=by simp [kO]
  have LW:∀j (h:j<kO.length),kO[j]=bf ⟨j,by omega⟩:=fun j h=>by simp [kO]
  refine ⟨g::kO.flatten,.inr ⟨g,cap,cur,kO,rfl,hh,h1,h2,h3,rfl,?_,hbl,fun j h h'=>?_⟩,fun b hb=>?_⟩
  ·rw [List.nodup_cons]
   refine ⟨fun hm=>?_,?_⟩
   ·obtain ⟨l,hl,Al⟩:=List.mem_flatten.1 hm
    obtain ⟨j,hlt,rfl⟩:=List.getElem_of_mem hl
    rw [LW j hlt] at Al
    exact ((Om ⟨j,by omega⟩).2 g Al).1.1.2 rfl
   ·unfold List.Nodup
    rw [List.pairwise_flatten]
    refine ⟨fun l hl=>?_,?_⟩
    ·obtain ⟨j,hlt,rfl⟩:=List.getElem_of_mem hl
     rw [LW j hlt]
     exact D.nodup (Om _).1
    ·rw [List.pairwise_iff_getElem]
     intro i j hi hj hij a ha b hb e
     rw [LW i hi] at ha
     rw [LW j hj] at hb
     have h5:=((Om _).2 a ha).1.2
     have h6:=((Om _).2 b hb).1.2
     rw [e] at h5
     rw [h5] at h6
     simp only at h6
     omega
  ·rw [LW j h'];exact (Om ⟨j,h⟩).1
  ·rcases List.mem_cons.1 hb with rfl|hb
   ·exact ⟨h0 b rfl,hg⟩
   ·obtain ⟨l,hl,Al⟩:=List.mem_flatten.1 hb
    obtain ⟨j,hlt,rfl⟩:=List.getElem_of_mem hl
    rw [LW j hlt] at Al
    exact ⟨((Om _).2 b Al).1.1.1,((Om _).2 b Al).2⟩
theorem a8d {D:Ow α} {e base:Nat} {ok:Nat->Prop} {v:Value} {xs:List α} (hE:∀{W base ok x cs},D.kd.M W base ok x cs->D.kd.M W base (fun _=>False) x cs) (h:D.kd.R e W base ok v xs):Kd.S D.kd e W base ok v xs:=by
 refine ⟨fun _=>0,h.1,?_⟩
 obtain ⟨h0,inner,ho,hr⟩:=h
 refine ⟨inner,by rw [List.length_zipIdx];exact ho,by rw [List.length_zipIdx];exact hr.1,fun j p hj=>?_⟩
 have hlt:j<xs.length:=by have:=(List.getElem?_eq_some_iff.1 hj).1;simpa using this
 have e:p=(xs[j],j):=by
  rw [List.getElem?_zipIdx] at hj
  simp [hlt] at hj
  exact hj.symm
 subst e
 exact D.kd.eK (fun _ hk=>hk.elim) (hE (hr.2 j _ (List.getElem?_eq_getElem hlt)))
theorem a0n {W:World} {base:Nat} {ok:Nat->Prop} {x:Int} {cs:List Value} (h:int.kd.M W base ok x cs):int.kd.M W base (fun _=>False) x cs:=h
open Classical in
theorem Up {D:Ow α} (F:Fit D) {e base:Nat} {ok:Nat->Prop} {v:Value} {xs:List α} {bs:List Nat} (h:(slice e D).own W xs [v] bs) (hb:∀b,b∈bs->ok b/\base<=b):Kd.S D.kd e W base ok v xs:=by
 rcases h with ⟨rfl,hv,rfl⟩|⟨g,cap,cur,kO,hv,hg,h1,h2,h3,rfl,hn,hl,hj⟩
 ·injection hv with hv;subst hv
  exact Kd.Ai _ _ _ _ _
 ·injection hv with hv;subst hv
  rw [List.nodup_cons] at hn
  let f:Nat->Nat:=fun k=>kO.findIdx (fun l=>decide (k∈l))
  have hf:∀j (h:j<kO.length) k,k∈kO[j]->f k=j:=by
   intro j h k hk
   have h5:=hn.2
   unfold List.Nodup at h5
   rw [List.pairwise_flatten] at h5
   have h6:=List.pairwise_iff_getElem.1 h5.2
   show kO.findIdx _=j
   rw [List.findIdx_eq h]
   refine ⟨by simpa using hk,fun i hi=>?_⟩
   have hil:i<kO.length:=by omega
   simp only [decide_eq_false_iff_not]
   intro hm
   exact h6 i j hil h hi k hm k hk rfl
  refine ⟨f,fun k hk=>?_,cur.toList.take (xs.length*D.kd.sz),⟨?_,.inr ⟨g,cap,cur,by rw [List.length_zipIdx],(hb g List.mem_cons_self).2,hg,by rw [List.length_zipIdx];exact h1,h2,h3,by rw [List.length_zipIdx];rfl⟩⟩,?_,fun j p hp=>?_⟩
  ·have:g=k:=by simpa [Value.ownBlock] using hk
   subst this
   exact (hb g List.mem_cons_self).1
  ·rw [List.length_zipIdx,List.length_take]
   have:cur.toList.length=cur.size:=by simp
   have h5:xs.length*D.kd.sz<=cap*D.kd.sz:=Nat.mul_le_mul_right _ h1
   show min _ _=xs.length*D.kd.sz
   omega
  ·rw [List.length_zipIdx,List.length_take]
   have:cur.toList.length=cur.size:=by simp
   have h5:xs.length*D.kd.sz<=cap*D.kd.sz:=Nat.mul_le_mul_right _ h1
   show min _ _=xs.length*D.kd.sz
   omega
  ·have hlt:j<xs.length:=by have:=(List.getElem?_eq_some_iff.1 hp).1;simpa using this
   have e:p=(xs[j],j):=by
    rw [List.getElem?_zipIdx] at hp
    simp [hlt] at hp
    exact hp.symm
   subst e
   have hD:=hj j hlt (by omega)
   have BL:((cur.toList.take (xs.length*D.kd.sz)).drop (j*D.kd.sz)).take D.kd.sz=seg D.kd.sz cur j:=by
    rw [List.drop_take,List.take_take]
    unfold seg
    congr 1
    have:j*D.kd.sz+D.kd.sz<=xs.length*D.kd.sz:=by rw [<-Nat.succ_mul];exact Nat.mul_le_mul_right _ hlt
    omega
   show D.kd.M W base _ xs[j] (((cur.toList.take (xs.length*D.kd.sz)).drop (j*D.kd.sz)).take D.kd.sz)
   rw [BL]
   refine F.put hD (fun b hb'=>?_)
   have hm:b∈kO.flatten:=List.mem_flatten.2 ⟨_,List.getElem_mem (by omega),hb'⟩
   refine ⟨⟨⟨(hb b (List.mem_cons_of_mem _ hm)).1,fun e=>hn.1 ?_⟩,hf j (by omega) b hb'⟩,(hb b (List.mem_cons_of_mem _ hm)).2⟩
   have:b=g:=by simpa [Value.ownBlock] using e
   rw [<-this];exact hm
theorem yL {D:Ow α} (F:Fit D) (hE:∀{W base ok x cs},D.kd.M W base ok x cs->D.kd.M W base (fun _=>False) x cs) (e:Nat):Fit (slice e D):=
 ⟨fun ⟨v,hv,h⟩=>by subst hv;exact b7k F (a8d hE h),fun {W base ok x cs bs} h hb=>by
  have hv:∃v,cs=[v]:=by
   rcases h with ⟨_,rfl,_⟩|⟨_,_,_,_,rfl,_⟩
   ·exact ⟨_,rfl⟩
   ·exact ⟨_,rfl⟩
  obtain ⟨v,rfl⟩:=hv
  exact ⟨v,rfl,Kd.Bk (Up F h hb)⟩⟩
end Ow
abbrev yM:Ow (List Int):=Ow.slice 3 Ow.int
abbrev a0o:Ow (List (List Int)):=Ow.slice 22 yM
theorem a5D:Ow.Fit yM:=Ow.yL Ow.RJ Ow.a0n _
theorem BO {W:World} {base:Nat} {ok:Nat->Prop} {v:Value} {xs:List Int} (h:Kd.R (Kd.int .i64) 3 W base ok v xs):∃bs,yM.own W xs [v] bs/\∀b,b∈bs->ok b/\base<=b:=a5D.of (x:=xs) ⟨v,rfl,h⟩
theorem WE {W:World} {base:Nat} {ok:Nat->Prop} {v:Value} {xs:List Int} {bs:List Nat} (h:yM.own W xs [v] bs) (hb:∀b,b∈bs->ok b/\base<=b):Kd.R (Kd.int .i64) 3 W base ok v xs:=Kd.Bk (Ow.Up Ow.RJ h hb)
end Go.Proofs.Ytnhknojfpjheoaa.PT
namespace Go.Proofs.Ytnhknojfpjheoaa.P
open Go.RowKit Go.Proofs.YtnhknojfpjheoaaW.PrintWords Go.Proofs.YtnhknojfpjheoaaW.PrintLast Go.Proofs.YtnhknojfpjheoaaW.PrintMore
attribute [local go_sem] max2_int min2_int max_two min_two max_three min_three max_four min_four
set_option linter.all false
def qF.f (l0:List Int) (a1:Int):Option (Int):=if (wrap64 (a1 -(l0.length:Int)))<0 then (some (-1)) else (some (wrap64 (a1 -(l0.length:Int))))
set_option maxHeartbeats 8000000 in
set_option maxRecDepth 100000 in
theorem qF.calls (A0:Option Addr) (c0:Nat) (l0:List Int) (a1:Int) (r:Int) (w:World) (fE:Kd.C (Kd.int .i64) w A0 l0.length l0) (hc0:l0.length<=c0) (h:qF.f l0 a1=some r):
 Calls Try.prog 21 #[.slice A0 l0.length c0,.int .i64 a1] w fun e w'=>e= .returned (.int .i64 r)/\bl w w':=by
 have eL:=Aside0.mk fE
 have kB:=Aside0.mk hc0
 clear fE hc0
 have H:(if (wrap64 (a1 -(l0.length:Int)))<0 then (some (-1)) else (some (wrap64 (a1 -(l0.length:Int)))))=some r:=h
 clear h
 by_cases c3:(wrap64 (a1 -(l0.length:Int)))<0
 ·rw [if_pos c3] at H
  have gw:decide ((wrap64 (a1 -(l0.length:Int)))<0)=true:=decide_eq_true c3
  clear c3
  obtain rfl:=Option.some.inj H
  go_enter Try.func21,Try.ntmps21
  go_wp2
  go_ret
  exact ⟨by first|rfl|(simp;done)|(simp [*];done),by repeat (first|exact bl.refl _|apply bl.step)⟩
 ·rw [if_neg c3] at H
  have gw:decide ((wrap64 (a1 -(l0.length:Int)))<0)=false:=decide_eq_false c3
  clear c3
  obtain rfl:=Option.some.inj H
  go_enter Try.func21,Try.ntmps21
  go_wp2
  go_ret
  exact ⟨by first|rfl|(simp;done)|(simp [*];done),by repeat (first|exact bl.refl _|apply bl.step)⟩
def dV.l0:Nat->List (List Int)->Int->Int->Option (Int)
 |0,_,_,_=>none
 |k+1,x0,x1,x5=>if x5<(x0.length:Int) then (if 0<=x5 then ((qF.f (eu x0 x5) x1).bind fun t102=>(if t102<0 then (some (-1)) else (dV.l0 k x0 t102 (wrap64 (x5+1))))) else (none)) else (some x1)
def dV.f (k:Nat) (l0:List (List Int)) (a1:Int):Option (Int):=if (wrap64 (a1 -(l0.length:Int)))<0 then (some (-1)) else (dV.l0 k l0 (wrap64 (a1 -(l0.length:Int))) 0)
theorem dV.cH:∀k,(∀y0 y1 y2,aW (dV.l0 k y0 y1 y2) (dV.l0 (k+1) y0 y1 y2))
 |0=>fun _ _ _ r h=>by simp [dV.l0] at h
 |k+1=>by
  have dP:=dV.cH k
  ·intro y0 y1 y2
   unfold dV.l0
   repeat' first
   |(with_reducible exact dP _ _ _)
   |(with_reducible exact aW.refl _)
   |(with_reducible exact aW.none _)
   |(with_reducible refine aW.ite ?_ ?_)
   |(with_reducible refine aW.bind ?_ (fun _=>?_))
theorem dV.mono:∀a0 a1 k,aW (dV.f k a0 a1) (dV.f (k+1) a0 a1):=by
 intro a0 a1 k
 have dP:=dV.cH k
 unfold dV.f
 repeat' first
  |(with_reducible exact dP _ _ _)
  |(with_reducible exact aW.refl _)
  |(with_reducible exact aW.none _)
  |(with_reducible refine aW.ite ?_ ?_)
  |(with_reducible refine aW.bind ?_ (fun _=>?_))
set_option maxHeartbeats 8000000 in
set_option maxRecDepth 100000 in
theorem dV.calls (k:Nat) (A0:Option Addr) (c0:Nat) (l0:List (List Int)) (a1:Int) (r:Int) (w:World) (fE:Kd.C (Kd.slice 3 (Kd.int .i64)) w A0 l0.length l0) (hc0:l0.length<=c0) (h:dV.f k l0 a1=some r):
 Calls Try.prog 5 #[.slice A0 l0.length c0,.int .i64 a1] w fun e w'=>e= .returned (.int .i64 r)/\bl w w':=by
 have eL:=Aside0.mk fE
 have kB:=Aside0.mk hc0
 clear fE hc0
 have H:(if (wrap64 (a1 -(l0.length:Int)))<0 then (some (-1)) else (dV.l0 k l0 (wrap64 (a1 -(l0.length:Int))) 0))=some r:=h
 clear h
 by_cases c3:(wrap64 (a1 -(l0.length:Int)))<0
 ·rw [if_pos c3] at H
  have gw:decide ((wrap64 (a1 -(l0.length:Int)))<0)=true:=decide_eq_true c3
  clear c3
  obtain rfl:=Option.some.inj H
  go_enter Try.func5,Try.ntmps5
  go_wp2
  go_ret
  exact ⟨by first|rfl|(simp;done)|(simp [*];done),by repeat (first|exact bl.refl _|apply bl.step)⟩
 ·rw [if_neg c3] at H
  have gw:decide ((wrap64 (a1 -(l0.length:Int)))<0)=false:=decide_eq_false c3
  clear c3
  have H':=Aside0.mk H
  clear H
  go_enter Try.func5,Try.ntmps5
  go_wp2
  go_loopg [1,5] k (fun kq v1 v5 w'=>∃(eE:Int) (aT:Int),v1= .int .i64 eE/\v5= .int .i64 aT/\Aside0 (dV.l0 kq l0 eE aT=some r)/\Aside0 (kq<=k)/\bl w w')
  case atStart=>exact ⟨(wrap64 (a1 -(l0.length:Int))),(0),(by first|rfl|(simp;done)|(simp [*];done)),(by first|rfl|(simp;done)|(simp [*];done)),H',⟨Nat.le_refl _⟩,by repeat (first|exact bl.refl _|apply bl.step)⟩
  case round=>
   clear H'
   try clear p2
   try clear c3
   try clear gw
   obtain ⟨eE,aT,rfl,rfl,HA,fI,⟨m1,rfl⟩⟩:=hrel
   cases gk with
   |zero=>exact absurd HA.out (by simp [dV.l0])
   |succ k1=>
    have H:=HA.out
    clear HA
    simp only [dV.l0] at H
    by_cases c4:aT<(l0.length:Int)
    ·rw [if_pos c4] at H
     have kP:decide (aT<(l0.length:Int))=true:=decide_eq_true c4
     clear c4
     by_cases c5:0<=aT
     ·rw [if_pos c5] at H
      have sZ:decide (0<=aT)=true:=decide_eq_true c5
      clear c5
      replace H:=Option.bind_eq_some_iff.mp H
      obtain ⟨t102,rO,H⟩:=H
      replace H:(if t102<0 then (some (-1)) else (dV.l0 k1 l0 t102 (wrap64 (aT+1))))=some r:=H
      have A6:=Aside0.mk rO
      clear rO
      by_cases c7:t102<0
      ·rw [if_pos c7] at H
       have si:decide (t102<0)=true:=decide_eq_true c7
       clear c7
       obtain rfl:=Option.some.inj H
       have Fa:0<=(aT:Int):=of_decide_eq_true (by first|(with_reducible assumption)|assumption)
       have Fb:aT<(l0.length:Int):=of_decide_eq_true (by first|(with_reducible assumption)|assumption)
       obtain ⟨b2Q,Oo,Oq,a0p,a5E,yN,yO⟩:=qP eL.out aT Fa Fb
       cases a0p
       have JG:=Aside0.mk yO
       have JH:=Aside0.mk yN
       clear yO yN
       replace Fa:=eq_true Fa
       replace Fb:=eq_true Fb
       go_wp2_with (first|((with_reducible refine aZ (f:=21) rfl ?_);refine bO (some 23) rfl rfl Try.func21 (by kernel_rfl) rfl #[.slice Oo (eu l0 aT).length Oq,.int .i64 eE] rfl (by (try simp only [List.map_toArray,List.map_cons,List.map_nil]);first|done|rfl|(simp only [List.length_drop,List.length_take];rfl)) ?_;(with_reducible refine (qF.calls _ _ (eu l0 aT) eE t102 _ ?bX ?bY A6.out).mono ?_);(case bX=>repeat (first|exact JG.out|(with_reducible refine Kd.cO ?_ _)|(with_reducible refine Kd.cP ?_ _)|(with_reducible refine Kd.dw ?_)));(case bY=>exact JH.out);rintro e w' ⟨rfl,⟨nd,rfl⟩⟩;refine ⟨_,rfl,?_⟩))
       go_ret
       exact ⟨by first|rfl|(simp;done)|(simp [*];done),by repeat (first|exact bl.refl _|apply bl.step)⟩
      ·rw [if_neg c7] at H
       have si:decide (t102<0)=false:=decide_eq_false c7
       clear c7
       have H':=Aside0.mk H
       clear H
       have Fa:0<=(aT:Int):=of_decide_eq_true (by first|(with_reducible assumption)|assumption)
       have Fb:aT<(l0.length:Int):=of_decide_eq_true (by first|(with_reducible assumption)|assumption)
       obtain ⟨b2Q,Oo,Oq,a0p,a5E,yN,yO⟩:=qP eL.out aT Fa Fb
       cases a0p
       have JG:=Aside0.mk yO
       have JH:=Aside0.mk yN
       clear yO yN
       replace Fa:=eq_true Fa
       replace Fb:=eq_true Fb
       go_wp2_with (first|((with_reducible refine aZ (f:=21) rfl ?_);refine bO (some 23) rfl rfl Try.func21 (by kernel_rfl) rfl #[.slice Oo (eu l0 aT).length Oq,.int .i64 eE] rfl (by (try simp only [List.map_toArray,List.map_cons,List.map_nil]);first|done|rfl|(simp only [List.length_drop,List.length_take];rfl)) ?_;(with_reducible refine (qF.calls _ _ (eu l0 aT) eE t102 _ ?bX ?bY A6.out).mono ?_);(case bX=>repeat (first|exact JG.out|(with_reducible refine Kd.cO ?_ _)|(with_reducible refine Kd.cP ?_ _)|(with_reducible refine Kd.dw ?_)));(case bY=>exact JH.out);rintro e w' ⟨rfl,⟨nd,rfl⟩⟩;refine ⟨_,rfl,?_⟩))
       go_roundg k1
       case measure=>have:=fI.out;omega
       case rel=>exact ⟨(t102),(wrap64 (aT+1)),(by first|rfl|(simp;done)|(simp [*];done)),(by first|rfl|(simp;done)|(simp [*];done)),H',⟨by have:=fI.out;omega⟩,by repeat (first|exact bl.refl _|apply bl.step)⟩
     ·rw [if_neg c5] at H
      exact absurd H (by simp)
    ·rw [if_neg c4] at H
     have kP:decide (aT<(l0.length:Int))=false:=decide_eq_false c4
     clear c4
     obtain rfl:=Option.some.inj H
     go_wp2
     go_ret
     exact ⟨by first|rfl|(simp;done)|(simp [*];done),by repeat (first|exact bl.refl _|apply bl.step)⟩
def dz.l0:Nat->List Int->List Int->Int->Option (List Int)
 |0,_,_,_=>none
 |k+1,x0,x3,x4=>if x4<(x0.length:Int) then (if 0<=x4 then (if x4<(x3.length:Int) then (dz.l0 k x0 (x3.set (x4:Int).toNat (rd x0 x4)) (wrap64 (x4+1))) else (none)) else (none)) else (some x3)
def dz.f (k:Nat) (l0:List Int):Option (List Int):=if 0<=(l0.length:Int) then (if ((l0.length:Int):Int).toNat<=35184372088832 then (dz.l0 k l0 (List.replicate ((l0.length:Int):Int).toNat 0) 0) else (none)) else (none)
theorem dz.cH:∀k,(∀y0 y1 y2,aW (dz.l0 k y0 y1 y2) (dz.l0 (k+1) y0 y1 y2))
 |0=>fun _ _ _ r h=>by simp [dz.l0] at h
 |k+1=>by
  have dP:=dz.cH k
  ·intro y0 y1 y2
   unfold dz.l0
   repeat' first
   |(with_reducible exact dP _ _ _)
   |(with_reducible exact aW.refl _)
   |(with_reducible exact aW.none _)
   |(with_reducible refine aW.ite ?_ ?_)
   |(with_reducible refine aW.bind ?_ (fun _=>?_))
theorem dz.mono:∀a0 k,aW (dz.f k a0) (dz.f (k+1) a0):=by
 intro a0 k
 have dP:=dz.cH k
 unfold dz.f
 repeat' first
  |(with_reducible exact dP _ _ _)
  |(with_reducible exact aW.refl _)
  |(with_reducible exact aW.none _)
  |(with_reducible refine aW.ite ?_ ?_)
  |(with_reducible refine aW.bind ?_ (fun _=>?_))
set_option maxHeartbeats 8000000 in
set_option maxRecDepth 100000 in
theorem dz.calls (k:Nat) (A0:Option Addr) (c0:Nat) (l0:List Int) (r:List Int) (w:World) (fE:Kd.C (Kd.int .i64) w A0 l0.length l0) (hc0:l0.length<=c0) (h:dz.f k l0=some r):
 Calls Try.prog 7 #[.slice A0 l0.length c0] w fun e w'=>∃mF:Value,e= .returned (mF)/\Kd.R (Kd.int .i64) 3 w' w.heap.size (fun _=>True) mF r/\Below w.heap.size w w':=by
 have eL:=Aside0.mk fE
 have kB:=Aside0.mk hc0
 clear fE hc0
 have HB:=Aside0.mk (Below.refl w.heap.size w)
 have H:(if 0<=(l0.length:Int) then (if ((l0.length:Int):Int).toNat<=35184372088832 then (dz.l0 k l0 (List.replicate ((l0.length:Int):Int).toNat 0) 0) else (none)) else (none))=some r:=h
 clear h
 by_cases c2:0<=(l0.length:Int)
 ·rw [if_pos c2] at H
  have Fe:=eq_true c2
  have a0q:decide (0<=(l0.length:Int))=true:=decide_eq_true c2
  clear c2
  by_cases c3:((l0.length:Int):Int).toNat<=35184372088832
  ·rw [if_pos c3] at H
   have gw:=eq_true c3
   have mz:decide (((l0.length:Int):Int).toNat<=35184372088832)=true:=decide_eq_true c3
   clear c3
   obtain ⟨a8e,GN⟩:∃y_:List Int,y_=(List.replicate ((l0.length:Int):Int).toNat 0):=⟨_,rfl⟩
   replace H:(dz.l0 k l0 a8e 0)=some r:=by first|(rw [GN];with_reducible exact H)|(have dK:=(Option.bind_some _ _).symm.trans H;rw [GN];with_reducible exact dK)|(have dK:=(Option.bind_some _ _).symm.trans H;with_reducible exact dK)|with_reducible exact H|(rw [GN];exact H)|exact H
   have a2V:=Aside0.mk GN
   clear GN
   have H':=Aside0.mk H
   clear H
   go_enter Try.func7,Try.ntmps7
   go_wp2_with (first|((with_reducible refine bk (N:=7) rfl ?_);refine Kd.Wn (Kd.int .i64) _ 3 rfl (N:=7) rfl 22 _ _ rfl (l0.length:Int) rfl rfl Try.underlying22 (.int .i64 0) 8 info3 rfl (by decide) (by omega) 0 (ok:=fun _=>True) (fN:=fun _=>True) rfl (fun _ hk=>hk) trivial (of_decide_eq_true (by first|(with_reducible assumption)|assumption)) (Nat.le_trans (Nat.mul_le_mul_right _ (of_decide_eq_true (by first|(with_reducible assumption)|assumption):(l0.length:Int).toNat<=35184372088832)) (by omega)) (Below.refl _ _) (Nat.le_refl _) ?_;intro v264 w4 uv hb uw mG;clear uw mG;(first|rw [<-a2V.out] at uv|(simp only [Int.reduceToNat] at uv;rw [<-a2V.out] at uv));have ay:=Aside0.mk (Kd.gG uv (av ax));have aA:=Aside0.mk (ai ax hb);clear HB;have b2R:=ay;have HB:=aA;clear ay aA;clear hb uv))
   go_loopg [4] k (fun kq v4 w'=>∃(gS:List Int) (dZ:Int),v4= .int .i64 dZ/\Aside0 (dz.l0 kq l0 gS dZ=some r)/\Aside0 (kq<=k)/\Aside0 (Kd.R (Kd.int .i64) 3 w' w.heap.size (fun _=>True) v264 gS)/\Aside0 (Below w.heap.size w w'))
   case atStart=>exact ⟨(a8e),(0),(by first|rfl|(simp;done)|(simp [*];done)),H',⟨Nat.le_refl _⟩,⟨by (with_reducible repeat (first|apply Kd.cF|apply Kd.dm|apply Kd.dO));exact b2R.out⟩,⟨ax⟩⟩
   case round=>
    clear H'
    try clear c2
    try clear Fe
    try clear a0q
    try clear p2
    try clear c3
    try clear gw
    try clear mz
    obtain ⟨gS,dZ,rfl,HA,fI,gT,HB⟩:=hrel
    cases gk with
    |zero=>exact absurd HA.out (by simp [dz.l0])
    |succ k1=>
     have H:=HA.out
     clear HA
     simp only [dz.l0] at H
     by_cases c6:dZ<(l0.length:Int)
     ·rw [if_pos c6] at H
      have oQ:decide (dZ<(l0.length:Int))=true:=decide_eq_true c6
      clear c6
      by_cases c7:0<=dZ
      ·rw [if_pos c7] at H
       have si:decide (0<=dZ)=true:=decide_eq_true c7
       clear c7
       by_cases c8:dZ<(gS.length:Int)
       ·rw [if_pos c8] at H
        have td:decide (dZ<(gS.length:Int))=true:=decide_eq_true c8
        clear c8
        obtain ⟨a0r,GP⟩:∃y_:List Int,y_=(gS.set (dZ:Int).toNat (rd l0 dZ)):=⟨_,rfl⟩
        replace H:(dz.l0 k1 l0 a0r (wrap64 (dZ+1)))=some r:=by first|(rw [GP];with_reducible exact H)|(have dK:=(Option.bind_some _ _).symm.trans H;rw [GP];with_reducible exact dK)|(have dK:=(Option.bind_some _ _).symm.trans H;with_reducible exact dK)|with_reducible exact H|(rw [GP];exact H)|exact H
        have b2S:=Aside0.mk GP
        clear GP
        have H':=Aside0.mk H
        clear H
        have a0s:0<=(dZ:Int):=of_decide_eq_true (by first|(with_reducible assumption)|assumption)
        have a0t:dZ<(l0.length:Int):=of_decide_eq_true (by first|(with_reducible assumption)|assumption)
        obtain ⟨ad266,b7l,JI⟩:=Kd.fC eL.out dZ a0s a0t
        cases b7l
        replace JI:=(HB.out.cell (World.block_lt_of_cell? w _ JI)).trans JI
        replace a0s:=eq_true a0s
        replace a0t:=eq_true a0t
        have p9:0<=(dZ:Int):=of_decide_eq_true (by first|(with_reducible assumption)|assumption)
        have q9:(dZ:Int)<((gS.length:Int):Int):=of_decide_eq_true (by first|(with_reducible assumption)|assumption)
        obtain ⟨go9,co9,eo9,gb9,gl9,cl9,Bn⟩:=Kd.GD gT.out (by omega)
        (first|cases eo9|(injection eo9 with sj Ot Ou;(first|subst sj|(injection sj with sj;subst sj));subst Ou;clear Ot))
        have GB9:=Aside0.mk gb9
        have GG9:=Aside0.mk Bn
        clear gb9 gl9 Bn
        obtain ⟨hx9_0,hf9_0⟩:=Kd.RA 0 gT.out (dZ:Int) p9 q9
        replace p9:=eq_true p9
        replace q9:=eq_true q9
        have Ff:=Kd.Wp gT.out (dZ:Int) (rd l0 dZ)
        go_wp2_with (first|((with_reducible refine iX (t:=3) (p:=20) rfl ?_);refine qE (t:=3) (p:=20) (v:=?a8g) (w1:=(wr.setCell ⟨go9,(dZ:Int).toNat,none⟩ (.int .i64 (rd l0 dZ)))) ?hg ?ho ?hn ?hr ?_;(case ho=>rfl);(case hg=>rfl);(case hn=>rfl);(case hr=>first|(go_simp;done)|(go_simp;rfl)|((try (obtain ⟨_,_,e_⟩:=Kd.cX gT.out;rw [e_]));(try (obtain ⟨_,_,e_⟩:=Kd.rL gT.out;rw [e_]));(try (obtain ⟨_,_,e_⟩:=Kd.wk gT.out;rw [e_]));(try (obtain ⟨_,_,e_⟩:=Kd.wm gT.out;rw [e_]));go_simp;first|done|rfl));intro fk hw;have hg:wr.grownBy fk (some go9):=(by rw [hw];exact Ff.2);have rP:Kd.R (Kd.int .i64) 3 fk w.heap.size (fun _=>True) (.slice (some ⟨go9,0,none⟩) gS.length co9) a0r:=(by rw [hw,b2S.out];exact Ff.1);clear Ff;have ay:=Aside0.mk (rP);have aA:=Aside0.mk ((by rw [hw];exact br (HB.out) GB9.out:Below w.heap.size w fk));clear gT;clear HB;have gT:=ay;have HB:=aA;clear ay aA;clear hg hw rP))
        go_roundg k1
        case measure=>have:=fI.out;omega
        case rel=>exact ⟨(a0r),(wrap64 (dZ+1)),(by first|rfl|(simp;done)|(simp [*];done)),H',⟨by have:=fI.out;omega⟩,⟨by (with_reducible repeat (first|apply Kd.cF|apply Kd.dm|apply Kd.dO));exact gT.out⟩,⟨ax⟩⟩
       ·rw [if_neg c8] at H
        exact absurd H (by simp)
      ·rw [if_neg c7] at H
       exact absurd H (by simp)
     ·rw [if_neg c6] at H
      have oQ:decide (dZ<(l0.length:Int))=false:=decide_eq_false c6
      clear c6
      obtain rfl:=Option.some.inj H
      go_wp2
      go_ret
      exact ⟨_,by first|rfl|(simp [aM,aQ]<;>rfl)|(simp [*,aM,aQ]<;>rfl),by (with_reducible repeat (first|apply Kd.cF|apply Kd.dm|apply Kd.dO));exact gT.out,ax⟩
  ·rw [if_neg c3] at H
   exact absurd H (by simp)
 ·rw [if_neg c2] at H
  exact absurd H (by simp)
def dF.l0:Nat->List (List Int)->List (List Int)->Int->Option ((List (List Int)))
 |0,_,_,_=>none
 |k+1,x0,x3,x4=>if x4<(x0.length:Int) then (if 0<=x4 then ((dz.f k (eu x0 x4)).bind fun JJ=>(if x4<(x3.length:Int) then (dF.l0 k x0 (x3.set (x4:Int).toNat JJ) (wrap64 (x4+1))) else (none))) else (none)) else (some x3)
def dF.f (k:Nat) (l0:List (List Int)):Option ((List (List Int))):=if 0<=(l0.length:Int) then (if ((l0.length:Int):Int).toNat<=11728124029610 then (dF.l0 k l0 (List.replicate ((l0.length:Int):Int).toNat []) 0) else (none)) else (none)
theorem dF.cH:∀k,(∀y0 y1 y2,aW (dF.l0 k y0 y1 y2) (dF.l0 (k+1) y0 y1 y2))
 |0=>fun _ _ _ r h=>by simp [dF.l0] at h
 |k+1=>by
  have dP:=dF.cH k
  ·intro y0 y1 y2
   unfold dF.l0
   repeat' first
   |(with_reducible exact dP _ _ _)
   |(with_reducible exact dz.mono _ _)
   |(with_reducible exact aW.refl _)
   |(with_reducible exact aW.none _)
   |(with_reducible refine aW.ite ?_ ?_)
   |(with_reducible refine aW.bind ?_ (fun _=>?_))
theorem dF.mono:∀a0 k,aW (dF.f k a0) (dF.f (k+1) a0):=by
 intro a0 k
 have dP:=dF.cH k
 unfold dF.f
 repeat' first
  |(with_reducible exact dP _ _ _)
  |(with_reducible exact dz.mono _ _)
  |(with_reducible exact aW.refl _)
  |(with_reducible exact aW.none _)
  |(with_reducible refine aW.ite ?_ ?_)
  |(with_reducible refine aW.bind ?_ (fun _=>?_))
set_option maxHeartbeats 8000000 in
set_option maxRecDepth 100000 in
theorem dF.calls (k:Nat) (A0:Option Addr) (c0:Nat) (l0:List (List Int)) (r:List (List Int)) (w:World) (fE:Kd.C (Kd.slice 3 (Kd.int .i64)) w A0 l0.length l0) (hc0:l0.length<=c0) (h:dF.f k l0=some r):
 Calls Try.prog 8 #[.slice A0 l0.length c0] w fun e w'=>∃mF:Value,e= .returned (mF)/\Kd.S (Kd.slice 3 (Kd.int .i64)) 22 w' w.heap.size (fun _=>True) mF r/\Below w.heap.size w w':=by
 have eL:=Aside0.mk fE
 have kB:=Aside0.mk hc0
 clear fE hc0
 have HB:=Aside0.mk (Below.refl w.heap.size w)
 have H:(if 0<=(l0.length:Int) then (if ((l0.length:Int):Int).toNat<=11728124029610 then (dF.l0 k l0 (List.replicate ((l0.length:Int):Int).toNat []) 0) else (none)) else (none))=some r:=h
 clear h
 by_cases c2:0<=(l0.length:Int)
 ·rw [if_pos c2] at H
  have Fe:=eq_true c2
  have a0q:decide (0<=(l0.length:Int))=true:=decide_eq_true c2
  clear c2
  by_cases c3:((l0.length:Int):Int).toNat<=11728124029610
  ·rw [if_pos c3] at H
   have gw:=eq_true c3
   have mz:decide (((l0.length:Int):Int).toNat<=11728124029610)=true:=decide_eq_true c3
   clear c3
   obtain ⟨a8h,GQ⟩:∃y_:List (List Int),y_=(List.replicate ((l0.length:Int):Int).toNat []):=⟨_,rfl⟩
   replace H:(dF.l0 k l0 a8h 0)=some r:=by first|(rw [GQ];with_reducible exact H)|(have dK:=(Option.bind_some _ _).symm.trans H;rw [GQ];with_reducible exact dK)|(have dK:=(Option.bind_some _ _).symm.trans H;with_reducible exact dK)|with_reducible exact H|(rw [GQ];exact H)|exact H
   have a2X:=Aside0.mk GQ
   clear GQ
   have H':=Aside0.mk H
   clear H
   go_enter Try.func8,Try.ntmps8
   go_wp2_with (first|((with_reducible refine bk (N:=7) rfl ?_);refine Kd.a7R (Kd.slice 3 (Kd.int .i64)) _ 22 rfl (N:=7) rfl 23 _ _ rfl (l0.length:Int) rfl rfl Try.underlying23 (.slice none 0 0) 24 rZ rfl (by decide) (by omega) [] (ok:=fun _=>True) (fN:=fun _=>True) ⟨_,rfl,Kd.rX _ _ _ _ _⟩ (fun _ hk=>hk) trivial (of_decide_eq_true (by first|(with_reducible assumption)|assumption)) (Nat.le_trans (Nat.mul_le_mul_right _ (of_decide_eq_true (by first|(with_reducible assumption)|assumption):(l0.length:Int).toNat<=11728124029610)) (by omega)) (Below.refl _ _) (Nat.le_refl _) ?_;intro v269 w4 uv hb uw mG;clear uw mG;(first|rw [<-a2X.out] at uv|(simp only [Int.reduceToNat] at uv;rw [<-a2X.out] at uv));have ay:=Aside0.mk (Kd.JE uv (av ax));have aA:=Aside0.mk (ai ax hb);clear HB;have b2T:=ay;have HB:=aA;clear ay aA;clear hb uv))
   go_loopg [4] k (fun kq v4 w'=>∃(gS:List (List Int)) (dZ:Int),v4= .int .i64 dZ/\Aside0 (dF.l0 kq l0 gS dZ=some r)/\Aside0 (kq<=k)/\Aside0 (Kd.S (Kd.slice 3 (Kd.int .i64)) 22 w' w.heap.size (fun _=>True) v269 gS)/\Aside0 (Below w.heap.size w w'))
   case atStart=>exact ⟨(a8h),(0),(by first|rfl|(simp;done)|(simp [*];done)),H',⟨Nat.le_refl _⟩,⟨by (with_reducible repeat (first|apply Kd.cg|apply Kd.cj|apply Kd.cJ));exact b2T.out⟩,⟨ax⟩⟩
   case round=>
    clear H'
    try clear c2
    try clear Fe
    try clear a0q
    try clear p2
    try clear c3
    try clear gw
    try clear mz
    obtain ⟨gS,dZ,rfl,HA,fI,gT,HB⟩:=hrel
    cases gk with
    |zero=>exact absurd HA.out (by simp [dF.l0])
    |succ k1=>
     have H:=HA.out
     clear HA
     simp only [dF.l0] at H
     by_cases c6:dZ<(l0.length:Int)
     ·rw [if_pos c6] at H
      have oQ:decide (dZ<(l0.length:Int))=true:=decide_eq_true c6
      clear c6
      by_cases c7:0<=dZ
      ·rw [if_pos c7] at H
       have si:decide (0<=dZ)=true:=decide_eq_true c7
       clear c7
       replace H:=Option.bind_eq_some_iff.mp H
       obtain ⟨JJ,WG,H⟩:=H
       replace H:(if dZ<(gS.length:Int) then (dF.l0 k1 l0 (gS.set (dZ:Int).toNat JJ) (wrap64 (dZ+1))) else (none))=some r:=H
       have A8:=Aside0.mk WG
       clear WG
       by_cases c9:dZ<(gS.length:Int)
       ·rw [if_pos c9] at H
        have Fg:decide (dZ<(gS.length:Int))=true:=decide_eq_true c9
        clear c9
        obtain ⟨a0u,GR⟩:∃y_:List (List Int),y_=(gS.set (dZ:Int).toNat JJ):=⟨_,rfl⟩
        replace H:(dF.l0 k1 l0 a0u (wrap64 (dZ+1)))=some r:=by first|(rw [GR];with_reducible exact H)|(have dK:=(Option.bind_some _ _).symm.trans H;rw [GR];with_reducible exact dK)|(have dK:=(Option.bind_some _ _).symm.trans H;with_reducible exact dK)|with_reducible exact H|(rw [GR];exact H)|exact H
        have b2U:=Aside0.mk GR
        clear GR
        have H':=Aside0.mk H
        clear H
        have a0v:0<=(dZ:Int):=of_decide_eq_true (by first|(with_reducible assumption)|assumption)
        have a0w:dZ<(l0.length:Int):=of_decide_eq_true (by first|(with_reducible assumption)|assumption)
        obtain ⟨ad271,a8i,a8j,b7m,JK,RL,RM⟩:=qP eL.out dZ a0v a0w
        cases b7m
        replace JK:=(HB.out.cell (World.block_lt_of_cell? w _ JK)).trans JK
        have a5F:=Aside0.mk RM
        have a5G:=Aside0.mk RL
        clear RM RL
        replace a0v:=eq_true a0v
        replace a0w:=eq_true a0w
        go_wp2_with (first|((with_reducible refine aZ (f:=7) rfl ?_);refine bO (some 20) rfl rfl Try.func7 (by kernel_rfl) rfl #[.slice a8i (eu l0 dZ).length a8j] rfl (by (try simp only [List.map_toArray,List.map_cons,List.map_nil]);first|done|rfl|(simp only [List.length_drop,List.length_take];rfl)) ?_;(with_reducible refine (dz.calls k1 _ _ (eu l0 dZ) JJ _ ?bX ?bY A8.out).mono ?_);(case bX=>repeat (first|exact (Kd.bQ a5F.out HB.out)|(with_reducible refine Kd.cO ?_ _)|(with_reducible refine Kd.cP ?_ _)|(with_reducible refine Kd.dw ?_)));(case bY=>exact a5G.out);rintro e fk ⟨v273,rfl,sk,hb⟩;refine ⟨_,rfl,?_⟩;have ay:=Aside0.mk (Kd.sX (by (with_reducible repeat (first|apply Kd.cg|apply Kd.cj|apply Kd.cJ));exact gT.out) (Kd.um sk) hb);have aA:=Aside0.mk (Kd.gG sk (av ax));have aD:=Aside0.mk (ai ax hb);clear gT;clear HB;have gT:=ay;have Am:=aA;have HB:=aD;clear ay aA aD;(try clear hb);(try clear hb2);(try clear hk);(try clear hi);(try clear sk);have p10:0<=(dZ:Int):=of_decide_eq_true (by first|(with_reducible assumption)|assumption);have q10:(dZ:Int)<((gS.length:Int):Int):=of_decide_eq_true (by first|(with_reducible assumption)|assumption);obtain ⟨JL,a8m,a8n,a8o,b7n,cl10,a8p⟩:=Kd.a7Q gT.out (by omega);(first|cases a8n|(injection a8n with sj Ot Ou;(first|subst sj|(injection sj with sj;subst sj));subst Ou;clear Ot));have b7o:=Aside0.mk a8o;have GG10:=Aside0.mk a8p;clear a8o b7n a8p;obtain ⟨_,b7p,Nv,Ov,Dp,GU,_,_⟩:=Kd.Wv gT.out [] (dZ:Int) p10 q10;obtain ⟨ve10_0,rfl,ge10_0⟩:=Ov;have a8q:=Dp 0 _ rfl;have a8r:=GU 0;(try simp only [show ((Kd.slice 3 (Kd.int .i64))).sz=1 from rfl,Nat.mul_one,Nat.add_zero] at a8q);(try simp only [show ((Kd.slice 3 (Kd.int .i64))).sz=1 from rfl,Nat.mul_one,Nat.add_zero] at a8r);clear Nv Dp GU;(try clear Ov);replace p10:=eq_true p10;replace q10:=eq_true q10;have n_:=Aside0.mk (Kd.eR (ok':=(fun k_=>some k_≠(v273:Value).ownBlock)) gT.out (fun k_ hk=>hk.2));clear gT;have gT:=n_;clear n_;have b7q:=Aside0.mk (show Kd.S (Kd.slice 3 (Kd.int .i64)) 22 fk w.heap.size (fun k_=>((fun _=>True)) k_/\¬((fun k_=>some k_=(v273:Value).ownBlock)) k_) (.slice (some ⟨JL,0,none⟩) gS.length a8m) gS from (by (with_reducible repeat (first|apply Kd.cg|apply Kd.cj|apply Kd.cJ));exact Kd.eR gT.out (fun k_ hk=>⟨trivial,fun e_=>hk e_⟩)));obtain ⟨oki12,ce12,b2V,a8s,a2Y,a2Z,a8t,a8u⟩:=Kd.Wv b7q.out [] (dZ:Int) (of_decide_eq_true (by first|(with_reducible assumption)|assumption)) (by have h_:(dZ:Int)<((gS.length:Int):Int):=of_decide_eq_true (by first|(with_reducible assumption)|assumption);first|exact h_|(have e_:=(Kd.sY gT.out).1;omega)|simpa using h_);obtain ⟨ve12_0,rfl,ge12_0⟩:=a8s;have Uq:=Kd.b2O a8u (of_decide_eq_true (by first|(with_reducible assumption)|assumption)) (by have h_:(dZ:Int)<((gS.length:Int):Int):=of_decide_eq_true (by first|(with_reducible assumption)|assumption);first|exact h_|(have e_:=(Kd.sY gT.out).1;omega)|simpa using h_) (seg:=[v273]) (j:=0) (show 1<=1 from by decide) (x':=JJ) (Kd.b2G (Kd.dU (Kd.rK rfl (Kd.dU (ok':=fun k_=>((fun _=>True)) k_/\k_≠JL) (Kd.iN (Am.out) (Kd.jV gT.out) (by decide)) (fun k_ hk=>⟨trivial,fun e_=>(hk.2) (by rw [e_];rfl)⟩))) (fun _ h_=>Or.inr (h_)))) (fun _ hk=>hk) (fun k_ sq=>((Kd.dU (ok':=fun k_=>((fun _=>True)) k_/\k_≠JL) (Kd.iN (Am.out) (Kd.jV gT.out) (by decide)) (fun k_ hk=>⟨trivial,fun e_=>(hk.2) (by rw [e_];rfl)⟩))).1 k_ sq.symm);have a8v:=a2Y 0 _ rfl;(try simp only [show ((Kd.slice 3 (Kd.int .i64))).sz=1 from rfl,Nat.mul_one,Nat.add_zero] at a8v);have a8w:=a2Z 0;(try simp only [show ((Kd.slice 3 (Kd.int .i64))).sz=1 from rfl,Nat.mul_one,Nat.add_zero] at a8w);clear b2V a2Y a2Z;(try clear a8s);clear a8t a8u;(try simp only [show ((Kd.slice 3 (Kd.int .i64))).sz=1 from rfl,Nat.mul_one,Nat.add_zero] at Uq))|((with_reducible refine iX (t:=22) (p:=21) rfl ?_);refine qE (t:=22) (p:=21) (v:=?vo_w13) (w1:=(fk.setCell ⟨JL,(dZ:Int).toNat,none⟩ (v273))) ?hg ?ho ?hn ?hr ?_;(case ho=>rfl);(case hg=>rfl);(case hn=>rfl);(case hr=>first|(go_simp;done)|(go_simp;rfl)|((try (obtain ⟨_,_,e_⟩:=Kd.cX gT.out;rw [e_]));(try (obtain ⟨_,_,e_⟩:=Kd.rL gT.out;rw [e_]));(try (obtain ⟨_,_,e_⟩:=Kd.wk gT.out;rw [e_]));(try (obtain ⟨_,_,e_⟩:=Kd.wm gT.out;rw [e_]));(try (obtain ⟨_,_,e_⟩:=Kd.cX Am.out;rw [e_]));(try (obtain ⟨_,_,e_⟩:=Kd.rL Am.out;rw [e_]));(try (obtain ⟨_,_,e_⟩:=Kd.wk Am.out;rw [e_]));(try (obtain ⟨_,_,e_⟩:=Kd.wm Am.out;rw [e_]));go_simp;first|done|rfl));intro nY hw;have hg:fk.grownBy nY (some JL):=(by rw [hw];exact Uq.2);have rP:Kd.S (Kd.slice 3 (Kd.int .i64)) 22 nY w.heap.size (fun _=>True) (.slice (some ⟨JL,0,none⟩) gS.length a8m) a0u:=(by rw [hw,b2U.out];exact Uq.1);clear Uq;have ay:=Aside0.mk (rP);have aA:=Aside0.mk ((by rw [hw];exact br (HB.out) b7o.out:Below w.heap.size w nY));clear gT;clear HB;clear Am;have gT:=ay;have HB:=aA;clear ay aA;clear hg hw rP))
        go_roundg k1
        case measure=>have:=fI.out;omega
        case rel=>exact ⟨(a0u),(wrap64 (dZ+1)),(by first|rfl|(simp;done)|(simp [*];done)),H',⟨by have:=fI.out;omega⟩,⟨by (with_reducible repeat (first|apply Kd.cg|apply Kd.cj|apply Kd.cJ));exact gT.out⟩,⟨ax⟩⟩
       ·rw [if_neg c9] at H
        exact absurd H (by simp)
      ·rw [if_neg c7] at H
       exact absurd H (by simp)
     ·rw [if_neg c6] at H
      have oQ:decide (dZ<(l0.length:Int))=false:=decide_eq_false c6
      clear c6
      obtain rfl:=Option.some.inj H
      go_wp2
      go_ret
      exact ⟨_,by first|rfl|(simp [aM,aQ]<;>rfl)|(simp [*,aM,aQ]<;>rfl),by (with_reducible repeat (first|apply Kd.cg|apply Kd.cj|apply Kd.cJ));exact gT.out,ax⟩
  ·rw [if_neg c3] at H
   exact absurd H (by simp)
 ·rw [if_neg c2] at H
  exact absurd H (by simp)
def cV.l0:Nat->List Int->List Int->Int->Option (Bool)
 |0,_,_,_=>none
 |k+1,x0,x1,x5=>if x5<(x0.length:Int) then (if 0<=x5 then (if x5<(x1.length:Int) then (if (rd x0 x5)=(rd x1 x5) then (cV.l0 k x0 x1 (wrap64 (x5+1))) else (some false)) else (none)) else (none)) else (some true)
def cV.f (k:Nat) (l0:List Int) (l1:List Int):Option (Bool):=if (l0.length:Int)=(l1.length:Int) then (cV.l0 k l0 l1 0) else (some false)
theorem cV.cH:∀k,(∀y0 y1 y2,aW (cV.l0 k y0 y1 y2) (cV.l0 (k+1) y0 y1 y2))
 |0=>fun _ _ _ r h=>by simp [cV.l0] at h
 |k+1=>by
  have dP:=cV.cH k
  ·intro y0 y1 y2
   unfold cV.l0
   repeat' first
   |(with_reducible exact dP _ _ _)
   |(with_reducible exact aW.refl _)
   |(with_reducible exact aW.none _)
   |(with_reducible refine aW.ite ?_ ?_)
   |(with_reducible refine aW.bind ?_ (fun _=>?_))
theorem cV.mono:∀a0 a1 k,aW (cV.f k a0 a1) (cV.f (k+1) a0 a1):=by
 intro a0 a1 k
 have dP:=cV.cH k
 unfold cV.f
 repeat' first
  |(with_reducible exact dP _ _ _)
  |(with_reducible exact aW.refl _)
  |(with_reducible exact aW.none _)
  |(with_reducible refine aW.ite ?_ ?_)
  |(with_reducible refine aW.bind ?_ (fun _=>?_))
set_option maxHeartbeats 8000000 in
set_option maxRecDepth 100000 in
theorem cV.calls (k:Nat) (A0:Option Addr) (c0:Nat) (l0:List Int) (A1:Option Addr) (c1:Nat) (l1:List Int) (r:Bool) (w:World) (fE:Kd.C (Kd.int .i64) w A0 l0.length l0) (hc0:l0.length<=c0) (hr1:Kd.C (Kd.int .i64) w A1 l1.length l1) (hc1:l1.length<=c1) (h:cV.f k l0 l1=some r):
 Calls Try.prog 11 #[.slice A0 l0.length c0,.slice A1 l1.length c1] w fun e w'=>e= .returned (.bool r)/\bl w w':=by
 have eL:=Aside0.mk fE
 have kB:=Aside0.mk hc0
 clear fE hc0
 have gV:=Aside0.mk hr1
 have iJ:=Aside0.mk hc1
 clear hr1 hc1
 have H:(if (l0.length:Int)=(l1.length:Int) then (cV.l0 k l0 l1 0) else (some false))=some r:=h
 clear h
 by_cases c3:(l0.length:Int)=(l1.length:Int)
 ·rw [if_pos c3] at H
  have gw:((l0.length:Int)==(l1.length:Int))=true:=beq_iff_eq.mpr c3
  have mz:((l0.length:Int) !=(l1.length:Int))=false:=bne_eq_false_iff_eq.mpr c3
  have yc:(l0.length==l1.length)=true:=by first|simpa using c3|(simp at c3⊢;omega)
  clear c3
  have H':=Aside0.mk H
  clear H
  go_enter Try.func11,Try.ntmps11
  go_wp2
  repeat (go_quiet (fail);try go_wp2)
  go_loopg [5] k (fun kq v5 w'=>∃(aT:Int),v5= .int .i64 aT/\Aside0 (cV.l0 kq l0 l1 aT=some r)/\Aside0 (kq<=k)/\bl w w')
  case atStart=>exact ⟨(0),(by first|rfl|(simp;done)|(simp [*];done)),H',⟨Nat.le_refl _⟩,by repeat (first|exact bl.refl _|apply bl.step)⟩
  case round=>
   clear H'
   try clear c1
   try clear p2
   try clear c3
   try clear gw
   try clear mz
   try clear yc
   obtain ⟨aT,rfl,HA,fI,⟨m1,rfl⟩⟩:=hrel
   cases gk with
   |zero=>exact absurd HA.out (by simp [cV.l0])
   |succ k1=>
    have H:=HA.out
    clear HA
    simp only [cV.l0] at H
    by_cases c4:aT<(l0.length:Int)
    ·rw [if_pos c4] at H
     have kP:decide (aT<(l0.length:Int))=true:=decide_eq_true c4
     clear c4
     by_cases c5:0<=aT
     ·rw [if_pos c5] at H
      have sZ:decide (0<=aT)=true:=decide_eq_true c5
      clear c5
      by_cases c6:aT<(l1.length:Int)
      ·rw [if_pos c6] at H
       have oQ:decide (aT<(l1.length:Int))=true:=decide_eq_true c6
       clear c6
       by_cases c7:(rd l0 aT)=(rd l1 aT)
       ·rw [if_pos c7] at H
        have si:((rd l0 aT)==(rd l1 aT))=true:=beq_iff_eq.mpr c7
        have a8x:((rd l0 aT) !=(rd l1 aT))=false:=bne_eq_false_iff_eq.mpr c7
        clear c7
        have H':=Aside0.mk H
        clear H
        have Fh:0<=(aT:Int):=of_decide_eq_true (by first|(with_reducible assumption)|assumption)
        have Fi:aT<(l0.length:Int):=of_decide_eq_true (by first|(with_reducible assumption)|assumption)
        obtain ⟨b2W,a0x,a5H⟩:=Kd.fC eL.out aT Fh Fi
        cases a0x
        replace Fh:=eq_true Fh
        replace Fi:=eq_true Fi
        have Fj:0<=(aT:Int):=of_decide_eq_true (by first|(with_reducible assumption)|assumption)
        have Fk:aT<(l1.length:Int):=of_decide_eq_true (by first|(with_reducible assumption)|assumption)
        obtain ⟨b2X,a0y,a5I⟩:=Kd.fC gV.out aT Fj Fk
        cases a0y
        replace Fj:=eq_true Fj
        replace Fk:=eq_true Fk
        go_wp2
        repeat (go_quiet (fail);try go_wp2)
        go_roundg k1
        case measure=>have:=fI.out;omega
        case rel=>exact ⟨(wrap64 (aT+1)),(by first|rfl|(simp;done)|(simp [*];done)),H',⟨by have:=fI.out;omega⟩,by repeat (first|exact bl.refl _|apply bl.step)⟩
       ·rw [if_neg c7] at H
        have si:((rd l0 aT)==(rd l1 aT))=false:=beq_eq_false_iff_ne.mpr c7
        have a8x:((rd l0 aT) !=(rd l1 aT))=true:=bne_iff_ne.mpr c7
        obtain rfl:=Option.some.inj H
        have Fh:0<=(aT:Int):=of_decide_eq_true (by first|(with_reducible assumption)|assumption)
        have Fi:aT<(l0.length:Int):=of_decide_eq_true (by first|(with_reducible assumption)|assumption)
        obtain ⟨b2W,a0x,a5H⟩:=Kd.fC eL.out aT Fh Fi
        cases a0x
        replace Fh:=eq_true Fh
        replace Fi:=eq_true Fi
        have Fj:0<=(aT:Int):=of_decide_eq_true (by first|(with_reducible assumption)|assumption)
        have Fk:aT<(l1.length:Int):=of_decide_eq_true (by first|(with_reducible assumption)|assumption)
        obtain ⟨b2X,a0y,a5I⟩:=Kd.fC gV.out aT Fj Fk
        cases a0y
        replace Fj:=eq_true Fj
        replace Fk:=eq_true Fk
        go_wp2
        repeat (go_quiet (fail);try go_wp2)
        go_ret
        exact ⟨by first|rfl|(simp;done)|(simp [*];done),by repeat (first|exact bl.refl _|apply bl.step)⟩
      ·rw [if_neg c6] at H
       exact absurd H (by simp)
     ·rw [if_neg c5] at H
      exact absurd H (by simp)
    ·rw [if_neg c4] at H
     have kP:decide (aT<(l0.length:Int))=false:=decide_eq_false c4
     clear c4
     obtain rfl:=Option.some.inj H
     go_wp2
     repeat (go_quiet (fail);try go_wp2)
     go_ret
     exact ⟨by first|rfl|(simp;done)|(simp [*];done),by repeat (first|exact bl.refl _|apply bl.step)⟩
 ·rw [if_neg c3] at H
  have gw:((l0.length:Int)==(l1.length:Int))=false:=beq_eq_false_iff_ne.mpr c3
  have mz:((l0.length:Int) !=(l1.length:Int))=true:=bne_iff_ne.mpr c3
  have yc:(l0.length==l1.length)=false:=by first|simpa using c3|(simp at c3⊢;omega)
  obtain rfl:=Option.some.inj H
  go_enter Try.func11,Try.ntmps11
  go_wp2
  repeat (go_quiet (fail);try go_wp2)
  go_ret
  exact ⟨by first|rfl|(simp;done)|(simp [*];done),by repeat (first|exact bl.refl _|apply bl.step)⟩
def dL.l0:Nat->List (List Int)->List (List Int)->Int->Option (Bool)
 |0,_,_,_=>none
 |k+1,x0,x1,x5=>if x5<(x0.length:Int) then (if 0<=x5 then (if x5<(x1.length:Int) then ((cV.f k (eu x0 x5) (eu x1 x5)).bind fun Ur=>(if Ur=true then (dL.l0 k x0 x1 (wrap64 (x5+1))) else (some false))) else (none)) else (none)) else (some true)
def dL.f (k:Nat) (l0:List (List Int)) (l1:List (List Int)):Option (Bool):=if (l0.length:Int)=(l1.length:Int) then (dL.l0 k l0 l1 0) else (some false)
theorem dL.cH:∀k,(∀y0 y1 y2,aW (dL.l0 k y0 y1 y2) (dL.l0 (k+1) y0 y1 y2))
 |0=>fun _ _ _ r h=>by simp [dL.l0] at h
 |k+1=>by
  have dP:=dL.cH k
  ·intro y0 y1 y2
   unfold dL.l0
   repeat' first
   |(with_reducible exact dP _ _ _)
   |(with_reducible exact cV.mono _ _ _)
   |(with_reducible exact aW.refl _)
   |(with_reducible exact aW.none _)
   |(with_reducible refine aW.ite ?_ ?_)
   |(with_reducible refine aW.bind ?_ (fun _=>?_))
theorem dL.mono:∀a0 a1 k,aW (dL.f k a0 a1) (dL.f (k+1) a0 a1):=by
 intro a0 a1 k
 have dP:=dL.cH k
 unfold dL.f
 repeat' first
  |(with_reducible exact dP _ _ _)
  |(with_reducible exact cV.mono _ _ _)
  |(with_reducible exact aW.refl _)
  |(with_reducible exact aW.none _)
  |(with_reducible refine aW.ite ?_ ?_)
  |(with_reducible refine aW.bind ?_ (fun _=>?_))
set_option maxHeartbeats 8000000 in
set_option maxRecDepth 100000 in
theorem dL.calls (k:Nat) (A0:Option Addr) (c0:Nat) (l0:List (List Int)) (A1:Option Addr) (c1:Nat) (l1:List (List Int)) (r:Bool) (w:World) (fE:Kd.C (Kd.slice 3 (Kd.int .i64)) w A0 l0.length l0) (hc0:l0.length<=c0) (hr1:Kd.C (Kd.slice 3 (Kd.int .i64)) w A1 l1.length l1) (hc1:l1.length<=c1) (h:dL.f k l0 l1=some r):
 Calls Try.prog 12 #[.slice A0 l0.length c0,.slice A1 l1.length c1] w fun e w'=>e= .returned (.bool r)/\bl w w':=by
 have eL:=Aside0.mk fE
 have kB:=Aside0.mk hc0
 clear fE hc0
 have gV:=Aside0.mk hr1
 have iJ:=Aside0.mk hc1
 clear hr1 hc1
 have H:(if (l0.length:Int)=(l1.length:Int) then (dL.l0 k l0 l1 0) else (some false))=some r:=h
 clear h
 by_cases c3:(l0.length:Int)=(l1.length:Int)
 ·rw [if_pos c3] at H
  have gw:((l0.length:Int)==(l1.length:Int))=true:=beq_iff_eq.mpr c3
  have mz:((l0.length:Int) !=(l1.length:Int))=false:=bne_eq_false_iff_eq.mpr c3
  have yc:(l0.length==l1.length)=true:=by first|simpa using c3|(simp at c3⊢;omega)
  clear c3
  have H':=Aside0.mk H
  clear H
  go_enter Try.func12,Try.ntmps12
  go_wp2
  repeat (go_quiet (fail);try go_wp2)
  go_loopg [5] k (fun kq v5 w'=>∃(aT:Int),v5= .int .i64 aT/\Aside0 (dL.l0 kq l0 l1 aT=some r)/\Aside0 (kq<=k)/\bl w w')
  case atStart=>exact ⟨(0),(by first|rfl|(simp;done)|(simp [*];done)),H',⟨Nat.le_refl _⟩,by repeat (first|exact bl.refl _|apply bl.step)⟩
  case round=>
   clear H'
   try clear c1
   try clear p2
   try clear c3
   try clear gw
   try clear mz
   try clear yc
   obtain ⟨aT,rfl,HA,fI,⟨m1,rfl⟩⟩:=hrel
   cases gk with
   |zero=>exact absurd HA.out (by simp [dL.l0])
   |succ k1=>
    have H:=HA.out
    clear HA
    simp only [dL.l0] at H
    by_cases c4:aT<(l0.length:Int)
    ·rw [if_pos c4] at H
     have kP:decide (aT<(l0.length:Int))=true:=decide_eq_true c4
     clear c4
     by_cases c5:0<=aT
     ·rw [if_pos c5] at H
      have sZ:decide (0<=aT)=true:=decide_eq_true c5
      clear c5
      by_cases c6:aT<(l1.length:Int)
      ·rw [if_pos c6] at H
       have oQ:decide (aT<(l1.length:Int))=true:=decide_eq_true c6
       clear c6
       replace H:=Option.bind_eq_some_iff.mp H
       obtain ⟨Ur,BP,H⟩:=H
       replace H:(if Ur=true then (dL.l0 k1 l0 l1 (wrap64 (aT+1))) else (some false))=some r:=H
       have A7:=Aside0.mk BP
       clear BP
       by_cases c8:Ur=true
       ·subst c8
        have H1:(dL.l0 k1 l0 l1 (wrap64 (aT+1)))=some r:=by rw [if_pos rfl] at H;exact H
        clear H
        have H:=H1
        clear H1
        have H':=Aside0.mk H
        clear H
        have Fl:0<=(aT:Int):=of_decide_eq_true (by first|(with_reducible assumption)|assumption)
        have Fm:aT<(l0.length:Int):=of_decide_eq_true (by first|(with_reducible assumption)|assumption)
        obtain ⟨b2Y,a8y,a8z,a0z,a5J,yP,yQ⟩:=qP eL.out aT Fl Fm
        cases a0z
        have th:=Aside0.mk yQ
        have tj:=Aside0.mk yP
        clear yQ yP
        replace Fl:=eq_true Fl
        replace Fm:=eq_true Fm
        have Fo:0<=(aT:Int):=of_decide_eq_true (by first|(with_reducible assumption)|assumption)
        have Fp:aT<(l1.length:Int):=of_decide_eq_true (by first|(with_reducible assumption)|assumption)
        obtain ⟨b2Z,a8A,a8B,a0A,a5K,yR,yS⟩:=qP gV.out aT Fo Fp
        cases a0A
        have tq:=Aside0.mk yS
        have tu:=Aside0.mk yR
        clear yS yR
        replace Fo:=eq_true Fo
        replace Fp:=eq_true Fp
        go_wp2_with (first|(go_at_call 11;(with_reducible refine (cV.calls k1 _ _ (eu l0 aT) _ _ (eu l1 aT) true _ ?bX ?bY ?iY ?iZ A7.out).mono ?_);(case bX=>repeat (first|exact th.out|(with_reducible refine Kd.cO ?_ _)|(with_reducible refine Kd.cP ?_ _)|(with_reducible refine Kd.dw ?_)));(case bY=>exact tj.out);(case iY=>repeat (first|exact tq.out|(with_reducible refine Kd.cO ?_ _)|(with_reducible refine Kd.cP ?_ _)|(with_reducible refine Kd.dw ?_)));(case iZ=>exact tu.out);rintro e w' ⟨rfl,⟨nd,rfl⟩⟩;(try first|exact ⟨rfl,_,World.drewN_drewN _ _ _⟩|exact ⟨rfl,_,Eq.trans (World.drewN_drewN _ _ _) (congrArg (World.drewN _) (Nat.add_assoc _ _ _))⟩)))
        repeat (go_quiet (first|(go_at_call 11;(with_reducible refine (cV.calls k1 _ _ (eu l0 aT) _ _ (eu l1 aT) true _ ?bX ?bY ?iY ?iZ A7.out).mono ?_);(case bX=>repeat (first|exact th.out|(with_reducible refine Kd.cO ?_ _)|(with_reducible refine Kd.cP ?_ _)|(with_reducible refine Kd.dw ?_)));(case bY=>exact tj.out);(case iY=>repeat (first|exact tq.out|(with_reducible refine Kd.cO ?_ _)|(with_reducible refine Kd.cP ?_ _)|(with_reducible refine Kd.dw ?_)));(case iZ=>exact tu.out);rintro e w' ⟨rfl,⟨nd,rfl⟩⟩;(try first|exact ⟨rfl,_,World.drewN_drewN _ _ _⟩|exact ⟨rfl,_,Eq.trans (World.drewN_drewN _ _ _) (congrArg (World.drewN _) (Nat.add_assoc _ _ _))⟩)));try go_wp2_with (first|(go_at_call 11;(with_reducible refine (cV.calls k1 _ _ (eu l0 aT) _ _ (eu l1 aT) true _ ?bX ?bY ?iY ?iZ A7.out).mono ?_);(case bX=>repeat (first|exact th.out|(with_reducible refine Kd.cO ?_ _)|(with_reducible refine Kd.cP ?_ _)|(with_reducible refine Kd.dw ?_)));(case bY=>exact tj.out);(case iY=>repeat (first|exact tq.out|(with_reducible refine Kd.cO ?_ _)|(with_reducible refine Kd.cP ?_ _)|(with_reducible refine Kd.dw ?_)));(case iZ=>exact tu.out);rintro e w' ⟨rfl,⟨nd,rfl⟩⟩;(try first|exact ⟨rfl,_,World.drewN_drewN _ _ _⟩|exact ⟨rfl,_,Eq.trans (World.drewN_drewN _ _ _) (congrArg (World.drewN _) (Nat.add_assoc _ _ _))⟩))))
        go_roundg k1
        case measure=>have:=fI.out;omega
        case rel=>exact ⟨(wrap64 (aT+1)),(by first|rfl|(simp;done)|(simp [*];done)),H',⟨by have:=fI.out;omega⟩,by repeat (first|exact bl.refl _|apply bl.step)⟩
       ·replace c8:=Bool.eq_false_iff.mpr c8
        subst c8
        have H1:(some false)=some r:=by rw [if_neg (show ¬(false=true) by decide)] at H;exact H
        clear H
        have H:=H1
        clear H1
        obtain rfl:=Option.some.inj H
        have Fl:0<=(aT:Int):=of_decide_eq_true (by first|(with_reducible assumption)|assumption)
        have Fm:aT<(l0.length:Int):=of_decide_eq_true (by first|(with_reducible assumption)|assumption)
        obtain ⟨b2Y,a8y,a8z,a0z,a5J,yP,yQ⟩:=qP eL.out aT Fl Fm
        cases a0z
        have th:=Aside0.mk yQ
        have tj:=Aside0.mk yP
        clear yQ yP
        replace Fl:=eq_true Fl
        replace Fm:=eq_true Fm
        have Fo:0<=(aT:Int):=of_decide_eq_true (by first|(with_reducible assumption)|assumption)
        have Fp:aT<(l1.length:Int):=of_decide_eq_true (by first|(with_reducible assumption)|assumption)
        obtain ⟨b2Z,a8A,a8B,a0A,a5K,yR,yS⟩:=qP gV.out aT Fo Fp
        cases a0A
        have tq:=Aside0.mk yS
        have tu:=Aside0.mk yR
        clear yS yR
        replace Fo:=eq_true Fo
        replace Fp:=eq_true Fp
        go_wp2_with (first|(go_at_call 11;(with_reducible refine (cV.calls k1 _ _ (eu l0 aT) _ _ (eu l1 aT) false _ ?bX ?bY ?iY ?iZ A7.out).mono ?_);(case bX=>repeat (first|exact th.out|(with_reducible refine Kd.cO ?_ _)|(with_reducible refine Kd.cP ?_ _)|(with_reducible refine Kd.dw ?_)));(case bY=>exact tj.out);(case iY=>repeat (first|exact tq.out|(with_reducible refine Kd.cO ?_ _)|(with_reducible refine Kd.cP ?_ _)|(with_reducible refine Kd.dw ?_)));(case iZ=>exact tu.out);rintro e w' ⟨rfl,⟨nd,rfl⟩⟩;(try first|exact ⟨rfl,_,World.drewN_drewN _ _ _⟩|exact ⟨rfl,_,Eq.trans (World.drewN_drewN _ _ _) (congrArg (World.drewN _) (Nat.add_assoc _ _ _))⟩)))
        repeat (go_quiet (first|(go_at_call 11;(with_reducible refine (cV.calls k1 _ _ (eu l0 aT) _ _ (eu l1 aT) false _ ?bX ?bY ?iY ?iZ A7.out).mono ?_);(case bX=>repeat (first|exact th.out|(with_reducible refine Kd.cO ?_ _)|(with_reducible refine Kd.cP ?_ _)|(with_reducible refine Kd.dw ?_)));(case bY=>exact tj.out);(case iY=>repeat (first|exact tq.out|(with_reducible refine Kd.cO ?_ _)|(with_reducible refine Kd.cP ?_ _)|(with_reducible refine Kd.dw ?_)));(case iZ=>exact tu.out);rintro e w' ⟨rfl,⟨nd,rfl⟩⟩;(try first|exact ⟨rfl,_,World.drewN_drewN _ _ _⟩|exact ⟨rfl,_,Eq.trans (World.drewN_drewN _ _ _) (congrArg (World.drewN _) (Nat.add_assoc _ _ _))⟩)));try go_wp2_with (first|(go_at_call 11;(with_reducible refine (cV.calls k1 _ _ (eu l0 aT) _ _ (eu l1 aT) false _ ?bX ?bY ?iY ?iZ A7.out).mono ?_);(case bX=>repeat (first|exact th.out|(with_reducible refine Kd.cO ?_ _)|(with_reducible refine Kd.cP ?_ _)|(with_reducible refine Kd.dw ?_)));(case bY=>exact tj.out);(case iY=>repeat (first|exact tq.out|(with_reducible refine Kd.cO ?_ _)|(with_reducible refine Kd.cP ?_ _)|(with_reducible refine Kd.dw ?_)));(case iZ=>exact tu.out);rintro e w' ⟨rfl,⟨nd,rfl⟩⟩;(try first|exact ⟨rfl,_,World.drewN_drewN _ _ _⟩|exact ⟨rfl,_,Eq.trans (World.drewN_drewN _ _ _) (congrArg (World.drewN _) (Nat.add_assoc _ _ _))⟩))))
        go_ret
        exact ⟨by first|rfl|(simp;done)|(simp [*];done),by repeat (first|exact bl.refl _|apply bl.step)⟩
      ·rw [if_neg c6] at H
       exact absurd H (by simp)
     ·rw [if_neg c5] at H
      exact absurd H (by simp)
    ·rw [if_neg c4] at H
     have kP:decide (aT<(l0.length:Int))=false:=decide_eq_false c4
     clear c4
     obtain rfl:=Option.some.inj H
     go_wp2
     repeat (go_quiet (fail);try go_wp2)
     go_ret
     exact ⟨by first|rfl|(simp;done)|(simp [*];done),by repeat (first|exact bl.refl _|apply bl.step)⟩
 ·rw [if_neg c3] at H
  have gw:((l0.length:Int)==(l1.length:Int))=false:=beq_eq_false_iff_ne.mpr c3
  have mz:((l0.length:Int) !=(l1.length:Int))=true:=bne_iff_ne.mpr c3
  have yc:(l0.length==l1.length)=false:=by first|simpa using c3|(simp at c3⊢;omega)
  obtain rfl:=Option.some.inj H
  go_enter Try.func12,Try.ntmps12
  go_wp2
  repeat (go_quiet (fail);try go_wp2)
  go_ret
  exact ⟨by first|rfl|(simp;done)|(simp [*];done),by repeat (first|exact bl.refl _|apply bl.step)⟩
end Go.Proofs.Ytnhknojfpjheoaa.P
namespace Go.Proofs.Ytnhknojfpjheoaa.PT
open Go.RowKit Go.Proofs.Ytnhknojfpjheoaa.P Go.Proofs.YtnhknojfpjheoaaW.PrintWords Go.Proofs.YtnhknojfpjheoaaW.PrintLast Go.Proofs.Ytnhknojfpjheoaa.EvKit
set_option linter.all false
end Go.Proofs.Ytnhknojfpjheoaa.PT
namespace Go.Proofs.Ytnhknojfpjheoaa.P
open Go.RowKit Go.Proofs.YtnhknojfpjheoaaW.PrintWords Go.Proofs.YtnhknojfpjheoaaW.PrintLast Go.Proofs.YtnhknojfpjheoaaW.PrintMore
attribute [local go_sem] max2_int min2_int max_two min_two max_three min_three max_four min_four
set_option linter.all false
def dH.l0:Nat->List Int->Int->Int->Option (Int×List Int)
 |0,_,_,_=>none
 |k+1,x0,x1,x5=>if x5<(x0.length:Int) then (if 0<=x5 then (dH.l0 k (x0.set (x5:Int).toNat x1) (wrap64 (x1+1)) (wrap64 (x5+1))) else (none)) else (some (x1,x0))
def dH.f (k:Nat) (l0:List Int) (a1:Int):Option (Int×List Int):=dH.l0 k l0 a1 0
theorem dH.cH:∀k,(∀y0 y1 y2,aW (dH.l0 k y0 y1 y2) (dH.l0 (k+1) y0 y1 y2))
 |0=>fun _ _ _ r h=>by simp [dH.l0] at h
 |k+1=>by
  have dP:=dH.cH k
  ·intro y0 y1 y2
   unfold dH.l0
   repeat' first
   |(with_reducible exact dP _ _ _)
   |(with_reducible exact aW.refl _)
   |(with_reducible exact aW.none _)
   |(with_reducible refine aW.ite ?_ ?_)
   |(with_reducible refine aW.bind ?_ (fun _=>?_))
theorem dH.mono:∀a0 a1 k,aW (dH.f k a0 a1) (dH.f (k+1) a0 a1):=by
 intro a0 a1 k
 have dP:=dH.cH k
 unfold dH.f
 repeat' first
  |(with_reducible exact dP _ _ _)
  |(with_reducible exact aW.refl _)
  |(with_reducible exact aW.none _)
  |(with_reducible refine aW.ite ?_ ?_)
  |(with_reducible refine aW.bind ?_ (fun _=>?_))
set_option maxHeartbeats 8000000 in
set_option maxRecDepth 100000 in
theorem dH.calls (k:Nat) (oJ:Nat->Prop) (kQ:Value) (l0:List Int) (a1:Int) (r1:Int) (r2:List Int) (w0 w:World) (hB:Below w0.heap.size w0 w) (sk:Kd.R (Kd.int .i64) 3 w w0.heap.size oJ kQ l0) (h:dH.f k l0 a1=some (r1,r2)):
 Calls Try.prog 13 #[kQ,.int .i64 a1] w fun e w'=>e= .returned (.int .i64 r1)/\Kd.R (Kd.int .i64) 3 w' w0.heap.size (fun k_=>(oJ k_∨w.heap.size<=k_)) kQ r2/\Below w0.heap.size w0 w'/\Kept w w' (fun k_=>oJ k_):=by
 have GV:=Aside0.mk (show Kd.R (Kd.int .i64) 3 w w0.heap.size (fun k_=>(oJ k_∨w.heap.size<=k_)) kQ l0 from Kd.dU sk (fun k_ hk=>(.inl hk)))
 have HK:=Aside0.mk (Kept.refl w (fun k_=>oJ k_))
 have HW0:=Aside0.mk hB.size
 have HB:=Aside0.mk hB
 clear hB
 have H:(dH.l0 k l0 a1 0)=some (r1,r2):=h
 clear h
 have H':=Aside0.mk H
 clear H
 go_enter Try.func13,Try.ntmps13
 go_wp2
 go_loopg [1,5] k (fun kq v1 v5 w'=>∃(fS:List Int) (eE:Int) (aT:Int),v1= .int .i64 eE/\v5= .int .i64 aT/\Aside0 (dH.l0 kq fS eE aT=some (r1,r2))/\Aside0 (kq<=k)/\Aside0 (Kd.R (Kd.int .i64) 3 w' w0.heap.size (fun k_=>(oJ k_∨w.heap.size<=k_)) kQ fS)/\Aside0 (Kept w w' (fun k_=>oJ k_))/\Aside0 (Below w0.heap.size w0 w'))
 case atStart=>exact ⟨(l0),(a1),(0),(by first|rfl|(simp;done)|(simp [*];done)),(by first|rfl|(simp;done)|(simp [*];done)),H',⟨Nat.le_refl _⟩,⟨by (with_reducible repeat (first|apply Kd.cF|apply Kd.dm|apply Kd.dO));exact GV.out⟩,⟨by repeat (first|(with_reducible first|exact HK.out|apply Kept.alloc|apply Kept.drewN|apply Kept.drew)|exact HK.out)⟩,⟨ax⟩⟩
 case round=>
  clear H'
  try clear c1
  try clear p2
  obtain ⟨fS,eE,aT,rfl,rfl,HA,fI,fT,HK,HB⟩:=hrel
  cases gk with
  |zero=>exact absurd HA.out (by simp [dH.l0])
  |succ k1=>
   have H:=HA.out
   clear HA
   simp only [dH.l0] at H
   by_cases c3:aT<(fS.length:Int)
   ·rw [if_pos c3] at H
    have gw:decide (aT<(fS.length:Int))=true:=decide_eq_true c3
    clear c3
    by_cases c4:0<=aT
    ·rw [if_pos c4] at H
     have kP:decide (0<=aT)=true:=decide_eq_true c4
     clear c4
     obtain ⟨a0B,GW⟩:∃y_:List Int,y_=(fS.set (aT:Int).toNat eE):=⟨_,rfl⟩
     replace H:(dH.l0 k1 a0B (wrap64 (eE+1)) (wrap64 (aT+1)))=some (r1,r2):=by first|(rw [GW];with_reducible exact H)|(have dK:=(Option.bind_some _ _).symm.trans H;rw [GW];with_reducible exact dK)|(have dK:=(Option.bind_some _ _).symm.trans H;with_reducible exact dK)|with_reducible exact H|(rw [GW];exact H)|exact H
     have b3a:=Aside0.mk GW
     clear GW
     have H':=Aside0.mk H
     clear H
     obtain ⟨LX,GX,eo6⟩:=Kd.cX fT.out
     subst eo6
     have p5:0<=(aT:Int):=of_decide_eq_true (by first|(with_reducible assumption)|assumption)
     have q5:(aT:Int)<((fS.length:Int):Int):=of_decide_eq_true (by first|(with_reducible assumption)|assumption)
     obtain ⟨oX,GY,Ox,WH,gl5,cl5,Bo⟩:=Kd.GD fT.out (by omega)
     (first|cases Ox|(injection Ox with sj Ot Ou;(first|subst sj|(injection sj with sj;subst sj));subst Ou;clear Ot))
     have GB5:=Aside0.mk WH
     have GG5:=Aside0.mk Bo
     clear WH gl5 Bo
     have b3b:=Aside0.mk (show (oJ oX∨w.heap.size<=oX) from (fT.out.1 _ rfl))
     obtain ⟨b3c,b3d⟩:=Kd.RA 0 fT.out (aT:Int) p5 q5
     replace p5:=eq_true p5
     replace q5:=eq_true q5
     have HP7:=Kd.Wp fT.out (aT:Int) eE
     go_wp2_with (first|((with_reducible refine iX (t:=3) (p:=15) rfl ?_);refine qE (t:=3) (p:=15) (v:=?vo_w8) (w1:=(wr.setCell ⟨oX,(aT:Int).toNat,none⟩ (.int .i64 eE))) ?hg ?ho ?hn ?hr ?_;(case ho=>rfl);(case hg=>rfl);(case hn=>rfl);(case hr=>first|(go_simp;done)|(go_simp;rfl)|((try (obtain ⟨_,_,e_⟩:=Kd.cX fT.out;rw [e_]));(try (obtain ⟨_,_,e_⟩:=Kd.rL fT.out;rw [e_]));(try (obtain ⟨_,_,e_⟩:=Kd.wk fT.out;rw [e_]));(try (obtain ⟨_,_,e_⟩:=Kd.wm fT.out;rw [e_]));go_simp;first|done|rfl));intro w8 hw;have hg:wr.grownBy w8 (some oX):=(by rw [hw];exact HP7.2);have rP:Kd.R (Kd.int .i64) 3 w8 w0.heap.size (fun k_=>(oJ k_∨w.heap.size<=k_)) (.slice (some ⟨oX,0,none⟩) fS.length GX) a0B:=(by rw [hw,b3a.out];exact HP7.1);clear HP7;have ay:=Aside0.mk (rP);have aA:=Aside0.mk ((by rw [hw];exact br (HB.out) GB5.out:Below w0.heap.size w0 w8));have aD:=Aside0.mk (Kept.Af (S:=(fun k_=>oJ k_)) hg (by repeat (first|(with_reducible first|exact HK.out|apply Kept.alloc|apply Kept.drewN|apply Kept.drew)|exact HK.out)) (fun k_ e_=>(fT.out.1 k_ e_)));clear fT;clear HB;clear HK;have fT:=ay;have HB:=aA;have HK:=aD;clear ay aA aD;clear hg hw rP))
     go_roundg k1
     case measure=>have:=fI.out;omega
     case rel=>exact ⟨(a0B),(wrap64 (eE+1)),(wrap64 (aT+1)),(by first|rfl|(simp;done)|(simp [*];done)),(by first|rfl|(simp;done)|(simp [*];done)),H',⟨by have:=fI.out;omega⟩,⟨by (with_reducible repeat (first|apply Kd.cF|apply Kd.dm|apply Kd.dO));exact fT.out⟩,⟨by repeat (first|(with_reducible first|exact HK.out|apply Kept.alloc|apply Kept.drewN|apply Kept.drew)|exact HK.out)⟩,⟨ax⟩⟩
    ·rw [if_neg c4] at H
     exact absurd H (by simp)
   ·rw [if_neg c3] at H
    have gw:decide (aT<(fS.length:Int))=false:=decide_eq_false c3
    clear c3
    simp only [Option.some.injEq,Prod.mk.injEq] at H
    obtain ⟨rfl,rfl⟩:=H
    obtain ⟨Ao9,co9,eo9⟩:=Kd.cX fT.out
    subst eo9
    go_wp2
    go_ret
    exact ⟨by first|rfl|(simp [aM,aQ]<;>rfl)|(simp [*,aM,aQ]<;>rfl),by (with_reducible repeat (first|apply Kd.cF|apply Kd.dm|apply Kd.dO));exact fT.out,ax,by repeat (first|(with_reducible first|exact HK.out|apply Kept.alloc|apply Kept.drewN|apply Kept.drew)|exact HK.out)⟩
end Go.Proofs.Ytnhknojfpjheoaa.P
namespace Go.Proofs.Ytnhknojfpjheoaa.PT
open Go.RowKit Go.Proofs.Ytnhknojfpjheoaa.P Go.Proofs.YtnhknojfpjheoaaW.PrintWords Go.Proofs.YtnhknojfpjheoaaW.PrintLast Go.Proofs.Ytnhknojfpjheoaa.EvKit
set_option linter.all false
abbrev a8F:Kd (List Int):=Kd.slice 3 (Kd.int .i64)
abbrev GZ:World->World->Prop:=Tr (fun _=>False)
theorem GZ.dN {W W':World} (h:GZ W W'):Below W.heap.size W W':=Tr.below h (fun _ hk=>hk.elim) (Nat.le_refl _)
theorem GZ.tS {S:Nat->Prop} {W W' W'':World} (h:GZ W W') (h':Tr S W' W''):Tr S W W'':=Tr.trans h h' (fun _ hk=>hk.elim) (fun _ hk _=>hk)
theorem Tr.drew {S:Nat->Prop} {W W':World} (h:Tr S W W'):Tr S W W'.drew:=⟨h.os,h.tape,h.output,h.size,h.block⟩
theorem Tr.drewN {S:Nat->Prop} {W W':World} (h:Tr S W W') (n:Nat):Tr S W (W'.drewN n):=⟨h.os,h.tape,h.output,h.size,h.block⟩
theorem Tr.alloc {S:Nat->Prop} {W W':World} (h:Tr S W W') (o:Obj):Tr S W (W'.alloc o):=⟨h.os,h.tape,h.output,by rw [a5C];exact Nat.le_succ_of_le h.size,fun k hk hn=>(Below.heap_alloc W' o k (Nat.lt_of_lt_of_le hk h.size)).trans (h.block k hk hn)⟩
theorem Tr.set {S:Nat->Prop} {W W':World} (h:Tr S W W') {p:Addr} (hp:W.heap.size<=p.block) (u:Value):Tr S W (W'.setCell p u):=⟨h.os,h.tape,h.output,by simpa [World.setCell] using h.size,fun k hk hn=>(Below.heap_setCell W' p u k (by omega)).trans (h.block k hk hn)⟩
theorem Tr.blk {S:Nat->Prop} {W W':World} {b:Nat} {o:Obj} (t:Tr S W W') (h:W.heap[b]? =some o) (hb:¬S b):W'.heap[b]? =some o:=(t.block b (aY h) hb).trans h
def oY (W:World) (x:List Int) (A:Option Addr) (c:Nat):Prop:=x.length<=c/\Kd.C (Kd.int .i64) W A x.length x
def lX (W:World) (x:List (List Int)) (A:Option Addr) (c:Nat):Prop:=x.length<=c/\Kd.C a8F W A x.length x
theorem oY.tr {W W':World} {x:List Int} {A:Option Addr} {c:Nat} (h:oY W x A c) (t:GZ W W'):oY W' x A c:=⟨h.1,Kd.bQ h.2 t.dN⟩
theorem lX.tr {W W':World} {x:List (List Int)} {A:Option Addr} {c:Nat} (h:lX W x A c) (t:GZ W W'):lX W' x A c:=⟨h.1,Kd.bQ h.2 t.dN⟩
theorem oY.past {W0 W:World} {x:List Int} {A:Option Addr} {c:Nat} (h:oY W0 x A c) (t:Below W0.heap.size W0 W):oY W x A c:=⟨h.1,Kd.bQ h.2 t⟩
abbrev oI (W:World) (x:List Int) (A:Option Addr) (n c:Nat) (bs:List Nat):Prop:=yM.own W x [.slice A n c] bs
abbrev oII (W:World) (x:List (List Int)) (A:Option Addr) (n c:Nat) (bs:List Nat):Prop:=a0o.own W x [.slice A n c] bs
theorem oI.len {W:World} {x:List Int} {A:Option Addr} {n c:Nat} {bs:List Nat} (h:oI W x A n c bs):n=x.length:=by
 obtain ⟨A',c',e,_⟩:=yM.rd h
 injection e with e;injection e
theorem oII.len {W:World} {x:List (List Int)} {A:Option Addr} {n c:Nat} {bs:List Nat} (h:oII W x A n c bs):n=x.length:=by
 obtain ⟨A',c',e,_⟩:=a0o.rd h
 injection e with e;injection e
theorem oI.rd {W:World} {x:List Int} {A:Option Addr} {n c:Nat} {bs:List Nat} (h:oI W x A n c bs):oY W x A c:=by
 obtain ⟨A',c',e,hl,hC⟩:=yM.rd h
 injection e with e;injection e with e1 e2 e3
 subst e1;subst e3
 exact ⟨hl,hC⟩
theorem oII.rd {W:World} {x:List (List Int)} {A:Option Addr} {n c:Nat} {bs:List Nat} (h:oII W x A n c bs):lX W x A c:=by
 obtain ⟨A',c',e,hl,hC⟩:=a0o.rd h
 injection e with e;injection e with e1 e2 e3
 subst e1;subst e3
 exact ⟨hl,hC⟩
theorem lX.past {W0 W:World} {x:List (List Int)} {A:Option Addr} {c:Nat} (h:lX W0 x A c) (t:Below W0.heap.size W0 W):lX W x A c:=⟨h.1,Kd.bQ h.2 t⟩
theorem lX.rows {W:World} {x:List (List Int)} {A:Option Addr} {c:Nat} (h:lX W x A c):∀y,y∈x->y.length<=9223372036854775807:=fun y hy=>by
 obtain ⟨i,hi,rfl⟩:=List.getElem_of_mem hy
 obtain ⟨_,_,hc⟩:=h.2.2.2 (by omega)
 obtain ⟨_,_,⟨_,_,_,_,hC⟩,_⟩:=hc i _ (List.getElem?_eq_getElem hi)
 exact hC.2.1
def RdN (W w':World) (R:World->Prop):Prop:=∀W',(∀k,W.heap.size<=k->k<w'.heap.size->W'.heap[k]? =w'.heap[k]?)->R W'
theorem RdN.now {W w':World} {R:World->Prop} (r:RdN W w' R):R w':=r w' (fun _ _ _=>rfl)
theorem yT {W:World} {a b:Nat} {cs ds:Array Value} {t t':TypeId} {m n:Nat×Nat} (h:W.heap[a]? =some (.cells cs t m)) (h':W.heap[b]? =some (.cells ds t' n)) (ht:t≠t'):a≠b:=by
 rintro rfl
 have e:=h.symm.trans h'
 simp only [Option.some.injEq,Obj.cells.injEq] at e
 exact ht e.2.1
end Go.Proofs.Ytnhknojfpjheoaa.PT
namespace Go.Proofs.Ytnhknojfpjheoaa.P
open Go.RowKit Go.Proofs.YtnhknojfpjheoaaW.PrintWords Go.Proofs.YtnhknojfpjheoaaW.PrintLast Go.Proofs.YtnhknojfpjheoaaW.PrintMore
attribute [local go_sem] max2_int min2_int max_two min_two max_three min_three max_four min_four
set_option linter.all false
def jG.f (aH:Int) (aG:Int) (bg:Int) (aV:Int):Option (Bool):=if aH=bg then (if aG=aV then (some true) else (some false)) else (some false)
set_option maxHeartbeats 8000000 in
set_option maxRecDepth 100000 in
theorem jG.calls (aH:Int) (aG:Int) (bg:Int) (aV:Int) (r:Bool) (w:World) (h:jG.f aH aG bg aV=some r):
 Calls Try.prog 36 #[.agg #[.int .i64 aH,.int .i64 aG],.agg #[.int .i64 bg,.int .i64 aV]] w fun e w'=>e= .returned (.bool r)/\Below w.heap.size w w':=by
 have lY:=Try.underlying26
 have HB:=Aside0.mk (Below.refl w.heap.size w)
 have H:(if aH=bg then (if aG=aV then (some true) else (some false)) else (some false))=some r:=h
 clear h
 by_cases c3:aH=bg
 ·rw [if_pos c3] at H
  have gw:(aH==bg)=true:=beq_iff_eq.mpr c3
  have mz:(aH !=bg)=false:=bne_eq_false_iff_eq.mpr c3
  clear c3
  by_cases c4:aG=aV
  ·rw [if_pos c4] at H
   have kP:(aG==aV)=true:=beq_iff_eq.mpr c4
   have b7r:(aG !=aV)=false:=bne_eq_false_iff_eq.mpr c4
   clear c4
   obtain rfl:=Option.some.inj H
   go_enter Try.func36,Try.ntmps36
   go_wp2_with (first|((with_reducible refine bk (N:=2) rfl ?_);refine bp ?hg (N:=2) ?hd (cs:= #[.int .i64 aH,.int .i64 aG]) (t:=26) ?hr ?_;(case hd=>rfl);(case hg=>rfl);(case hr=>first|(go_simp;done)|(go_simp;rfl));intro gW hg w5 aU hb;have ay:=Aside0.mk (ai ax hb);have aA:=Aside0.mk (aU);have aD:=Aside0.mk ((by rw [hg];exact (av ax):w.heap.size<=gW));have aR:=Aside0.mk ((by rw [hg];exact (av ax):w.heap.size<=gW));clear HB;have HB:=ay;have gX:=aA;have a3c:=aD;have a3d:=aR;clear ay aA aD aR;clear hb aU hg)|((with_reducible refine bk (N:=3) rfl ?_);refine bp ?hg (N:=3) ?hd (cs:= #[.int .i64 bg,.int .i64 aV]) (t:=26) ?hr ?_;(case hd=>rfl);(case hg=>rfl);(case hr=>first|(go_simp;done)|(go_simp;rfl));intro kX hg w6 aU hb;have ay:=Aside0.mk (ah (g:=gW) (o:= .cells #[.int .i64 aH,.int .i64 aG] 26 (0,0)) (aJ gX) hb);have aA:=Aside0.mk (ai ax hb);have aD:=Aside0.mk (aU);have aR:=Aside0.mk ((by rw [hg];exact (av ax):w.heap.size<=kX));have bK:=Aside0.mk ((by rw [hg];exact (av ax):w.heap.size<=kX));have bT:=Aside0.mk ((by rw [hg];exact Nat.ne_of_lt (aY (g:=gW) (o:= .cells #[.int .i64 aH,.int .i64 aG] 26 (0,0)) (aJ gX)):gW≠kX));have cm:=Aside0.mk ((by rw [hg];exact Nat.ne_of_gt (aY (g:=gW) (o:= .cells #[.int .i64 aH,.int .i64 aG] 26 (0,0)) (aJ gX)):kX≠gW));clear gX;clear HB;have gX:=ay;have HB:=aA;have oZ:=aD;have a3e:=aR;have a3f:=bK;have ux:=bT;have uy:=cm;clear ay aA aD aR bK bT cm;clear hb aU hg;have Fq:=ux.out;have Fs:=uy.out;have Oy:w6.cell? ⟨gW,0,none⟩=some (.int .i64 aH):=(ag gX.out 0).trans rfl;have Oz:w6.cell? ⟨gW,1,none⟩=some (.int .i64 aG):=(ag gX.out 1).trans rfl;have OA:=aa gX.out 0;have OB:=aa gX.out 1;have wH:w6.cell? ⟨kX,0,none⟩=some (.int .i64 bg):=(ag oZ.out 0).trans rfl;have wI:w6.cell? ⟨kX,1,none⟩=some (.int .i64 aV):=(ag oZ.out 1).trans rfl;have wJ:=aa oZ.out 0;have wK:=aa oZ.out 1))
   go_ret
   exact ⟨by first|rfl|(simp [aM,aQ]<;>rfl)|(simp [*,aM,aQ]<;>rfl),ax⟩
  ·rw [if_neg c4] at H
   have kP:(aG==aV)=false:=beq_eq_false_iff_ne.mpr c4
   have b7r:(aG !=aV)=true:=bne_iff_ne.mpr c4
   obtain rfl:=Option.some.inj H
   go_enter Try.func36,Try.ntmps36
   go_wp2_with (first|((with_reducible refine bk (N:=2) rfl ?_);refine bp ?hg (N:=2) ?hd (cs:= #[.int .i64 aH,.int .i64 aG]) (t:=26) ?hr ?_;(case hd=>rfl);(case hg=>rfl);(case hr=>first|(go_simp;done)|(go_simp;rfl));intro gW hg lO aU hb;have ay:=Aside0.mk (ai ax hb);have aA:=Aside0.mk (aU);have aD:=Aside0.mk ((by rw [hg];exact (av ax):w.heap.size<=gW));have aR:=Aside0.mk ((by rw [hg];exact (av ax):w.heap.size<=gW));clear HB;have HB:=ay;have gX:=aA;have a3c:=aD;have a3d:=aR;clear ay aA aD aR;clear hb aU hg)|((with_reducible refine bk (N:=3) rfl ?_);refine bp ?hg (N:=3) ?hd (cs:= #[.int .i64 bg,.int .i64 aV]) (t:=26) ?hr ?_;(case hd=>rfl);(case hg=>rfl);(case hr=>first|(go_simp;done)|(go_simp;rfl));intro kX hg fk aU hb;have ay:=Aside0.mk (ah (g:=gW) (o:= .cells #[.int .i64 aH,.int .i64 aG] 26 (0,0)) (aJ gX) hb);have aA:=Aside0.mk (ai ax hb);have aD:=Aside0.mk (aU);have aR:=Aside0.mk ((by rw [hg];exact (av ax):w.heap.size<=kX));have bK:=Aside0.mk ((by rw [hg];exact (av ax):w.heap.size<=kX));have bT:=Aside0.mk ((by rw [hg];exact Nat.ne_of_lt (aY (g:=gW) (o:= .cells #[.int .i64 aH,.int .i64 aG] 26 (0,0)) (aJ gX)):gW≠kX));have cm:=Aside0.mk ((by rw [hg];exact Nat.ne_of_gt (aY (g:=gW) (o:= .cells #[.int .i64 aH,.int .i64 aG] 26 (0,0)) (aJ gX)):kX≠gW));clear gX;clear HB;have gX:=ay;have HB:=aA;have oZ:=aD;have a3e:=aR;have a3f:=bK;have ux:=bT;have uy:=cm;clear ay aA aD aR bK bT cm;clear hb aU hg;have a3g:=ux.out;have a3h:=uy.out;have nC:fk.cell? ⟨gW,0,none⟩=some (.int .i64 aH):=(ag gX.out 0).trans rfl;have nD:fk.cell? ⟨gW,1,none⟩=some (.int .i64 aG):=(ag gX.out 1).trans rfl;have nE:=aa gX.out 0;have nG:=aa gX.out 1;have JM:fk.cell? ⟨kX,0,none⟩=some (.int .i64 bg):=(ag oZ.out 0).trans rfl;have JN:fk.cell? ⟨kX,1,none⟩=some (.int .i64 aV):=(ag oZ.out 1).trans rfl;have JO:=aa oZ.out 0;have JP:=aa oZ.out 1))
   go_ret
   exact ⟨by first|rfl|(simp [aM,aQ]<;>rfl)|(simp [*,aM,aQ]<;>rfl),ax⟩
 ·rw [if_neg c3] at H
  have gw:(aH==bg)=false:=beq_eq_false_iff_ne.mpr c3
  have mz:(aH !=bg)=true:=bne_iff_ne.mpr c3
  obtain rfl:=Option.some.inj H
  go_enter Try.func36,Try.ntmps36
  go_wp2_with (first|((with_reducible refine bk (N:=2) rfl ?_);refine bp ?hg (N:=2) ?hd (cs:= #[.int .i64 aH,.int .i64 aG]) (t:=26) ?hr ?_;(case hd=>rfl);(case hg=>rfl);(case hr=>first|(go_simp;done)|(go_simp;rfl));intro gW hg He aU hb;have ay:=Aside0.mk (ai ax hb);have aA:=Aside0.mk (aU);have aD:=Aside0.mk ((by rw [hg];exact (av ax):w.heap.size<=gW));have aR:=Aside0.mk ((by rw [hg];exact (av ax):w.heap.size<=gW));clear HB;have HB:=ay;have gX:=aA;have a3c:=aD;have a3d:=aR;clear ay aA aD aR;clear hb aU hg)|((with_reducible refine bk (N:=3) rfl ?_);refine bp ?hg (N:=3) ?hd (cs:= #[.int .i64 bg,.int .i64 aV]) (t:=26) ?hr ?_;(case hd=>rfl);(case hg=>rfl);(case hr=>first|(go_simp;done)|(go_simp;rfl));intro kX hg lB aU hb;have ay:=Aside0.mk (ah (g:=gW) (o:= .cells #[.int .i64 aH,.int .i64 aG] 26 (0,0)) (aJ gX) hb);have aA:=Aside0.mk (ai ax hb);have aD:=Aside0.mk (aU);have aR:=Aside0.mk ((by rw [hg];exact (av ax):w.heap.size<=kX));have bK:=Aside0.mk ((by rw [hg];exact (av ax):w.heap.size<=kX));have bT:=Aside0.mk ((by rw [hg];exact Nat.ne_of_lt (aY (g:=gW) (o:= .cells #[.int .i64 aH,.int .i64 aG] 26 (0,0)) (aJ gX)):gW≠kX));have cm:=Aside0.mk ((by rw [hg];exact Nat.ne_of_gt (aY (g:=gW) (o:= .cells #[.int .i64 aH,.int .i64 aG] 26 (0,0)) (aJ gX)):kX≠gW));clear gX;clear HB;have gX:=ay;have HB:=aA;have oZ:=aD;have a3e:=aR;have a3f:=bK;have ux:=bT;have uy:=cm;clear ay aA aD aR bK bT cm;clear hb aU hg;have b3e:=ux.out;have b3f:=uy.out;have JQ:lB.cell? ⟨gW,0,none⟩=some (.int .i64 aH):=(ag gX.out 0).trans rfl;have JR:lB.cell? ⟨gW,1,none⟩=some (.int .i64 aG):=(ag gX.out 1).trans rfl;have JS:=aa gX.out 0;have JT:=aa gX.out 1;have JU:lB.cell? ⟨kX,0,none⟩=some (.int .i64 bg):=(ag oZ.out 0).trans rfl;have JV:lB.cell? ⟨kX,1,none⟩=some (.int .i64 aV):=(ag oZ.out 1).trans rfl;have JW:=aa oZ.out 0;have JX:=aa oZ.out 1))
  go_ret
  exact ⟨by first|rfl|(simp [aM,aQ]<;>rfl)|(simp [*,aM,aQ]<;>rfl),ax⟩
def bJ.l0:Nat->List (bV)->List (bV)->Int->Option (Bool)
 |0,_,_,_=>none
 |k+1,x0,x1,x5=>if x5<(x0.length:Int) then (if 0<=x5 then (if x5<(x1.length:Int) then ((jG.f ((bh x0 x5).f0) ((bh x0 x5).f1) ((bh x1 x5).f0) ((bh x1 x5).f1)).bind fun Us=>(if Us=true then (bJ.l0 k x0 x1 (wrap64 (x5+1))) else (some false))) else (none)) else (none)) else (some true)
def bJ.f (k:Nat) (l0:List (bV)) (l1:List (bV)):Option (Bool):=if (l0.length:Int)=(l1.length:Int) then (bJ.l0 k l0 l1 0) else (some false)
theorem bJ.cH:∀k,(∀y0 y1 y2,aW (bJ.l0 k y0 y1 y2) (bJ.l0 (k+1) y0 y1 y2))
 |0=>fun _ _ _ r h=>by simp [bJ.l0] at h
 |k+1=>by
  have dP:=bJ.cH k
  ·intro y0 y1 y2
   unfold bJ.l0
   repeat' first
   |(with_reducible exact dP _ _ _)
   |(with_reducible exact aW.refl _)
   |(with_reducible exact aW.none _)
   |(with_reducible refine aW.ite ?_ ?_)
   |(with_reducible refine aW.bind ?_ (fun _=>?_))
theorem bJ.mono:∀a0 a1 k,aW (bJ.f k a0 a1) (bJ.f (k+1) a0 a1):=by
 intro a0 a1 k
 have dP:=bJ.cH k
 unfold bJ.f
 repeat' first
  |(with_reducible exact dP _ _ _)
  |(with_reducible exact aW.refl _)
  |(with_reducible exact aW.none _)
  |(with_reducible refine aW.ite ?_ ?_)
  |(with_reducible refine aW.bind ?_ (fun _=>?_))
def bJ.T6:Bool×List (List Nat×List Nat):=(true,[([],[]),([],[]),([0,1],[0,1]),([2],[2]),([],[]),([],[]),([4,5],[4,5]),([6],[6]),([3,7],[3,7]),([8],[8])])
def bJ.B6:List Nat:=[0,0,3,7,0,0,48,112,255,511]
theorem bJ.a8G:kF .any (opsOf Try.f37 6)=bJ.T6:=by kernel_rfl
theorem bJ.a3i:pZ bJ.T6.2 bJ.B6=true:=by kernel_rfl
set_option maxHeartbeats 8000000 in
set_option maxRecDepth 100000 in
theorem bJ.calls (k:Nat) (A0:Option Addr) (c0:Nat) (l0:List (bV)) (A1:Option Addr) (c1:Nat) (l1:List (bV)) (r:Bool) (w:World) (fE:Kd.C fD w A0 l0.length l0) (hc0:l0.length<=c0) (hr1:Kd.C fD w A1 l1.length l1) (hc1:l1.length<=c1) (h:bJ.f k l0 l1=some r):
 Calls Try.prog 37 #[.slice A0 l0.length c0,.slice A1 l1.length c1] w fun e w'=>e= .returned (.bool r)/\Below w.heap.size w w':=by
 have lY:=Try.underlying26
 have eL:=Aside0.mk fE
 have kB:=Aside0.mk hc0
 clear fE hc0
 have gV:=Aside0.mk hr1
 have iJ:=Aside0.mk hc1
 clear hr1 hc1
 have HB:=Aside0.mk (Below.refl w.heap.size w)
 have H:(if (l0.length:Int)=(l1.length:Int) then (bJ.l0 k l0 l1 0) else (some false))=some r:=h
 clear h
 by_cases c3:(l0.length:Int)=(l1.length:Int)
 ·rw [if_pos c3] at H
  have gw:((l0.length:Int)==(l1.length:Int))=true:=beq_iff_eq.mpr c3
  have mz:((l0.length:Int) !=(l1.length:Int))=false:=bne_eq_false_iff_eq.mpr c3
  have yc:(l0.length==l1.length)=true:=by first|simpa using c3|(simp at c3⊢;omega)
  clear c3
  have H':=Aside0.mk H
  clear H
  go_enter Try.func37,Try.ntmps37
  go_wp2
  go_loopg [5] k (fun kq v5 w'=>∃(aT:Int),v5= .int .i64 aT/\Aside0 (bJ.l0 kq l0 l1 aT=some r)/\Aside0 (kq<=k)/\Aside0 (Below w.heap.size w w'))
  case atStart=>exact ⟨(0),(by first|rfl|(simp;done)|(simp [*];done)),H',⟨Nat.le_refl _⟩,⟨ax⟩⟩
  case round=>
   clear H'
   try clear c1
   try clear p2
   try clear c3
   try clear gw
   try clear mz
   try clear yc
   obtain ⟨aT,rfl,HA,fI,HB⟩:=hrel
   cases gk with
   |zero=>exact absurd HA.out (by simp [bJ.l0])
   |succ k1=>
    have H:=HA.out
    clear HA
    simp only [bJ.l0] at H
    by_cases c4:aT<(l0.length:Int)
    ·rw [if_pos c4] at H
     have kP:decide (aT<(l0.length:Int))=true:=decide_eq_true c4
     clear c4
     by_cases c5:0<=aT
     ·rw [if_pos c5] at H
      have sZ:decide (0<=aT)=true:=decide_eq_true c5
      clear c5
      by_cases c6:aT<(l1.length:Int)
      ·rw [if_pos c6] at H
       have oQ:decide (aT<(l1.length:Int))=true:=decide_eq_true c6
       clear c6
       replace H:=Option.bind_eq_some_iff.mp H
       obtain ⟨Us,BP,H⟩:=H
       replace H:(if Us=true then (bJ.l0 k1 l0 l1 (wrap64 (aT+1))) else (some false))=some r:=H
       have A7:=Aside0.mk BP
       clear BP
       by_cases c8:Us=true
       ·subst c8
        have H1:(bJ.l0 k1 l0 l1 (wrap64 (aT+1)))=some r:=by rw [if_pos rfl] at H;exact H
        clear H
        have H:=H1
        clear H1
        have H':=Aside0.mk H
        clear H
        try go_wp2
        have ay:=Aside0.mk (bn HB.out)
        clear HB
        have HB:=ay
        clear ay
        have Fu:0<=(aT:Int):=of_decide_eq_true (by first|(with_reducible assumption)|assumption)
        have Fv:aT<(l0.length:Int):=of_decide_eq_true (by first|(with_reducible assumption)|assumption)
        obtain ⟨Ao,a0C,nH,nI⟩:=iI eL.out aT Fu Fv
        have qb:=nI
        have qc:=nH
        cases a0C
        replace nH:=(HB.out.cell (World.block_lt_of_cell? w _ nH)).trans nH
        replace nI:=(HB.out.cell (World.block_lt_of_cell? w _ nI)).trans nI
        replace Fu:=eq_true Fu
        replace Fv:=eq_true Fv
        have Fw:0<=(aT:Int):=of_decide_eq_true (by first|(with_reducible assumption)|assumption)
        have Fx:aT<(l1.length:Int):=of_decide_eq_true (by first|(with_reducible assumption)|assumption)
        obtain ⟨Ap,a0D,nJ,nK⟩:=iI gV.out aT Fw Fx
        have qd:=nK
        have qf:=nJ
        cases a0D
        replace nJ:=(HB.out.cell (World.block_lt_of_cell? w _ nJ)).trans nJ
        replace nK:=(HB.out.cell (World.block_lt_of_cell? w _ nK)).trans nK
        replace Fw:=eq_true Fw
        replace Fx:=eq_true Fx
        refine eG (n:=10) (S:=fun w'=>w'.cell? (Ao.add ((aT).toNat*2))=some (.int .i64 ((bh l0 aT).f0))/\w'.cell? ⟨(Ao.add ((aT).toNat*2)).block,(Ao.add ((aT).toNat*2)).off+1,none⟩=some (.int .i64 ((bh l0 aT).f1))/\w'.cell? (Ap.add ((aT).toNat*2))=some (.int .i64 ((bh l1 aT).f0))/\w'.cell? ⟨(Ap.add ((aT).toNat*2)).block,(Ap.add ((aT).toNat*2)).off+1,none⟩=some (.int .i64 ((bh l1 aT).f1))) (ds:=[]) #[false,false,false,false,false,false,false,false,false,false] (by kernel_rfl) rfl rfl ⟨((HB.out.cell (World.block_lt_of_cell? w _ qc)).trans qc),((HB.out.cell (World.block_lt_of_cell? w _ qb)).trans qb),((HB.out.cell (World.block_lt_of_cell? w _ qf)).trans qf),((HB.out.cell (World.block_lt_of_cell? w _ qd)).trans qd)⟩ (fun hHeld=>?_);refine jg bJ.a8G bJ.a3i (fun ck nZ=>?_)
        generalize wr.drew=w9 at HB nH nI nJ nK hHeld⊢
        refine bZ ck (i:=0) (N:=some 17) ?_
        refine bZ ck (i:=1) (N:=some 18) ?_
        refine bZ ck (i:=2) (N:=some 19) ?_
        refine bZ ck (i:=4) (N:=some 21) ?_
        refine bZ ck (i:=5) (N:=some 22) ?_
        refine bZ ck (i:=6) (N:=some 23) ?_
        refine cE (i:=3) (N:=some 20) (v:=?_) (a':=?_) #[true,true,true,true,true,true,true,false,false,false] rfl rfl (jF ck.out nZ.out (by kernel_rfl)) (fun _ _ _ h=>h) (Or.inl ⟨by rfl,?_⟩) hHeld ?_ ?_
        rotate_left
        ·rintro w' ⟨s0,s1,s2,s3⟩
         go_simp
         with_reducible rfl
        rotate_left
        ·exact dx
        refine cE (i:=7) (N:=some 24) (v:=?_) (a':=?_) #[true,true,true,true,true,true,true,true,false,false] rfl rfl (jF ck.out nZ.out (by kernel_rfl)) (fun _ _ _ h=>h) (Or.inl ⟨by rfl,?_⟩) hHeld ?_ ?_
        rotate_left
        ·rintro w' ⟨s0,s1,s2,s3⟩
         go_simp
         with_reducible rfl
        rotate_left
        ·exact dx
        refine fK (i:=8) (N:=some 25) #[true,true,true,true,true,true,true,true,true,false] rfl rfl (kN ck.out (by kernel_rfl)) (by decide) (fun K hK=>?_)
        refine om Try.func36 (by kernel_rfl) rfl #[.agg #[.int .i64 ((bh l0 aT).f0),.int .i64 ((bh l0 aT).f1)],.agg #[.int .i64 ((bh l1 aT).f0),.int .i64 ((bh l1 aT).f1)]] (by rfl) rfl rfl (by (try simp only [List.map_toArray,List.map_cons,List.map_nil]);first|done|rfl|(simp only [List.length_drop,List.length_take];rfl)) ?_
        with_reducible refine (jG.calls ((bh l0 aT).f0) ((bh l0 aT).f1) ((bh l1 aT).f0) ((bh l1 aT).f1) true _ A7.out).mono ?_
        rintro e lO ⟨rfl,hb⟩
        refine ⟨_,rfl,?_⟩
        have ay:=Aside0.mk (ai ax hb)
        clear HB
        have HB:=ay
        clear ay
        (try clear hb)
        (try clear hb2)
        (try clear hk)
        (try clear hi)
        refine hK.out _ _ ⟨((HB.out.cell (World.block_lt_of_cell? w _ qc)).trans qc),((HB.out.cell (World.block_lt_of_cell? w _ qb)).trans qb),((HB.out.cell (World.block_lt_of_cell? w _ qf)).trans qf),((HB.out.cell (World.block_lt_of_cell? w _ qd)).trans qd)⟩ (fun hHeld=>?_)
        clear hK K
        refine eP (a':=?_) ?_ ?_
        rotate_left
        ·show Act.put _ (some 25) _=_
         simp only [Act.put,List.setIfInBounds_toArray,List.set_cons_zero,List.set_cons_succ,cZ,eo]
         rfl
        refine bZ ck (i:=9) (N:=some 26) ?_
        refine fl (lS ck.out (by kernel_rfl)) ?_
        try go_wp2
        go_roundg k1
        case measure=>have:=fI.out;omega
        case rel=>exact ⟨(wrap64 (aT+1)),(by first|rfl|(simp;done)|(simp [*];done)),H',⟨by have:=fI.out;omega⟩,⟨ax⟩⟩
       ·replace c8:=Bool.eq_false_iff.mpr c8
        subst c8
        have H1:(some false)=some r:=by rw [if_neg (show ¬(false=true) by decide)] at H;exact H
        clear H
        have H:=H1
        clear H1
        obtain rfl:=Option.some.inj H
        try go_wp2
        have ay:=Aside0.mk (bn HB.out)
        clear HB
        have HB:=ay
        clear ay
        have Fu:0<=(aT:Int):=of_decide_eq_true (by first|(with_reducible assumption)|assumption)
        have Fv:aT<(l0.length:Int):=of_decide_eq_true (by first|(with_reducible assumption)|assumption)
        obtain ⟨Ao,a0C,nH,nI⟩:=iI eL.out aT Fu Fv
        have qb:=nI
        have qc:=nH
        cases a0C
        replace nH:=(HB.out.cell (World.block_lt_of_cell? w _ nH)).trans nH
        replace nI:=(HB.out.cell (World.block_lt_of_cell? w _ nI)).trans nI
        replace Fu:=eq_true Fu
        replace Fv:=eq_true Fv
        have Fw:0<=(aT:Int):=of_decide_eq_true (by first|(with_reducible assumption)|assumption)
        have Fx:aT<(l1.length:Int):=of_decide_eq_true (by first|(with_reducible assumption)|assumption)
        obtain ⟨Ap,a0D,nJ,nK⟩:=iI gV.out aT Fw Fx
        have qd:=nK
        have qf:=nJ
        cases a0D
        replace nJ:=(HB.out.cell (World.block_lt_of_cell? w _ nJ)).trans nJ
        replace nK:=(HB.out.cell (World.block_lt_of_cell? w _ nK)).trans nK
        replace Fw:=eq_true Fw
        replace Fx:=eq_true Fx
        refine eG (n:=10) (S:=fun w'=>w'.cell? (Ao.add ((aT).toNat*2))=some (.int .i64 ((bh l0 aT).f0))/\w'.cell? ⟨(Ao.add ((aT).toNat*2)).block,(Ao.add ((aT).toNat*2)).off+1,none⟩=some (.int .i64 ((bh l0 aT).f1))/\w'.cell? (Ap.add ((aT).toNat*2))=some (.int .i64 ((bh l1 aT).f0))/\w'.cell? ⟨(Ap.add ((aT).toNat*2)).block,(Ap.add ((aT).toNat*2)).off+1,none⟩=some (.int .i64 ((bh l1 aT).f1))) (ds:=[]) #[false,false,false,false,false,false,false,false,false,false] (by kernel_rfl) rfl rfl ⟨((HB.out.cell (World.block_lt_of_cell? w _ qc)).trans qc),((HB.out.cell (World.block_lt_of_cell? w _ qb)).trans qb),((HB.out.cell (World.block_lt_of_cell? w _ qf)).trans qf),((HB.out.cell (World.block_lt_of_cell? w _ qd)).trans qd)⟩ (fun hHeld=>?_);refine jg bJ.a8G bJ.a3i (fun ck nZ=>?_)
        generalize wr.drew=fk at HB nH nI nJ nK hHeld⊢
        refine bZ ck (i:=0) (N:=some 17) ?_
        refine bZ ck (i:=1) (N:=some 18) ?_
        refine bZ ck (i:=2) (N:=some 19) ?_
        refine bZ ck (i:=4) (N:=some 21) ?_
        refine bZ ck (i:=5) (N:=some 22) ?_
        refine bZ ck (i:=6) (N:=some 23) ?_
        refine cE (i:=3) (N:=some 20) (v:=?_) (a':=?_) #[true,true,true,true,true,true,true,false,false,false] rfl rfl (jF ck.out nZ.out (by kernel_rfl)) (fun _ _ _ h=>h) (Or.inl ⟨by rfl,?_⟩) hHeld ?_ ?_
        rotate_left
        ·rintro w' ⟨s0,s1,s2,s3⟩
         go_simp
         with_reducible rfl
        rotate_left
        ·exact dx
        refine cE (i:=7) (N:=some 24) (v:=?_) (a':=?_) #[true,true,true,true,true,true,true,true,false,false] rfl rfl (jF ck.out nZ.out (by kernel_rfl)) (fun _ _ _ h=>h) (Or.inl ⟨by rfl,?_⟩) hHeld ?_ ?_
        rotate_left
        ·rintro w' ⟨s0,s1,s2,s3⟩
         go_simp
         with_reducible rfl
        rotate_left
        ·exact dx
        refine fK (i:=8) (N:=some 25) #[true,true,true,true,true,true,true,true,true,false] rfl rfl (kN ck.out (by kernel_rfl)) (by decide) (fun K hK=>?_)
        refine om Try.func36 (by kernel_rfl) rfl #[.agg #[.int .i64 ((bh l0 aT).f0),.int .i64 ((bh l0 aT).f1)],.agg #[.int .i64 ((bh l1 aT).f0),.int .i64 ((bh l1 aT).f1)]] (by rfl) rfl rfl (by (try simp only [List.map_toArray,List.map_cons,List.map_nil]);first|done|rfl|(simp only [List.length_drop,List.length_take];rfl)) ?_
        with_reducible refine (jG.calls ((bh l0 aT).f0) ((bh l0 aT).f1) ((bh l1 aT).f0) ((bh l1 aT).f1) false _ A7.out).mono ?_
        rintro e lD ⟨rfl,hb⟩
        refine ⟨_,rfl,?_⟩
        have ay:=Aside0.mk (ai ax hb)
        clear HB
        have HB:=ay
        clear ay
        (try clear hb)
        (try clear hb2)
        (try clear hk)
        (try clear hi)
        refine hK.out _ _ ⟨((HB.out.cell (World.block_lt_of_cell? w _ qc)).trans qc),((HB.out.cell (World.block_lt_of_cell? w _ qb)).trans qb),((HB.out.cell (World.block_lt_of_cell? w _ qf)).trans qf),((HB.out.cell (World.block_lt_of_cell? w _ qd)).trans qd)⟩ (fun hHeld=>?_)
        clear hK K
        refine eP (a':=?_) ?_ ?_
        rotate_left
        ·show Act.put _ (some 25) _=_
         simp only [Act.put,List.setIfInBounds_toArray,List.set_cons_zero,List.set_cons_succ,cZ,eo]
         rfl
        refine bZ ck (i:=9) (N:=some 26) ?_
        refine fl (lS ck.out (by kernel_rfl)) ?_
        try go_wp2
        go_ret
        exact ⟨by first|rfl|(simp [aM,aQ]<;>rfl)|(simp [*,aM,aQ]<;>rfl),ax⟩
      ·rw [if_neg c6] at H
       exact absurd H (by simp)
     ·rw [if_neg c5] at H
      exact absurd H (by simp)
    ·rw [if_neg c4] at H
     have kP:decide (aT<(l0.length:Int))=false:=decide_eq_false c4
     clear c4
     obtain rfl:=Option.some.inj H
     go_wp2
     go_ret
     exact ⟨by first|rfl|(simp [aM,aQ]<;>rfl)|(simp [*,aM,aQ]<;>rfl),ax⟩
 ·rw [if_neg c3] at H
  have gw:((l0.length:Int)==(l1.length:Int))=false:=beq_eq_false_iff_ne.mpr c3
  have mz:((l0.length:Int) !=(l1.length:Int))=true:=bne_iff_ne.mpr c3
  have yc:(l0.length==l1.length)=false:=by first|simpa using c3|(simp at c3⊢;omega)
  obtain rfl:=Option.some.inj H
  go_enter Try.func37,Try.ntmps37
  go_wp2
  go_ret
  exact ⟨by first|rfl|(simp [aM,aQ]<;>rfl)|(simp [*,aM,aQ]<;>rfl),ax⟩
end Go.Proofs.Ytnhknojfpjheoaa.P
