/-
  Part 2 of the proof of this: The law FnExactCoverOf answers true at every argument.
-/
import Derived.Test.YtnhknojfpjheoaaKCoverOf1
import Derived.ChangeArms
import Derived.Deep.Slices
import Derived.OpenShut
import Derived.Test.YtnhknojfpjheoaaProg
import Derived.Below
import Derived.Deep.Draws
import Derived.Deep.AppendLies
import Derived.Maps.AppendAt
import Derived.OwnWalk
import Derived.Laws.BytesArg
import Derived.Laws.MakeOwn
import Derived.Laws.OwnMore
import Derived.Deep.OwnRows
import Derived.Tactics
import Derived.Lib.ConvBytes
import Derived.Laws.Slices
import Derived.WalkKit
import Derived.KernelRfl
import Derived.RowKit3
import Derived.Deep.LoopGhost
import Derived.Deep.QuietTactic
import Derived.BigQuiet
import Derived.WideLaws
import Derived.Deep.DeepCutAuto
import Derived.Deep.CutBlock
import Derived.Deep.RegionHeld3
import Derived.Laws.Rows
import Derived.Lib.AppendStr
import Derived.ArgAppend
import Derived.Laws.IdiomCopy
import Derived.OrdersHeld
import Derived.Laws.BitsLemmas
import Derived.RowKit
namespace Go.Proofs.YtnhknojfpjheoaaW.PrintWords
open Go.RowKit Go.Proofs.YtnhknojfpjheoaaW.PrintLast
set_option linter.all false
theorem ax {P:Prop} (h:P:=by repeat (first|(with_reducible first|exact HB.out|apply bA|apply fP|apply bB|refine bC ?_ (Aside0.out (by assumption)))|exact HB.out)):P:=h
theorem aI {P Q:Prop} (h:Aside0 P) (g:P->Q:=by intro h_;(with_reducible repeat (first|refine aq ?_ _|refine aj ?_|refine ak ?_ _));exact h_):Q:=g h.out
theorem eG {a a':Act} {N:Option Tmp} {v:Value} (h:a.put N v=a':=by simp only [Act.put,List.setIfInBounds_toArray,List.set_cons_zero,List.set_cons_succ,cZ,dX];rfl):a.put N v=a':=h
section
variable {P:Program} {ops:Array Oper} {Q:Exit->Act->World->Prop} {md:Region.Mode} {S:World->Prop} {ds:List Nat}
theorem aX {i:Nat} {N:Option Tmp} {oi:Oper} {v:Value} {fuel:Nat} {l:Array Bool} {a:Act} {w:World} {a':Act} (h:cu P md ops Q S ds fuel (l.setIfInBounds i true) a' w) (hc:GR md ops l (l.setIfInBounds i true) i=true:=by kernel_rfl) (hi:ops[i]? =some oi:=by exact rfl) (hN:oi.dst=N:=by exact rfl)
 (hQ:∀c a w,Q (.panic c) (a.put oi.dst v) w->Q (.panic c) a w:=by exact fun _ _ _ h=>h) (hy:Yields P ops oi v a:=by (refine Or.inl ⟨by rfl,?_⟩;intro w';go_simp;with_reducible rfl)) (ha:a.put N v=a':=by simp only [Act.put,List.setIfInBounds_toArray,List.set_cons_zero,List.set_cons_succ,cZ,dX];rfl):cu P md ops Q S ds (fuel+1) l a w:=RM _ hi hN hc hQ hy ha h
theorem bT {T:Bool×List (List Nat×List Nat)} {i:Nat} {N:Option Tmp} {oi:Oper} {v:Value} {fuel:Nat} {l:Array Bool} {a:Act} {w:World} {a':Act} (hT:Aside0 (ke md ops=T)) (h:cu P md ops Q S ds fuel (l.setIfInBounds i true) a' w) (hc:Yv T l.toList (l.setIfInBounds i true).toList i=true:=by kernel_rfl) (hi:ops[i]? =some oi:=by exact rfl) (hN:oi.dst=N:=by exact rfl)
 (hQ:∀c a w,Q (.panic c) (a.put oi.dst v) w->Q (.panic c) a w:=by exact fun _ _ _ h=>h) (hy:Yields P ops oi v a:=by (refine Or.inl ⟨by rfl,?_⟩;intro w';go_simp;with_reducible rfl)) (ha:a.put N v=a':=by simp only [Act.put,List.setIfInBounds_toArray,List.set_cons_zero,List.set_cons_succ,cZ,dX];rfl):cu P md ops Q S ds (fuel+1) l a w:=RM _ hi hN (a5O hT.out hc) hQ hy ha h
theorem jV {i:Nat} {N:Option Tmp} {oi:Oper} {fuel:Nat} {l:Array Bool} {a:Act} {w:World} {a':Act} (h:cu P md ops Q S ds fuel (l.setIfInBounds i true) a' w) (hc:GR md ops l (l.setIfInBounds i true) i=true:=by kernel_rfl) (hi:ops[i]? =some oi:=by exact rfl) (hN:oi.dst=N:=by exact rfl)
 (hQ:∀c a w,Q (.panic c) (a.put oi.dst undef) w->Q (.panic c) a w:=by exact fun _ _ _ h=>h) (hy:Yields P ops oi undef a:=by exact Or.inr ⟨by rfl,rfl⟩) (ha:a.put N undef=a':=by simp only [Act.put,List.setIfInBounds_toArray,List.set_cons_zero,List.set_cons_succ,cZ,dX];rfl):cu P md ops Q S ds (fuel+1) l a w:=RM _ hi hN hc hQ hy ha h
end
end Go.Proofs.YtnhknojfpjheoaaW.PrintWords
namespace Go.Proofs.Ytnhknojfpjheoaa.Opens
open Go.Proofs.YtnhknojfpjheoaaW.PrintWords Go.RowKit
set_option linter.all false
def Opens {α:Type} (P:Program) (d:Kd α) (t:TypeId) (G:α->Prop):Prop:=
 P.cellsOf t=d.sz/\∀{H:Type} (enc:TypeId×Value->H) (W:World) (held:Bool) (fuel:Nat) (cs:List Value) (x:DataW H×List MemPlace),DataW.trod enc P W 0 (fun _=>true) held fuel t cs=some x->∃a:α,d.K W a cs/\G a
theorem Opens.int {P:Program} {t:TypeId} {k:IntKind} (ht:P.underlying t=some (.int k)) (hc:P.cellsOf t=1):Opens P (Kd.int k) t (fun n=>(Lit.int k n).wf=true):=
 ⟨hc,fun _ _ _ _ _ _ h=>by obtain ⟨n,rfl,_,hw⟩:=DataW.trod_int ht h;exact ⟨n,rfl,hw⟩⟩
theorem Opens.bool {P:Program} {t:TypeId} (ht:P.underlying t=some .bool) (hc:P.cellsOf t=1):Opens P Kd.bool t (fun _=>True):=
 ⟨hc,fun _ _ _ _ _ _ h=>by obtain ⟨n,rfl,_⟩:=DataW.trod_bool ht h;exact ⟨n,rfl,trivial⟩⟩
theorem Opens.string {P:Program} {t:TypeId} (ht:P.underlying t=some .string) (hc:P.cellsOf t=1):Opens P Kd.string t (fun s=>s.size<=maxLen):=
 ⟨hc,fun _ _ _ _ _ _ h=>by obtain ⟨n,rfl,_,hw⟩:=DataW.trod_string ht h;exact ⟨n,rfl,hw⟩⟩
theorem Yw {w:World} {a:Addr} {n:Nat} {cs:List Value} (h:w.cells? 0 a n=some cs):cs.length=n/\∀i u,cs[i]? =some u->w.cell? (a.add i)=some u:=by
 unfold World.cells? at h
 rw [if_pos (Nat.zero_le _)] at h
 have h1:∀(l:List Nat) (cs:List Value),l.mapM (fun i=>w.cell? (a.add i))=some cs->cs.length=l.length/\∀(i:Nat) (u:Value),cs[i]? =some u->∃j:Nat,l[i]? =some j/\w.cell? (a.add j)=some u:=by
  intro l
  induction l with
  |nil=>intro cs h;simp at h;subst h;exact ⟨rfl,fun i u h=>by simp at h⟩
  |cons x l ih=>
   intro cs h
   rw [List.mapM_cons] at h
   obtain ⟨v,hv,h⟩:=Option.bind_eq_some_iff.1 h
   obtain ⟨vs,hvs,h⟩:=Option.bind_eq_some_iff.1 h
   cases h
   obtain ⟨hl,hi⟩:=ih vs hvs
   refine ⟨by simp [hl],fun i u hu=>?_⟩
   cases i with
   |zero=>simp at hu;subst hu;exact ⟨x,by simp,hv⟩
   |succ i=>simp at hu;obtain ⟨j,hj,hc⟩:=hi i u hu;exact ⟨j,by simpa using hj,hc⟩
 obtain ⟨hl,hi⟩:=h1 _ _ h
 refine ⟨by simpa using hl,fun i u hu=>?_⟩
 obtain ⟨j,hj,hc⟩:=hi i u hu
 have:i=j:=by
  rw [List.getElem?_eq_some_iff] at hj
  obtain ⟨hlt,e⟩:=hj
  simpa using e
 subst this;exact hc
theorem CD {α:Type} {Q:Nat->α->Prop}:∀(n:Nat),(∀i,i<n->∃a,Q i a)->∃l:List α,l.length=n/\∀i a,l[i]? =some a->Q i a
 |0,_=>⟨[],rfl,fun i a h=>by simp at h⟩
 |n+1,h=>by
  obtain ⟨l,hl,hq⟩:=CD n (fun i hi=>h i (by omega))
  obtain ⟨a,ha⟩:=h n (by omega)
  refine ⟨l++[a],by simp [hl],fun i b hb=>?_⟩
  rcases Nat.lt_or_ge i l.length with hi|hi
  ·rw [List.getElem?_append_left hi] at hb;exact hq i b hb
  ·rw [List.getElem?_append_right hi] at hb
   have e:i - l.length=0:=by
    rw [List.getElem?_eq_some_iff] at hb
    obtain ⟨h0,_⟩:=hb
    simp at h0;exact h0
   rw [e] at hb
   simp at hb;subst hb
   have:i=n:=by omega
   subst this;exact ha
theorem Opens.slice {α:Type} {P:Program} {d:Kd α} {t e:TypeId} {G:α->Prop} (ht:P.underlying t=some (.slice e)) (hc:P.cellsOf t=1) (h:Opens P d e G):
 Opens P (Kd.slice e d) t (fun l=>l.length<=maxLen/\∀x,x∈l->G x):=by
 refine ⟨hc,fun enc W held fuel cs x hx=>?_⟩
 rcases Go.Deep.open_slice ht hx with ⟨rfl,_⟩|⟨a,len,cap,m,n,D,Pl,rfl,_,hl,hm,hmm,_,hel⟩
 ·exact ⟨[],⟨none,0,rfl,Nat.le_refl _,rfl,by simp,fun h=>by simp at h⟩,by simp,fun x hx=>by simp at hx⟩
 ·have hm2:len<=m:=by rw [hmm];split<;>omega
  obtain ⟨l,xO,hq⟩:=CD (Q:=fun i a'=>∃c,c.length=d.sz/\d.K W a' c/\(∀j u,c[j]? =some u->W.cell? (a.add (i*d.sz+j))=some u)/\G a') len (fun i hi=>by
   obtain ⟨cs',hcs,htr⟩:=hel i (by omega)
   obtain ⟨a',hk,hg⟩:=h.2 enc W held n cs' _ htr
   obtain ⟨hlen,hce⟩:=Yw hcs
   refine ⟨a',cs',by rw [hlen,h.1],hk,fun j u hu=>?_,hg⟩
   have:=hce j u hu
   rw [h.1,Addr.add_add] at this
   exact this)
  unfold maxLen at hm⊢
  refine ⟨l,⟨some a,cap,by rw [xO],by omega,⟨rfl,by omega,fun _=>⟨a,rfl,fun j p hj=>?_⟩⟩⟩,by omega,fun x hx=>?_⟩
  ·obtain ⟨c,h1,h2,h3,_⟩:=hq j p hj
   exact ⟨c,h1,h2,h3⟩
  ·obtain ⟨i,hi⟩:=List.getElem?_of_mem hx
   obtain ⟨c,_,_,_,h4⟩:=hq i x hi
   exact h4
theorem Opens.pair {α β:Type} {a:Kd α} {b:Kd β} {Ga:α->Prop} {Gb:β->Prop} {W:World} {cs:List Value} {k:Nat}
 (h1:∃x,a.K W x (cs.take k)/\Ga x) (h2:∃y,b.K W y (cs.drop k)/\Gb y):∃p:α×β,(Kd.pair a b).K W p cs/\Ga p.1/\Gb p.2:=by
 obtain ⟨x,hx,gx⟩:=h1
 obtain ⟨y,hy,gy⟩:=h2
 exact ⟨(x,y),⟨cs.take k,cs.drop k,(List.take_append_drop _ _).symm,hx,hy⟩,gx,gy⟩
theorem Opens.iso {α β:Type} {d:Kd α} (f:β->α) (g:α->β) (hfg:∀x,f (g x)=x) {G:α->Prop} {W:World} {cs:List Value} (h:∃x,d.K W x cs/\G x):∃y:β,(Kd.iso d f).K W y cs/\G (f y):=by
 obtain ⟨x,hx,gx⟩:=h
 refine ⟨g x,?_,by rw [hfg];exact gx⟩
 show d.K W (f (g x)) cs
 rw [hfg];exact hx
theorem Opens.cons {α β:Type} {a:Kd α} {b:Kd β} {Ga:α->Prop} {Gb:β->Prop} {W:World} {cs:List Value} {o k:Nat}
 (h1:∃x,a.K W x ((cs.drop o).take k)/\Ga x) (h2:∃y,b.K W y (cs.drop (o+k))/\Gb y):∃p:α×β,(Kd.pair a b).K W p (cs.drop o)/\Ga p.1/\Gb p.2:=by
 obtain ⟨x,hx,gx⟩:=h1
 obtain ⟨y,hy,gy⟩:=h2
 exact ⟨(x,y),⟨(cs.drop o).take k,cs.drop (o+k),by rw [<-List.drop_drop,List.take_append_drop],hx,hy⟩,gx,gy⟩
theorem Opens.last {α:Type} {a:Kd α} {Ga:α->Prop} {W:World} {cs:List Value} {o k:Nat} (hl:cs.length=o+k)
 (h1:∃x,a.K W x ((cs.drop o).take k)/\Ga x):∃x,a.K W x (cs.drop o)/\Ga x:=by
 rw [List.take_of_length_le (by rw [List.length_drop];omega)] at h1
 exact h1
end Go.Proofs.Ytnhknojfpjheoaa.Opens
namespace Go.Proofs.Ytnhknojfpjheoaa.EvKit
open Go.RowKit Go.Proofs.YtnhknojfpjheoaaW.PrintWords
set_option linter.all false
theorem Mh {n:Int} (h1: -9223372036854775808<=n) (h2:n<=9223372036854775807):wrap64 n=n:=by
 unfold wrap64;omega
theorem eR {n:Nat} (h2:n<=9223372036854775806):wrap64 ((n:Int)+1)=((n+1:Nat):Int):=by
 unfold wrap64;omega
theorem Ev.succ {α:Type} {g:Nat->Option α} {r:α} (h:Ev (fun k=>g (k+1)) r):Ev g r:=Ev.step (fun _=>rfl) h
theorem Ev.some {α:Type} (r:α):Ev (fun _=>Option.some r) r:=Ev.now r
theorem Ev.loop {α:Type} {g:Nat->Nat->Option α} {n:Nat} {R:Nat->α} (hend:Ev (fun k=>g k n) (R n)) (hstep:∀i,i<n->Ev (fun k=>g k (i+1)) (R (i+1))->Ev (fun k=>g k i) (R i)):
 ∀i,i<=n->Ev (fun k=>g k i) (R i):=by
 have h:∀d i,i+d=n->Ev (fun k=>g k i) (R i):=by
  intro d
  induction d with
  |zero=>intro i hi;have:i=n:=by omega
         subst this;exact hend
  |succ d ih=>intro i hi;exact hstep i (by omega) (ih (i+1) (by omega))
 intro i hi
 exact h (n - i) i (by omega)
theorem qy {l:List Int} {i:Nat} (h:i<l.length):rd l (i:Int)=l[i]:=by
 unfold rd;simp [List.getD_eq_getElem?_getD,h]
theorem getD_at {α:Type} {l:List α} {i:Nat} (d:α) (h:i<l.length):l.getD ((i:Int).toNat) d=l[i]:=by
 simp [List.getD_eq_getElem?_getD,h]
theorem og {α:Type} {l:List α} {i:Nat} (h:i<l.length):l.drop i=l[i]::l.drop (i+1):=List.drop_eq_getElem_cons h
theorem Ev.pos {α:Type} {c:Prop} [Decidable c] {A B:Nat->Option α} {r:α} (h:c) (hA:Ev A r):Ev (fun k=>if c then A k else B k) r:=Ev.congr (fun _=>if_pos h) hA
theorem Ev.neg {α:Type} {c:Prop} [Decidable c] {A B:Nat->Option α} {r:α} (h:¬c) (hB:Ev B r):Ev (fun k=>if c then A k else B k) r:=Ev.congr (fun _=>if_neg h) hB
theorem Ev.to {α:Type} {g:Nat->Option α} {r r':α} (h:Ev g r) (e:r=r'):Ev g r':=e ▸ h
theorem Ev.val {α β:Type} {o:Option α} {x:α} {g:α->Nat->Option β} {r:β} (h:o=Option.some x) (hg:Ev (g x) r):Ev (fun k=>o.bind fun y=>g y k) r:=by
 subst h;exact hg
theorem Ev.all {α:Type} (l:List α) (p:α->Bool) {g:Nat->Nat->Option Bool} {R:Bool} (hend:l.all p=true->Ev (fun k=>g k l.length) R)
 (hyes:∀i (h:i<l.length),p l[i]=true->∀R',Ev (fun k=>g k (i+1)) R'->Ev (fun k=>g k i) R') (hno:∀i (h:i<l.length),p l[i]=false->Ev (fun k=>g k i) false):
 Ev (fun k=>g k 0) (l.all p&&R):=by
 have key:∀d i,i+d=l.length->((l.drop i).all p=true->Ev (fun k=>g k l.length) R)->Ev (fun k=>g k i) ((l.drop i).all p&&R):=by
  intro d
  induction d with
  |zero=>
   intro i hi he
   have:i=l.length:=by omega
   subst this
   simpa using he (by simp)
  |succ d ih=>
   intro i hi he
   have hlt:i<l.length:=by omega
   rw [List.drop_eq_getElem_cons hlt,List.all_cons] at he⊢
   cases hp:p l[i] with
   |true=>rw [Bool.true_and];exact hyes i hlt hp _ (ih (i+1) (by omega) (fun h=>he (by rw [hp,h];rfl)))
   |false=>simpa using hno i hlt hp
 simpa using key l.length 0 (by omega) (by simpa using hend)
end Go.Proofs.Ytnhknojfpjheoaa.EvKit
namespace Go.Proofs.Ytnhknojfpjheoaa.PT
open Go.RowKit Go.Proofs.YtnhknojfpjheoaaW.PrintWords
set_option linter.all false
theorem xQ (w:World) (o:Obj):(w.alloc o).heap.size=w.heap.size+1:=Array.size_push _
end Go.Proofs.Ytnhknojfpjheoaa.PT
namespace Go.Proofs.Ytnhknojfpjheoaa.P
open Go.RowKit Go.Proofs.YtnhknojfpjheoaaW.PrintWords Go.Proofs.YtnhknojfpjheoaaW.PrintLast Go.Proofs.YtnhknojfpjheoaaW.PrintMore
attribute [local go_sem] max2_int min2_int max_two min_two max_three min_three max_four min_four
set_option linter.all false
def a5P:Option Int->Value
 |none=> .nilIface
 |some c=> .iface 0 (.int .i64 c)
theorem aQ:a5P none= .nilIface:=rfl
theorem aR (c:Int):a5P (some c)= .iface 0 (.int .i64 c):=rfl
theorem info3:(Try.prog.info? 3).map (fun i=>(i.zero,i.size,i.bytes))=some (some (.int .i64 0),1,8):=by kernel_rfl
theorem a5Q:(Try.prog.info? 22).map (fun i=>(i.zero,i.size,i.bytes))=some (some (.slice none 0 0),1,24):=by kernel_rfl
theorem UA:(Try.prog.info? 26).map (fun i=>(i.zero,i.size,i.bytes))=some (some (.agg #[(.int .i64 0),(.int .i64 0)]),2,16):=by kernel_rfl
theorem EK:(Try.prog.info? 49).map (fun i=>(i.zero,i.size,i.bytes))=some (some (.agg #[(.slice none 0 0),(.bool false),(.int .i64 0)]),3,40):=by kernel_rfl
def dH (xs:List (List Int)) (i:Int):(List Int):=xs.getD i.toNat ([]:List Int)
theorem qz {w:World} {A:Option Addr} {n:Nat} {xs:List (List Int)} (h:Kd.C (Kd.slice 3 (Kd.int .i64)) w A n xs) (i:Int) (h0:0<=i) (h1:i<n):∃ad A0 c0,A=some ad/\w.cell? (ad.add i.toNat)=some (.slice A0 (dH xs i).length c0)/\(dH xs i).length<=c0/\(Kd.int .i64).C w A0 (dH xs i).length (dH xs i):=by
 obtain ⟨ad,c,e,_,hK,hc0⟩:=Kd.RH h ([]:List Int) i h0 h1
 have hc:∀j u,c[j]? =some u->w.cell? (ad.add (i.toNat*1+j))=some u:=hc0
 obtain ⟨A0,c0,rfl,l0,g0⟩:=hK
 exact ⟨ad,A0,c0,e,by have hq:=hc 0 _ rfl;rwa [Nat.mul_one,Nat.add_zero] at hq,l0,g0⟩
structure bM where
 f0:Int
 f1:Int
def z26:bM:=⟨(0:Int),(0:Int)⟩
def eY:Kd bM:=Kd.iso (Kd.pair (Kd.int .i64) (Kd.int .i64)) (fun x:bM=>(x.f0,x.f1))
theorem Yx {w:World} {x:bM} {cs:List Value} (h:eY.K w x cs):cs=[.int .i64 x.f0,.int .i64 x.f1]:=by
 obtain ⟨_,_,rfl,rfl,rfl⟩:=h
 exact rfl
theorem oY {w:World} {base:Nat} {ok:Nat->Prop} {x:bM} {cs:List Value} (h:eY.M w base ok x cs):cs=[.int .i64 x.f0,.int .i64 x.f1]:=by
 obtain ⟨_,_,rfl,rfl,rfl⟩:=h
 exact rfl
theorem a5R (w:World) (x:bM):eY.K w x [.int .i64 x.f0,.int .i64 x.f1]:=⟨[.int .i64 x.f0],[.int .i64 x.f1],rfl,rfl,rfl⟩
theorem uQ (w:World) (base:Nat) (ok:Nat->Prop) (x:bM):eY.M w base ok x [.int .i64 x.f0,.int .i64 x.f1]:=⟨[.int .i64 x.f0],[.int .i64 x.f1],rfl,rfl,rfl⟩
def aW (xs:List bM) (i:Int):bM:=xs.getD i.toNat z26
theorem iN {w:World} {A:Option Addr} {n:Nat} {xs:List bM} (h:Kd.C eY w A n xs) (i:Int) (h0:0<=i) (h1:i<n):∃ad,A=some ad/\w.cell? (ad.add (i.toNat*2))=some (.int .i64 (aW xs i).f0)/\w.cell? ⟨(ad.add (i.toNat*2)).block,(ad.add (i.toNat*2)).off+1,none⟩=some (.int .i64 (aW xs i).f1):=by
 obtain ⟨ad,c,e,_,hK,hc0⟩:=Kd.RH h z26 i h0 h1
 have hc:∀j u,c[j]? =some u->w.cell? (ad.add (i.toNat*2+j))=some u:=hc0
 obtain rfl:=Yx hK
 exact ⟨ad,e,hc 0 _ rfl,by rw [<-Ad _ _ 1 (by omega)];exact hc 1 _ rfl⟩
structure cq where
 f0:(List Int)
 f1:Bool
 f2:Int
def z49:cq:=⟨([]:List Int),false,(0:Int)⟩
def iZ:Kd cq:=Kd.iso (Kd.pair (Kd.slice 3 (Kd.int .i64)) (Kd.pair Kd.bool (Kd.int .i64))) (fun x:cq=>(x.f0,x.f1,x.f2))
theorem Yy {w:World} {x:cq} {cs:List Value} (h:iZ.K w x cs):∃A0 c0,cs=[.slice A0 x.f0.length c0,.bool x.f1,.int .i64 x.f2]/\x.f0.length<=c0/\(Kd.int .i64).C w A0 x.f0.length x.f0:=by
 obtain ⟨_,_,rfl,⟨A0,c0,rfl,l0,g0⟩,⟨_,_,rfl,rfl,rfl⟩⟩:=h
 exact ⟨A0,c0,rfl,l0,g0⟩
theorem a5S (w:World) (x:cq) {A0:Option Addr} {c0:Nat} (l0:x.f0.length<=c0) (g0:(Kd.int .i64).C w A0 x.f0.length x.f0):iZ.K w x [.slice A0 x.f0.length c0,.bool x.f1,.int .i64 x.f2]:=⟨[.slice A0 x.f0.length c0],[.bool x.f1,.int .i64 x.f2],rfl,⟨A0,c0,rfl,l0,g0⟩,⟨[.bool x.f1],[.int .i64 x.f2],rfl,rfl,rfl⟩⟩
theorem BL (w:World) (base:Nat) (ok:Nat->Prop) (x:cq) {v0:Value} (g0:(Kd.int .i64).R 3 w base ok v0 x.f0):iZ.M w base ok x [v0,.bool x.f1,.int .i64 x.f2]:=⟨[v0],[.bool x.f1,.int .i64 x.f2],rfl,⟨v0,rfl,g0⟩,⟨[.bool x.f1],[.int .i64 x.f2],rfl,rfl,rfl⟩⟩
def rE (xs:List cq) (i:Int):cq:=xs.getD i.toNat z49
theorem Mi {w:World} {A:Option Addr} {n:Nat} {xs:List cq} (h:Kd.C iZ w A n xs) (i:Int) (h0:0<=i) (h1:i<n):∃ad A0 c0,A=some ad/\w.cell? (ad.add (i.toNat*3))=some (.slice A0 (rE xs i).f0.length c0)/\w.cell? ⟨(ad.add (i.toNat*3)).block,(ad.add (i.toNat*3)).off+1,none⟩=some (.bool (rE xs i).f1)/\w.cell? ⟨(ad.add (i.toNat*3)).block,(ad.add (i.toNat*3)).off+2,none⟩=some (.int .i64 (rE xs i).f2)/\(rE xs i).f0.length<=c0/\(Kd.int .i64).C w A0 (rE xs i).f0.length (rE xs i).f0:=by
 obtain ⟨ad,c,e,_,hK,hc0⟩:=Kd.RH h z49 i h0 h1
 have hc:∀j u,c[j]? =some u->w.cell? (ad.add (i.toNat*3+j))=some u:=hc0
 obtain ⟨A0,c0,rfl,l0,g0⟩:=Yy hK
 exact ⟨ad,A0,c0,e,hc 0 _ rfl,by rw [<-Ad _ _ 1 (by omega)];exact hc 1 _ rfl,by rw [<-Ad _ _ 2 (by omega)];exact hc 2 _ rfl,l0,g0⟩
end Go.Proofs.Ytnhknojfpjheoaa.P
namespace Go.Proofs.Ytnhknojfpjheoaa.PT
open Go.RowKit Go.Proofs.Ytnhknojfpjheoaa.P Go.Proofs.YtnhknojfpjheoaaW.PrintWords Go.Proofs.YtnhknojfpjheoaaW.PrintLast Go.Proofs.Ytnhknojfpjheoaa.EvKit
set_option linter.all false
structure Tr (S:Nat->Prop) (W W':World):Prop where
 os:W'.os=W.os
 tape:W'.tape=W.tape
 output:W'.output=W.output
 size:W.heap.size<=W'.heap.size
 block:∀k,k<W.heap.size->¬S k->W'.heap[k]? =W.heap[k]?
theorem Tr.lB {W W':World} (h:Below W.heap.size W W'):Tr (fun _=>False) W W':=⟨h.os,h.tape,h.output,h.size,fun k hk _=>h.block k hk⟩
theorem Tr.below {S:Nat->Prop} {W W':World} {B:Nat} (h:Tr S W W') (hS:∀k,S k->B<=k) (hB:B<=W.heap.size):Below B W W':=⟨h.os,h.tape,h.output,by have:=h.size;omega,fun k hk=>h.block k (by omega) (fun hs=>by have:=hS k hs;omega)⟩
theorem Tr.GW {S:Nat->Prop} {w0 W W':World} {B:Nat} (h:Below B w0 W) (h':Below B w0 W') (k:Kept W W' S):Tr S W W':=⟨h'.os.trans h.os.symm,h'.tape.trans h.tape.symm,h'.output.trans h.output.symm,k.1,k.2⟩
theorem Tr.trans {S S' T:Nat->Prop} {W W' W'':World} (h:Tr S W W') (h':Tr S' W' W'') (h1:∀k,S k->T k) (h2:∀k,S' k->k<W.heap.size->T k):Tr T W W'':=
 ⟨h'.os.trans h.os,h'.tape.trans h.tape,h'.output.trans h.output,Nat.le_trans h.size h'.size,fun k hk hn=>(h'.block k (Nat.lt_of_lt_of_le hk h.size) (fun hs=>hn (h2 k hs hk))).trans (h.block k hk (fun hs=>hn (h1 k hs)))⟩
theorem Tr.refl (S:Nat->Prop) (W:World):Tr S W W:=⟨rfl,rfl,rfl,Nat.le_refl _,fun _ _ _=>rfl⟩
structure Ow (α:Type) where
 kd:Kd α
 own:World->α->List Value->List Nat->Prop
 rd:∀{W x cs bs},own W x cs bs->kd.K W x cs
 lt:∀{W x cs bs},own W x cs bs->∀b,b∈bs->b<W.heap.size
 nodup:∀{W x cs bs},own W x cs bs->bs.Nodup
 move:∀{W W' x cs bs},own W x cs bs->(∀b,b∈bs->W'.heap[b]? =W.heap[b]?)->own W' x cs bs
namespace Ow
variable {α β:Type} {W W':World}
theorem tr {D:Ow α} {x:α} {cs:List Value} {bs:List Nat} {S:Nat->Prop} (h:D.own W x cs bs) (t:Tr S W W') (hs:∀b,b∈bs->¬S b):D.own W' x cs bs:=D.move h (fun b hb=>t.block b (D.lt h b hb) (hs b hb))
def scalar (enc:α->Value) (h1:∀x,(enc x).oneCell'=true):Ow α where
 kd:=Kd.scalar enc h1
 own:=fun _ x cs bs=>cs=[enc x]/\bs=[]
 rd:=fun h=>h.1
 lt:=fun h b hb=>by rw [h.2] at hb;cases hb
 nodup:=fun h=>by rw [h.2];exact List.nodup_nil
 move:=fun h _=>h
def int:Ow Int:=scalar (Value.int .i64) (fun _=>rfl)
def string:Ow ByteArray:=scalar Value.string (fun _=>rfl)
def bool:Ow Bool:=scalar Value.bool (fun _=>rfl)
def pair (A:Ow α) (B:Ow β):Ow (α×β) where
 kd:=Kd.pair A.kd B.kd
 own:=fun W x cs bs=>∃c1 c2 b1 b2,cs=c1++c2/\bs=b1++b2/\bs.Nodup/\A.own W x.1 c1 b1/\B.own W x.2 c2 b2
 rd:=fun ⟨c1,c2,_,_,h,_,_,ha,hb⟩=>⟨c1,c2,h,A.rd ha,B.rd hb⟩
 lt:=by
  rintro W x cs bs ⟨c1,c2,b1,b2,_,rfl,_,ha,hb⟩ b h
  rcases List.mem_append.1 h with h|h
  ·exact A.lt ha b h
  ·exact B.lt hb b h
 nodup:=fun ⟨_,_,_,_,_,_,h,_⟩=>h
 move:=by
  rintro W W' x cs bs ⟨c1,c2,b1,b2,h1,rfl,h3,ha,hb⟩ hm
  exact ⟨c1,c2,b1,b2,h1,rfl,h3,A.move ha (fun b h=>hm b (List.mem_append_left _ h)),B.move hb (fun b h=>hm b (List.mem_append_right _ h))⟩
theorem BM {A:Ow α} {B:Ow β} {x:α} {y:β} {c1 c2:List Value} {b1 b2:List Nat} (ha:A.own W x c1 b1) (hb:B.own W y c2 b2) (hd:∀b,b∈b1->b∈b2->False):(pair A B).own W (x,y) (c1++c2) (b1++b2):=
 ⟨c1,c2,b1,b2,rfl,rfl,List.nodup_append.2 ⟨A.nodup ha,B.nodup hb,fun a h b h' e=>hd a h (e ▸ h')⟩,ha,hb⟩
def seg (sz:Nat) (cur:Array Value) (j:Nat):List Value:=(cur.toList.drop (j*sz)).take sz
def slice (e:Nat) (D:Ow α):Ow (List α) where
 kd:=Kd.slice e D.kd
 own:=fun W xs cs bs=>(xs=[]/\cs=[.slice none 0 0]/\bs=[])∨
  ∃(g:Nat) (cap:Nat) (cur:Array Value) (nV:List (List Nat)),cs=[.slice (some ⟨g,0,none⟩) xs.length cap]/\W.heap[g]? =some (.cells cur e (0,0))/\xs.length<=cap/\cap<=maxLen/\cur.size=cap*D.kd.sz/\
   bs=g::nV.flatten/\bs.Nodup/\nV.length=xs.length/\∀j,(h:j<xs.length)->(h':j<nV.length)->D.own W xs[j] (seg D.kd.sz cur j) nV[j]
 rd:=by
  rintro W xs cs bs (⟨rfl,rfl,_⟩|⟨g,cap,cur,nV,rfl,hg,hl,hm,hc,_,_,hb,hj⟩)
  ·exact ⟨none,0,rfl,Nat.le_refl _,rfl,by simp,fun h=>absurd h (by simp)⟩
  ·refine ⟨some ⟨g,0,none⟩,cap,rfl,hl,rfl,by unfold maxLen at hm;omega,fun _=>⟨_,rfl,fun j p hp=>?_⟩⟩
   obtain ⟨hlt,rfl⟩:=List.getElem?_eq_some_iff.1 hp
   have hD:=D.rd (hj j hlt (by omega))
   refine ⟨seg D.kd.sz cur j,D.kd.iQ hD,hD,fun i u hu=>?_⟩
   have hi:i<D.kd.sz:=by
    have:=(List.getElem?_eq_some_iff.1 hu).1
    rw [D.kd.iQ hD] at this;exact this
   have:(⟨g,0,none⟩:Addr).add (j*D.kd.sz+i)=⟨g,j*D.kd.sz+i,none⟩:=add_plain _ _
   rw [this,af hg]
   unfold seg at hu
   rw [List.getElem?_take,if_pos hi,List.getElem?_drop] at hu
   rw [<-Array.getElem?_toList];exact hu
 lt:=by
  rintro W xs cs bs (⟨_,_,rfl⟩|⟨g,cap,cur,nV,_,hg,_,_,_,rfl,_,hb,hj⟩) b h
  ·cases h
  ·rcases List.mem_cons.1 h with rfl|h
   ·exact aZ hg
   ·obtain ⟨l,hl,hbl⟩:=List.mem_flatten.1 h
    obtain ⟨j,hlt,rfl⟩:=List.getElem_of_mem hl
    exact D.lt (hj j (by omega) hlt) b hbl
 nodup:=by
  rintro W xs cs bs (⟨_,_,rfl⟩|⟨g,cap,cur,nV,_,_,_,_,_,_,h,_⟩)
  ·exact List.nodup_nil
  ·exact h
 move:=by
  rintro W W' xs cs bs (h|⟨g,cap,cur,nV,h1,hg,h3,h4,h5,rfl,h7,h8,hj⟩) hm
  ·exact .inl h
  ·refine .inr ⟨g,cap,cur,nV,h1,(hm g List.mem_cons_self).trans hg,h3,h4,h5,rfl,h7,h8,fun j h h'=>D.move (hj j h h') (fun b hb=>hm b (List.mem_cons_of_mem _ (List.mem_flatten.2 ⟨_,List.getElem_mem h',hb⟩)))⟩
structure Fit (D:Ow α):Prop where
 of:∀{W base ok x cs},D.kd.M W base ok x cs->∃bs,D.own W x cs bs/\∀b,b∈bs->ok b/\base<=b
 put:∀{W base} {ok:Nat->Prop} {x cs bs},D.own W x cs bs->(∀b,b∈bs->ok b/\base<=b)->D.kd.M W base ok x cs
theorem RS (enc:α->Value) (h1:∀x,(enc x).oneCell'=true):Fit (scalar enc h1):=⟨fun h=>⟨[],⟨h,rfl⟩,fun b hb=>by cases hb⟩,fun h _=>h.1⟩
theorem Pz:Fit int:=RS _ _
theorem a5T {D:Ow α} (F:Fit D) {e base:Nat} {ok:Nat->Prop} {v:Value} {xs:List α} (h:Kd.S D.kd e W base ok v xs):∃bs,(slice e D).own W xs [v] bs/\∀b,b∈bs->ok b/\base<=b:=by
 obtain ⟨f,h0,inner,⟨hl,ho⟩,hr⟩:=h
 have hz:xs.zipIdx.length=xs.length:=List.length_zipIdx
 rw [hz] at hl ho
 rcases ho with ⟨rfl,h00⟩|⟨g,cap,cur,rfl,hg,hh,h1,h2,h3,h4⟩
 ·have:xs=[]:=List.eq_nil_of_length_eq_zero h00
  subst this
  exact ⟨[],.inl ⟨rfl,rfl,rfl⟩,fun b hb=>by cases hb⟩
 ·have hs:(Kd.tag f D.kd).sz=D.kd.sz:=rfl
  rw [hs] at h3 h4 hl
  have Aj:∀j,j<xs.length->(inner.drop (j*D.kd.sz)).take D.kd.sz=seg D.kd.sz cur j:=fun j hj=>by
   rw [<-h4,List.drop_take,List.take_take]
   unfold seg
   congr 1
   have:j*D.kd.sz+D.kd.sz<=xs.length*D.kd.sz:=by rw [<-Nat.succ_mul];exact Nat.mul_le_mul_right _ hj
   omega
  have hex:∀j:Fin xs.length,∃bs,D.own W xs[j.1] (seg D.kd.sz cur j.1) bs/\∀b,b∈bs->((ok b/\b≠g)/\f b=j.1)/\base<=b:=fun j=>by
   have hM:=hr.2 j.1 (xs[j.1],j.1) (by rw [List.getElem?_zipIdx,List.getElem?_eq_getElem j.2];simp)
   obtain ⟨bs,hb1,hb2⟩:=F.of hM
   rw [hs,Aj j.1 j.2] at hb1
   exact ⟨bs,hb1,fun b hb=>⟨⟨⟨(hb2 b hb).1.1.1,fun e=>(hb2 b hb).1.1.2 (by rw [e];rfl)⟩,(hb2 b hb).1.2⟩,(hb2 b hb).2⟩⟩
  obtain ⟨bf,Mj⟩:=Classical.axiomOfChoice hex
  let nV:=(List.finRange xs.length).map bf
  have hbl:nV.length=xs.length:=by simp [nV]
  have JV:∀j (h:j<nV.length),nV[j]=bf ⟨j,by omega⟩:=fun j h=>by simp [nV]
  refine ⟨g::nV.flatten,.inr ⟨g,cap,cur,nV,rfl,hh,h1,h2,h3,rfl,?_,hbl,fun j h h'=>?_⟩,fun b hb=>?_⟩
  ·rw [List.nodup_cons]
   refine ⟨fun hm=>?_,?_⟩
   ·obtain ⟨l,hl,GX⟩:=List.mem_flatten.1 hm
    obtain ⟨j,hlt,rfl⟩:=List.getElem_of_mem hl
    rw [JV j hlt] at GX
    exact ((Mj ⟨j,by omega⟩).2 g GX).1.1.2 rfl
   ·unfold List.Nodup
    rw [List.pairwise_flatten]
    refine ⟨fun l hl=>?_,?_⟩
    ·obtain ⟨j,hlt,rfl⟩:=List.getElem_of_mem hl
     rw [JV j hlt]
     exact D.nodup (Mj _).1
    ·rw [List.pairwise_iff_getElem]
     intro i j hi hj hij a ha b hb e
     rw [JV i hi] at ha
     rw [JV j hj] at hb
     have h5:=((Mj _).2 a ha).1.2
     have h6:=((Mj _).2 b hb).1.2
     rw [e] at h5
     rw [h5] at h6
     simp only at h6
     omega
  ·rw [JV j h'];exact (Mj ⟨j,h⟩).1
  ·rcases List.mem_cons.1 hb with rfl|hb
   ·exact ⟨h0 b rfl,hg⟩
   ·obtain ⟨l,hl,GX⟩:=List.mem_flatten.1 hb
    obtain ⟨j,hlt,rfl⟩:=List.getElem_of_mem hl
    rw [JV j hlt] at GX
    exact ⟨((Mj _).2 b GX).1.1.1,((Mj _).2 b GX).2⟩
theorem a5V {D:Ow α} {e base:Nat} {ok:Nat->Prop} {v:Value} {xs:List α} (hE:∀{W base ok x cs},D.kd.M W base ok x cs->D.kd.M W base (fun _=>False) x cs) (h:D.kd.R e W base ok v xs):Kd.S D.kd e W base ok v xs:=by
 refine ⟨fun _=>0,h.1,?_⟩
 obtain ⟨h0,inner,ho,hr⟩:=h
 refine ⟨inner,by rw [List.length_zipIdx];exact ho,by rw [List.length_zipIdx];exact hr.1,fun j p hj=>?_⟩
 have hlt:j<xs.length:=by have:=(List.getElem?_eq_some_iff.1 hj).1;simpa using this
 have e:p=(xs[j],j):=by
  rw [List.getElem?_zipIdx] at hj
  simp [hlt] at hj
  exact hj.symm
 subst e
 exact D.kd.ew (fun _ hk=>hk.elim) (hE (hr.2 j _ (List.getElem?_eq_getElem hlt)))
theorem Yz {W:World} {base:Nat} {ok:Nat->Prop} {x:Int} {cs:List Value} (h:int.kd.M W base ok x cs):int.kd.M W base (fun _=>False) x cs:=h
open Classical in
theorem Lk {D:Ow α} (F:Fit D) {e base:Nat} {ok:Nat->Prop} {v:Value} {xs:List α} {bs:List Nat} (h:(slice e D).own W xs [v] bs) (hb:∀b,b∈bs->ok b/\base<=b):Kd.S D.kd e W base ok v xs:=by
 rcases h with ⟨rfl,hv,rfl⟩|⟨g,cap,cur,nV,hv,hg,h1,h2,h3,rfl,hn,hl,hj⟩
 ·injection hv with hv;subst hv
  exact Kd.yZ _ _ _ _ _
 ·injection hv with hv;subst hv
  rw [List.nodup_cons] at hn
  let f:Nat->Nat:=fun k=>nV.findIdx (fun l=>decide (k∈l))
  have hf:∀j (h:j<nV.length) k,k∈nV[j]->f k=j:=by
   intro j h k hk
   have h5:=hn.2
   unfold List.Nodup at h5
   rw [List.pairwise_flatten] at h5
   have h6:=List.pairwise_iff_getElem.1 h5.2
   show nV.findIdx _=j
   rw [List.findIdx_eq h]
   refine ⟨by simpa using hk,fun i hi=>?_⟩
   have hil:i<nV.length:=by omega
   simp only [decide_eq_false_iff_not]
   intro hm
   exact h6 i j hil h hi k hm k hk rfl
  refine ⟨f,fun k hk=>?_,cur.toList.take (xs.length*D.kd.sz),⟨?_,.inr ⟨g,cap,cur,by rw [List.length_zipIdx],(hb g List.mem_cons_self).2,hg,by rw [List.length_zipIdx];exact h1,h2,h3,by rw [List.length_zipIdx];rfl⟩⟩,?_,fun j p hp=>?_⟩
  ·have:g=k:=by simpa [Value.ownBlock] using hk
   subst this
   exact (hb g List.mem_cons_self).1
  ·rw [List.length_zipIdx,List.length_take]
   have:cur.toList.length=cur.size:=by simp
   have h5:xs.length*D.kd.sz<=cap*D.kd.sz:=Nat.mul_le_mul_right _ h1
   show min _ _=xs.length*D.kd.sz
   omega
  ·rw [List.length_zipIdx,List.length_take]
   have:cur.toList.length=cur.size:=by simp
   have h5:xs.length*D.kd.sz<=cap*D.kd.sz:=Nat.mul_le_mul_right _ h1
   show min _ _=xs.length*D.kd.sz
   omega
  ·have hlt:j<xs.length:=by have:=(List.getElem?_eq_some_iff.1 hp).1;simpa using this
   have e:p=(xs[j],j):=by
    rw [List.getElem?_zipIdx] at hp
    simp [hlt] at hp
    exact hp.symm
   subst e
   have hD:=hj j hlt (by omega)
   have Aj:((cur.toList.take (xs.length*D.kd.sz)).drop (j*D.kd.sz)).take D.kd.sz=seg D.kd.sz cur j:=by
    rw [List.drop_take,List.take_take]
    unfold seg
    congr 1
    have:j*D.kd.sz+D.kd.sz<=xs.length*D.kd.sz:=by rw [<-Nat.succ_mul];exact Nat.mul_le_mul_right _ hlt
    omega
   show D.kd.M W base _ xs[j] (((cur.toList.take (xs.length*D.kd.sz)).drop (j*D.kd.sz)).take D.kd.sz)
   rw [Aj]
   refine F.put hD (fun b hb'=>?_)
   have hm:b∈nV.flatten:=List.mem_flatten.2 ⟨_,List.getElem_mem (by omega),hb'⟩
   refine ⟨⟨⟨(hb b (List.mem_cons_of_mem _ hm)).1,fun e=>hn.1 ?_⟩,hf j (by omega) b hb'⟩,(hb b (List.mem_cons_of_mem _ hm)).2⟩
   have:b=g:=by simpa [Value.ownBlock] using e
   rw [<-this];exact hm
theorem xR {D:Ow α} (F:Fit D) (hE:∀{W base ok x cs},D.kd.M W base ok x cs->D.kd.M W base (fun _=>False) x cs) (e:Nat):Fit (slice e D):=
 ⟨fun ⟨v,hv,h⟩=>by subst hv;exact a5T F (a5V hE h),fun {W base ok x cs bs} h hb=>by
  have hv:∃v,cs=[v]:=by
   rcases h with ⟨_,rfl,_⟩|⟨_,_,_,_,rfl,_⟩
   ·exact ⟨_,rfl⟩
   ·exact ⟨_,rfl⟩
  obtain ⟨v,rfl⟩:=hv
  exact ⟨v,rfl,Kd.xL (Lk F h hb)⟩⟩
end Ow
abbrev gh:Ow (List Int):=Ow.slice 3 Ow.int
abbrev fc:Ow (List (List Int)):=Ow.slice 22 gh
theorem GY:Ow.Fit gh:=Ow.xR Ow.Pz Ow.Yz _
theorem UB {W:World} {base:Nat} {ok:Nat->Prop} {v:Value} {xs:List Int} (h:Kd.R (Kd.int .i64) 3 W base ok v xs):∃bs,gh.own W xs [v] bs/\∀b,b∈bs->ok b/\base<=b:=GY.of (x:=xs) ⟨v,rfl,h⟩
theorem a5W {W:World} {base:Nat} {ok:Nat->Prop} {v:Value} {xs:List Int} {bs:List Nat} (h:gh.own W xs [v] bs) (hb:∀b,b∈bs->ok b/\base<=b):Kd.R (Kd.int .i64) 3 W base ok v xs:=Kd.xL (Ow.Lk Ow.Pz h hb)
theorem PA {W:World} {base:Nat} {ok:Nat->Prop} {v:Value} {xs:List (List Int)} (h:Kd.S (Kd.slice 3 (Kd.int .i64)) 22 W base ok v xs):∃bs,fc.own W xs [v] bs/\∀b,b∈bs->ok b/\base<=b:=Ow.a5T GY h
theorem a3y {W:World} {base:Nat} {ok:Nat->Prop} {v:Value} {xs:List (List Int)} {bs:List Nat} (h:fc.own W xs [v] bs) (hb:∀b,b∈bs->ok b/\base<=b):Kd.S (Kd.slice 3 (Kd.int .i64)) 22 W base ok v xs:=Ow.Lk GY h hb
end Go.Proofs.Ytnhknojfpjheoaa.PT
namespace Go.Proofs.Ytnhknojfpjheoaa.P
open Go.RowKit Go.Proofs.YtnhknojfpjheoaaW.PrintWords Go.Proofs.YtnhknojfpjheoaaW.PrintLast Go.Proofs.YtnhknojfpjheoaaW.PrintMore
attribute [local go_sem] max2_int min2_int max_two min_two max_three min_three max_four min_four
set_option linter.all false
def mL.f (l0:List Int) (a1:Int):Option (Int):=if (wrap64 (a1 -(l0.length:Int)))<0 then (some (-1)) else (some (wrap64 (a1 -(l0.length:Int))))
set_option maxHeartbeats 8000000 in
set_option maxRecDepth 100000 in
theorem mL.calls (A0:Option Addr) (c0:Nat) (l0:List Int) (a1:Int) (r:Int) (w:World) (fy:Kd.C (Kd.int .i64) w A0 l0.length l0) (hc0:l0.length<=c0) (h:mL.f l0 a1=some r):
 Calls Try.prog 21 #[.slice A0 l0.length c0,.int .i64 a1] w fun e w'=>e= .returned (.int .i64 r)/\bg w w':=by
 have eE:=Aside0.mk fy
 have lR:=Aside0.mk hc0
 clear fy hc0
 have H:(if (wrap64 (a1 -(l0.length:Int)))<0 then (some (-1)) else (some (wrap64 (a1 -(l0.length:Int)))))=some r:=h
 clear h
 by_cases c3:(wrap64 (a1 -(l0.length:Int)))<0
 ·rw [if_pos c3] at H
  have gv:decide ((wrap64 (a1 -(l0.length:Int)))<0)=true:=decide_eq_true c3
  clear c3
  obtain rfl:=Option.some.inj H
  go_enter Try.func21,Try.ntmps21
  go_wp2
  go_ret
  exact ⟨by first|rfl|(simp;done)|(simp [*];done),by repeat (first|exact bg.refl _|apply bg.step)⟩
 ·rw [if_neg c3] at H
  have gv:decide ((wrap64 (a1 -(l0.length:Int)))<0)=false:=decide_eq_false c3
  clear c3
  obtain rfl:=Option.some.inj H
  go_enter Try.func21,Try.ntmps21
  go_wp2
  go_ret
  exact ⟨by first|rfl|(simp;done)|(simp [*];done),by repeat (first|exact bg.refl _|apply bg.step)⟩
def cP.l0:Nat->List (List Int)->Int->Int->Option (Int)
 |0,_,_,_=>none
 |k+1,x0,x1,x5=>if x5<(x0.length:Int) then (if 0<=x5 then ((mL.f (dH x0 x5) x1).bind fun t102=>(if t102<0 then (some (-1)) else (cP.l0 k x0 t102 (wrap64 (x5+1))))) else (none)) else (some x1)
def cP.f (k:Nat) (l0:List (List Int)) (a1:Int):Option (Int):=if (wrap64 (a1 -(l0.length:Int)))<0 then (some (-1)) else (cP.l0 k l0 (wrap64 (a1 -(l0.length:Int))) 0)
theorem cP.cI:∀k,(∀y0 y1 y2,aT (cP.l0 k y0 y1 y2) (cP.l0 (k+1) y0 y1 y2))
 |0=>fun _ _ _ r h=>by simp [cP.l0] at h
 |k+1=>by
  have dL:=cP.cI k
  ·intro y0 y1 y2
   unfold cP.l0
   repeat' first
   |(with_reducible exact dL _ _ _)
   |(with_reducible exact aT.refl _)
   |(with_reducible exact aT.none _)
   |(with_reducible refine aT.ite ?_ ?_)
   |(with_reducible refine aT.bind ?_ (fun _=>?_))
theorem cP.mono:∀a0 a1 k,aT (cP.f k a0 a1) (cP.f (k+1) a0 a1):=by
 intro a0 a1 k
 have dL:=cP.cI k
 unfold cP.f
 repeat' first
  |(with_reducible exact dL _ _ _)
  |(with_reducible exact aT.refl _)
  |(with_reducible exact aT.none _)
  |(with_reducible refine aT.ite ?_ ?_)
  |(with_reducible refine aT.bind ?_ (fun _=>?_))
set_option maxHeartbeats 8000000 in
set_option maxRecDepth 100000 in
theorem cP.calls (k:Nat) (A0:Option Addr) (c0:Nat) (l0:List (List Int)) (a1:Int) (r:Int) (w:World) (fy:Kd.C (Kd.slice 3 (Kd.int .i64)) w A0 l0.length l0) (hc0:l0.length<=c0) (h:cP.f k l0 a1=some r):
 Calls Try.prog 5 #[.slice A0 l0.length c0,.int .i64 a1] w fun e w'=>e= .returned (.int .i64 r)/\bg w w':=by
 have eE:=Aside0.mk fy
 have lR:=Aside0.mk hc0
 clear fy hc0
 have H:(if (wrap64 (a1 -(l0.length:Int)))<0 then (some (-1)) else (cP.l0 k l0 (wrap64 (a1 -(l0.length:Int))) 0))=some r:=h
 clear h
 by_cases c3:(wrap64 (a1 -(l0.length:Int)))<0
 ·rw [if_pos c3] at H
  have gv:decide ((wrap64 (a1 -(l0.length:Int)))<0)=true:=decide_eq_true c3
  clear c3
  obtain rfl:=Option.some.inj H
  go_enter Try.func5,Try.ntmps5
  go_wp2
  go_ret
  exact ⟨by first|rfl|(simp;done)|(simp [*];done),by repeat (first|exact bg.refl _|apply bg.step)⟩
 ·rw [if_neg c3] at H
  have gv:decide ((wrap64 (a1 -(l0.length:Int)))<0)=false:=decide_eq_false c3
  clear c3
  have H':=Aside0.mk H
  clear H
  go_enter Try.func5,Try.ntmps5
  go_wp2
  go_loopg [1,5] k (fun kq v1 v5 w'=>∃(dV:Int) (aM:Int),v1= .int .i64 dV/\v5= .int .i64 aM/\Aside0 (cP.l0 kq l0 dV aM=some r)/\Aside0 (kq<=k)/\bg w w')
  case atStart=>exact ⟨(wrap64 (a1 -(l0.length:Int))),(0),(by first|rfl|(simp;done)|(simp [*];done)),(by first|rfl|(simp;done)|(simp [*];done)),H',⟨Nat.le_refl _⟩,by repeat (first|exact bg.refl _|apply bg.step)⟩
  case round=>
   clear H'
   try clear p2
   try clear c3
   try clear gv
   obtain ⟨dV,aM,rfl,rfl,HA,fR,⟨m1,rfl⟩⟩:=hrel
   cases gk with
   |zero=>exact absurd HA.out (by simp [cP.l0])
   |succ k1=>
    have H:=HA.out
    clear HA
    simp only [cP.l0] at H
    by_cases c4:aM<(l0.length:Int)
    ·rw [if_pos c4] at H
     have kC:decide (aM<(l0.length:Int))=true:=decide_eq_true c4
     clear c4
     by_cases c5:0<=aM
     ·rw [if_pos c5] at H
      have uY:decide (0<=aM)=true:=decide_eq_true c5
      clear c5
      replace H:=Option.bind_eq_some_iff.mp H
      obtain ⟨t102,wh,H⟩:=H
      replace H:(if t102<0 then (some (-1)) else (cP.l0 k1 l0 t102 (wrap64 (aM+1))))=some r:=H
      have A6:=Aside0.mk wh
      clear wh
      by_cases c7:t102<0
      ·rw [if_pos c7] at H
       have rF:decide (t102<0)=true:=decide_eq_true c7
       clear c7
       obtain rfl:=Option.some.inj H
       have Dm:0<=(aM:Int):=of_decide_eq_true (by first|(with_reducible assumption)|assumption)
       have Dn:aM<(l0.length:Int):=of_decide_eq_true (by first|(with_reducible assumption)|assumption)
       obtain ⟨b0o,Mk,Ml,YA,a3z,xS,xT⟩:=qz eE.out aM Dm Dn
       cases YA
       have GZ:=Aside0.mk xT
       have He:=Aside0.mk xS
       clear xT xS
       replace Dm:=eq_true Dm
       replace Dn:=eq_true Dn
       go_wp2_with (first|((with_reducible refine aY (f:=21) rfl ?_);refine bP (some 23) rfl rfl Try.func21 (by kernel_rfl) rfl #[.slice Mk (dH l0 aM).length Ml,.int .i64 dV] rfl (by (try simp only [List.map_toArray,List.map_cons,List.map_nil]);first|done|rfl|(simp only [List.length_drop,List.length_take];rfl)) ?_;(with_reducible refine (mL.calls _ _ (dH l0 aM) dV t102 _ ?cy ?cA A6.out).mono ?_);(case cy=>repeat (first|exact GZ.out|(with_reducible refine Kd.cX ?_ _)|(with_reducible refine Kd.cY ?_ _)|(with_reducible refine Kd.dB ?_)));(case cA=>exact He.out);rintro e w' ⟨rfl,⟨nd,rfl⟩⟩;refine ⟨_,rfl,?_⟩))
       go_ret
       exact ⟨by first|rfl|(simp;done)|(simp [*];done),by repeat (first|exact bg.refl _|apply bg.step)⟩
      ·rw [if_neg c7] at H
       have rF:decide (t102<0)=false:=decide_eq_false c7
       clear c7
       have H':=Aside0.mk H
       clear H
       have Dm:0<=(aM:Int):=of_decide_eq_true (by first|(with_reducible assumption)|assumption)
       have Dn:aM<(l0.length:Int):=of_decide_eq_true (by first|(with_reducible assumption)|assumption)
       obtain ⟨b0o,Mk,Ml,YA,a3z,xS,xT⟩:=qz eE.out aM Dm Dn
       cases YA
       have GZ:=Aside0.mk xT
       have He:=Aside0.mk xS
       clear xT xS
       replace Dm:=eq_true Dm
       replace Dn:=eq_true Dn
       go_wp2_with (first|((with_reducible refine aY (f:=21) rfl ?_);refine bP (some 23) rfl rfl Try.func21 (by kernel_rfl) rfl #[.slice Mk (dH l0 aM).length Ml,.int .i64 dV] rfl (by (try simp only [List.map_toArray,List.map_cons,List.map_nil]);first|done|rfl|(simp only [List.length_drop,List.length_take];rfl)) ?_;(with_reducible refine (mL.calls _ _ (dH l0 aM) dV t102 _ ?cy ?cA A6.out).mono ?_);(case cy=>repeat (first|exact GZ.out|(with_reducible refine Kd.cX ?_ _)|(with_reducible refine Kd.cY ?_ _)|(with_reducible refine Kd.dB ?_)));(case cA=>exact He.out);rintro e w' ⟨rfl,⟨nd,rfl⟩⟩;refine ⟨_,rfl,?_⟩))
       go_roundg k1
       case measure=>have:=fR.out;omega
       case rel=>exact ⟨(t102),(wrap64 (aM+1)),(by first|rfl|(simp;done)|(simp [*];done)),(by first|rfl|(simp;done)|(simp [*];done)),H',⟨by have:=fR.out;omega⟩,by repeat (first|exact bg.refl _|apply bg.step)⟩
     ·rw [if_neg c5] at H
      exact absurd H (by simp)
    ·rw [if_neg c4] at H
     have kC:decide (aM<(l0.length:Int))=false:=decide_eq_false c4
     clear c4
     obtain rfl:=Option.some.inj H
     go_wp2
     go_ret
     exact ⟨by first|rfl|(simp;done)|(simp [*];done),by repeat (first|exact bg.refl _|apply bg.step)⟩
def cH.l0:Nat->List Int->List Int->Int->Option (List Int)
 |0,_,_,_=>none
 |k+1,x0,x3,x4=>if x4<(x0.length:Int) then (if 0<=x4 then (if x4<(x3.length:Int) then (cH.l0 k x0 (x3.set (x4:Int).toNat (rd x0 x4)) (wrap64 (x4+1))) else (none)) else (none)) else (some x3)
def cH.f (k:Nat) (l0:List Int):Option (List Int):=if 0<=(l0.length:Int) then (if ((l0.length:Int):Int).toNat<=35184372088832 then (cH.l0 k l0 (List.replicate ((l0.length:Int):Int).toNat 0) 0) else (none)) else (none)
theorem cH.cI:∀k,(∀y0 y1 y2,aT (cH.l0 k y0 y1 y2) (cH.l0 (k+1) y0 y1 y2))
 |0=>fun _ _ _ r h=>by simp [cH.l0] at h
 |k+1=>by
  have dL:=cH.cI k
  ·intro y0 y1 y2
   unfold cH.l0
   repeat' first
   |(with_reducible exact dL _ _ _)
   |(with_reducible exact aT.refl _)
   |(with_reducible exact aT.none _)
   |(with_reducible refine aT.ite ?_ ?_)
   |(with_reducible refine aT.bind ?_ (fun _=>?_))
theorem cH.mono:∀a0 k,aT (cH.f k a0) (cH.f (k+1) a0):=by
 intro a0 k
 have dL:=cH.cI k
 unfold cH.f
 repeat' first
  |(with_reducible exact dL _ _ _)
  |(with_reducible exact aT.refl _)
  |(with_reducible exact aT.none _)
  |(with_reducible refine aT.ite ?_ ?_)
  |(with_reducible refine aT.bind ?_ (fun _=>?_))
set_option maxHeartbeats 8000000 in
set_option maxRecDepth 100000 in
theorem cH.calls (k:Nat) (A0:Option Addr) (c0:Nat) (l0:List Int) (r:List Int) (w:World) (fy:Kd.C (Kd.int .i64) w A0 l0.length l0) (hc0:l0.length<=c0) (h:cH.f k l0=some r):
 Calls Try.prog 7 #[.slice A0 l0.length c0] w fun e w'=>∃oZ:Value,e= .returned (oZ)/\Kd.R (Kd.int .i64) 3 w' w.heap.size (fun _=>True) oZ r/\Below w.heap.size w w':=by
 have eE:=Aside0.mk fy
 have lR:=Aside0.mk hc0
 clear fy hc0
 have HB:=Aside0.mk (Below.refl w.heap.size w)
 have H:(if 0<=(l0.length:Int) then (if ((l0.length:Int):Int).toNat<=35184372088832 then (cH.l0 k l0 (List.replicate ((l0.length:Int):Int).toNat 0) 0) else (none)) else (none))=some r:=h
 clear h
 by_cases c2:0<=(l0.length:Int)
 ·rw [if_pos c2] at H
  have Dp:=eq_true c2
  have YB:decide (0<=(l0.length:Int))=true:=decide_eq_true c2
  clear c2
  by_cases c3:((l0.length:Int):Int).toNat<=35184372088832
  ·rw [if_pos c3] at H
   have gv:=eq_true c3
   have mX:decide (((l0.length:Int):Int).toNat<=35184372088832)=true:=decide_eq_true c3
   clear c3
   obtain ⟨a5X,EL⟩:∃y_:List Int,y_=(List.replicate ((l0.length:Int):Int).toNat 0):=⟨_,rfl⟩
   replace H:(cH.l0 k l0 a5X 0)=some r:=by first|(rw [EL];with_reducible exact H)|(have dZ:=(Option.bind_some _ _).symm.trans H;rw [EL];with_reducible exact dZ)|(have dZ:=(Option.bind_some _ _).symm.trans H;with_reducible exact dZ)|with_reducible exact H|(rw [EL];exact H)|exact H
   have a1k:=Aside0.mk EL
   clear EL
   have H':=Aside0.mk H
   clear H
   go_enter Try.func7,Try.ntmps7
   go_wp2_with (first|((with_reducible refine bp (N:=7) rfl ?_);refine Kd.Ui (Kd.int .i64) _ 3 rfl (N:=7) rfl 22 _ _ rfl (l0.length:Int) rfl rfl Try.underlying22 (.int .i64 0) 8 info3 rfl (by decide) (by omega) 0 (ok:=fun _=>True) (fK:=fun _=>True) rfl (fun _ hk=>hk) trivial (of_decide_eq_true (by first|(with_reducible assumption)|assumption)) (Nat.le_trans (Nat.mul_le_mul_right _ (of_decide_eq_true (by first|(with_reducible assumption)|assumption):(l0.length:Int).toNat<=35184372088832)) (by omega)) (Below.refl _ _) (Nat.le_refl _) ?_;intro v264 w4 tG hb uZ nH;clear uZ nH;(first|rw [<-a1k.out] at tG|(simp only [Int.reduceToNat] at tG;rw [<-a1k.out] at tG));have aA:=Aside0.mk (Kd.kL tG (av ax));have aC:=Aside0.mk (ah ax hb);clear HB;have b0p:=aA;have HB:=aC;clear aA aC;clear hb tG))
   go_loopg [4] k (fun kq v4 w'=>∃(gL:List Int) (dN:Int),v4= .int .i64 dN/\Aside0 (cH.l0 kq l0 gL dN=some r)/\Aside0 (kq<=k)/\Aside0 (Kd.R (Kd.int .i64) 3 w' w.heap.size (fun _=>True) v264 gL)/\Aside0 (Below w.heap.size w w'))
   case atStart=>exact ⟨(a5X),(0),(by first|rfl|(simp;done)|(simp [*];done)),H',⟨Nat.le_refl _⟩,⟨by (with_reducible repeat (first|apply Kd.dz|apply Kd.dG|apply Kd.ez));exact b0p.out⟩,⟨ax⟩⟩
   case round=>
    clear H'
    try clear c2
    try clear Dp
    try clear YB
    try clear p2
    try clear c3
    try clear gv
    try clear mX
    obtain ⟨gL,dN,rfl,HA,fR,gM,HB⟩:=hrel
    cases gk with
    |zero=>exact absurd HA.out (by simp [cH.l0])
    |succ k1=>
     have H:=HA.out
     clear HA
     simp only [cH.l0] at H
     by_cases c6:dN<(l0.length:Int)
     ·rw [if_pos c6] at H
      have ov:decide (dN<(l0.length:Int))=true:=decide_eq_true c6
      clear c6
      by_cases c7:0<=dN
      ·rw [if_pos c7] at H
       have rF:decide (0<=dN)=true:=decide_eq_true c7
       clear c7
       by_cases c8:dN<(gL.length:Int)
       ·rw [if_pos c8] at H
        have su:decide (dN<(gL.length:Int))=true:=decide_eq_true c8
        clear c8
        obtain ⟨YC,EM⟩:∃y_:List Int,y_=(gL.set (dN:Int).toNat (rd l0 dN)):=⟨_,rfl⟩
        replace H:(cH.l0 k1 l0 YC (wrap64 (dN+1)))=some r:=by first|(rw [EM];with_reducible exact H)|(have dZ:=(Option.bind_some _ _).symm.trans H;rw [EM];with_reducible exact dZ)|(have dZ:=(Option.bind_some _ _).symm.trans H;with_reducible exact dZ)|with_reducible exact H|(rw [EM];exact H)|exact H
        have b0q:=Aside0.mk EM
        clear EM
        have H':=Aside0.mk H
        clear H
        have YD:0<=(dN:Int):=of_decide_eq_true (by first|(with_reducible assumption)|assumption)
        have YE:dN<(l0.length:Int):=of_decide_eq_true (by first|(with_reducible assumption)|assumption)
        obtain ⟨ad266,b4A,Hf⟩:=Kd.gq eE.out dN YD YE
        cases b4A
        replace Hf:=(HB.out.cell (World.block_lt_of_cell? w _ Hf)).trans Hf
        replace YD:=eq_true YD
        replace YE:=eq_true YE
        have p9:0<=(dN:Int):=of_decide_eq_true (by first|(with_reducible assumption)|assumption)
        have q9:(dN:Int)<((gL.length:Int):Int):=of_decide_eq_true (by first|(with_reducible assumption)|assumption)
        obtain ⟨go9,co9,eo9,gb9,gl9,cl9,zN⟩:=Kd.EE gM.out (by omega)
        (first|cases eo9|(injection eo9 with rG Mm Mn;(first|subst rG|(injection rG with rG;subst rG));subst Mn;clear Mm))
        have GB9:=Aside0.mk gb9
        have GG9:=Aside0.mk zN
        clear gb9 gl9 zN
        obtain ⟨hx9_0,hf9_0⟩:=Kd.Pq 0 gM.out (dN:Int) p9 q9
        replace p9:=eq_true p9
        replace q9:=eq_true q9
        have Dq:=Kd.Uk gM.out (dN:Int) (rd l0 dN)
        go_wp2_with (first|((with_reducible refine iR (t:=3) (p:=20) rfl ?_);refine qm (t:=3) (p:=20) (v:=?a5Z) (w1:=(wr.setCell ⟨go9,(dN:Int).toNat,none⟩ (.int .i64 (rd l0 dN)))) ?hg ?ho ?hn ?hr ?_;(case ho=>rfl);(case hg=>rfl);(case hn=>rfl);(case hr=>first|(go_simp;done)|(go_simp;rfl)|((try (obtain ⟨_,_,e_⟩:=Kd.eJ gM.out;rw [e_]));(try (obtain ⟨_,_,e_⟩:=Kd.od gM.out;rw [e_]));(try (obtain ⟨_,_,e_⟩:=Kd.uN gM.out;rw [e_]));(try (obtain ⟨_,_,e_⟩:=Kd.uO gM.out;rw [e_]));go_simp;first|done|rfl));intro ja hw;have hg:wr.grownBy ja (some go9):=(by rw [hw];exact Dq.2);have wk:Kd.R (Kd.int .i64) 3 ja w.heap.size (fun _=>True) (.slice (some ⟨go9,0,none⟩) gL.length co9) YC:=(by rw [hw,b0q.out];exact Dq.1);clear Dq;have aA:=Aside0.mk (wk);have aC:=Aside0.mk ((by rw [hw];exact bC (HB.out) GB9.out:Below w.heap.size w ja));clear gM;clear HB;have gM:=aA;have HB:=aC;clear aA aC;clear hg hw wk))
        go_roundg k1
        case measure=>have:=fR.out;omega
        case rel=>exact ⟨(YC),(wrap64 (dN+1)),(by first|rfl|(simp;done)|(simp [*];done)),H',⟨by have:=fR.out;omega⟩,⟨by (with_reducible repeat (first|apply Kd.dz|apply Kd.dG|apply Kd.ez));exact gM.out⟩,⟨ax⟩⟩
       ·rw [if_neg c8] at H
        exact absurd H (by simp)
      ·rw [if_neg c7] at H
       exact absurd H (by simp)
     ·rw [if_neg c6] at H
      have ov:decide (dN<(l0.length:Int))=false:=decide_eq_false c6
      clear c6
      obtain rfl:=Option.some.inj H
      go_wp2
      go_ret
      exact ⟨_,by first|rfl|(simp [aQ,aR]<;>rfl)|(simp [*,aQ,aR]<;>rfl),by (with_reducible repeat (first|apply Kd.dz|apply Kd.dG|apply Kd.ez));exact gM.out,ax⟩
  ·rw [if_neg c3] at H
   exact absurd H (by simp)
 ·rw [if_neg c2] at H
  exact absurd H (by simp)
def cJ.l0:Nat->List (List Int)->List (List Int)->Int->Option ((List (List Int)))
 |0,_,_,_=>none
 |k+1,x0,x3,x4=>if x4<(x0.length:Int) then (if 0<=x4 then ((cH.f k (dH x0 x4)).bind fun Hg=>(if x4<(x3.length:Int) then (cJ.l0 k x0 (x3.set (x4:Int).toNat Hg) (wrap64 (x4+1))) else (none))) else (none)) else (some x3)
def cJ.f (k:Nat) (l0:List (List Int)):Option ((List (List Int))):=if 0<=(l0.length:Int) then (if ((l0.length:Int):Int).toNat<=11728124029610 then (cJ.l0 k l0 (List.replicate ((l0.length:Int):Int).toNat []) 0) else (none)) else (none)
theorem cJ.cI:∀k,(∀y0 y1 y2,aT (cJ.l0 k y0 y1 y2) (cJ.l0 (k+1) y0 y1 y2))
 |0=>fun _ _ _ r h=>by simp [cJ.l0] at h
 |k+1=>by
  have dL:=cJ.cI k
  ·intro y0 y1 y2
   unfold cJ.l0
   repeat' first
   |(with_reducible exact dL _ _ _)
   |(with_reducible exact cH.mono _ _)
   |(with_reducible exact aT.refl _)
   |(with_reducible exact aT.none _)
   |(with_reducible refine aT.ite ?_ ?_)
   |(with_reducible refine aT.bind ?_ (fun _=>?_))
theorem cJ.mono:∀a0 k,aT (cJ.f k a0) (cJ.f (k+1) a0):=by
 intro a0 k
 have dL:=cJ.cI k
 unfold cJ.f
 repeat' first
  |(with_reducible exact dL _ _ _)
  |(with_reducible exact cH.mono _ _)
  |(with_reducible exact aT.refl _)
  |(with_reducible exact aT.none _)
  |(with_reducible refine aT.ite ?_ ?_)
  |(with_reducible refine aT.bind ?_ (fun _=>?_))
set_option maxHeartbeats 8000000 in
set_option maxRecDepth 100000 in
theorem cJ.calls (k:Nat) (A0:Option Addr) (c0:Nat) (l0:List (List Int)) (r:List (List Int)) (w:World) (fy:Kd.C (Kd.slice 3 (Kd.int .i64)) w A0 l0.length l0) (hc0:l0.length<=c0) (h:cJ.f k l0=some r):
 Calls Try.prog 8 #[.slice A0 l0.length c0] w fun e w'=>∃oZ:Value,e= .returned (oZ)/\Kd.S (Kd.slice 3 (Kd.int .i64)) 22 w' w.heap.size (fun _=>True) oZ r/\Below w.heap.size w w':=by
 have eE:=Aside0.mk fy
 have lR:=Aside0.mk hc0
 clear fy hc0
 have HB:=Aside0.mk (Below.refl w.heap.size w)
 have H:(if 0<=(l0.length:Int) then (if ((l0.length:Int):Int).toNat<=11728124029610 then (cJ.l0 k l0 (List.replicate ((l0.length:Int):Int).toNat []) 0) else (none)) else (none))=some r:=h
 clear h
 by_cases c2:0<=(l0.length:Int)
 ·rw [if_pos c2] at H
  have Dp:=eq_true c2
  have YB:decide (0<=(l0.length:Int))=true:=decide_eq_true c2
  clear c2
  by_cases c3:((l0.length:Int):Int).toNat<=11728124029610
  ·rw [if_pos c3] at H
   have gv:=eq_true c3
   have mX:decide (((l0.length:Int):Int).toNat<=11728124029610)=true:=decide_eq_true c3
   clear c3
   obtain ⟨a6a,EN⟩:∃y_:List (List Int),y_=(List.replicate ((l0.length:Int):Int).toNat []):=⟨_,rfl⟩
   replace H:(cJ.l0 k l0 a6a 0)=some r:=by first|(rw [EN];with_reducible exact H)|(have dZ:=(Option.bind_some _ _).symm.trans H;rw [EN];with_reducible exact dZ)|(have dZ:=(Option.bind_some _ _).symm.trans H;with_reducible exact dZ)|with_reducible exact H|(rw [EN];exact H)|exact H
   have a1m:=Aside0.mk EN
   clear EN
   have H':=Aside0.mk H
   clear H
   go_enter Try.func8,Try.ntmps8
   go_wp2_with (first|((with_reducible refine bp (N:=7) rfl ?_);refine Kd.a5J (Kd.slice 3 (Kd.int .i64)) _ 22 rfl (N:=7) rfl 23 _ _ rfl (l0.length:Int) rfl rfl Try.underlying23 (.slice none 0 0) 24 a5Q rfl (by decide) (by omega) [] (ok:=fun _=>True) (fK:=fun _=>True) ⟨_,rfl,Kd.rB _ _ _ _ _⟩ (fun _ hk=>hk) trivial (of_decide_eq_true (by first|(with_reducible assumption)|assumption)) (Nat.le_trans (Nat.mul_le_mul_right _ (of_decide_eq_true (by first|(with_reducible assumption)|assumption):(l0.length:Int).toNat<=11728124029610)) (by omega)) (Below.refl _ _) (Nat.le_refl _) ?_;intro v269 w4 tG hb uZ nH;clear uZ nH;(first|rw [<-a1m.out] at tG|(simp only [Int.reduceToNat] at tG;rw [<-a1m.out] at tG));have aA:=Aside0.mk (Kd.GU tG (av ax));have aC:=Aside0.mk (ah ax hb);clear HB;have b0r:=aA;have HB:=aC;clear aA aC;clear hb tG))
   go_loopg [4] k (fun kq v4 w'=>∃(gL:List (List Int)) (dN:Int),v4= .int .i64 dN/\Aside0 (cJ.l0 kq l0 gL dN=some r)/\Aside0 (kq<=k)/\Aside0 (Kd.S (Kd.slice 3 (Kd.int .i64)) 22 w' w.heap.size (fun _=>True) v269 gL)/\Aside0 (Below w.heap.size w w'))
   case atStart=>exact ⟨(a6a),(0),(by first|rfl|(simp;done)|(simp [*];done)),H',⟨Nat.le_refl _⟩,⟨by (with_reducible repeat (first|apply Kd.bU|apply Kd.bV|apply Kd.cE));exact b0r.out⟩,⟨ax⟩⟩
   case round=>
    clear H'
    try clear c2
    try clear Dp
    try clear YB
    try clear p2
    try clear c3
    try clear gv
    try clear mX
    obtain ⟨gL,dN,rfl,HA,fR,gM,HB⟩:=hrel
    cases gk with
    |zero=>exact absurd HA.out (by simp [cJ.l0])
    |succ k1=>
     have H:=HA.out
     clear HA
     simp only [cJ.l0] at H
     by_cases c6:dN<(l0.length:Int)
     ·rw [if_pos c6] at H
      have ov:decide (dN<(l0.length:Int))=true:=decide_eq_true c6
      clear c6
      by_cases c7:0<=dN
      ·rw [if_pos c7] at H
       have rF:decide (0<=dN)=true:=decide_eq_true c7
       clear c7
       replace H:=Option.bind_eq_some_iff.mp H
       obtain ⟨Hg,A80,H⟩:=H
       replace H:(if dN<(gL.length:Int) then (cJ.l0 k1 l0 (gL.set (dN:Int).toNat Hg) (wrap64 (dN+1))) else (none))=some r:=H
       have A8:=Aside0.mk A80
       clear A80
       by_cases c9:dN<(gL.length:Int)
       ·rw [if_pos c9] at H
        have Dr:decide (dN<(gL.length:Int))=true:=decide_eq_true c9
        clear c9
        obtain ⟨YF,EO⟩:∃y_:List (List Int),y_=(gL.set (dN:Int).toNat Hg):=⟨_,rfl⟩
        replace H:(cJ.l0 k1 l0 YF (wrap64 (dN+1)))=some r:=by first|(rw [EO];with_reducible exact H)|(have dZ:=(Option.bind_some _ _).symm.trans H;rw [EO];with_reducible exact dZ)|(have dZ:=(Option.bind_some _ _).symm.trans H;with_reducible exact dZ)|with_reducible exact H|(rw [EO];exact H)|exact H
        have b0s:=Aside0.mk EO
        clear EO
        have H':=Aside0.mk H
        clear H
        have YG:0<=(dN:Int):=of_decide_eq_true (by first|(with_reducible assumption)|assumption)
        have YH:dN<(l0.length:Int):=of_decide_eq_true (by first|(with_reducible assumption)|assumption)
        obtain ⟨ad271,a6b,a6c,b4B,Hj,PB,PC⟩:=qz eE.out dN YG YH
        cases b4B
        replace Hj:=(HB.out.cell (World.block_lt_of_cell? w _ Hj)).trans Hj
        have a3A:=Aside0.mk PC
        have a3B:=Aside0.mk PB
        clear PC PB
        replace YG:=eq_true YG
        replace YH:=eq_true YH
        go_wp2_with (first|((with_reducible refine aY (f:=7) rfl ?_);refine bP (some 20) rfl rfl Try.func7 (by kernel_rfl) rfl #[.slice a6b (dH l0 dN).length a6c] rfl (by (try simp only [List.map_toArray,List.map_cons,List.map_nil]);first|done|rfl|(simp only [List.length_drop,List.length_take];rfl)) ?_;(with_reducible refine (cH.calls k1 _ _ (dH l0 dN) Hg _ ?cy ?cA A8.out).mono ?_);(case cy=>repeat (first|exact (Kd.bX a3A.out HB.out)|(with_reducible refine Kd.cX ?_ _)|(with_reducible refine Kd.cY ?_ _)|(with_reducible refine Kd.dB ?_)));(case cA=>exact a3B.out);rintro e ja ⟨v273,rfl,tH,hb⟩;refine ⟨_,rfl,?_⟩;have aA:=Aside0.mk (Kd.sq (by (with_reducible repeat (first|apply Kd.bU|apply Kd.bV|apply Kd.cE));exact gM.out) (Kd.tD tH) hb);have aC:=Aside0.mk (Kd.kL tH (av ax));have aD:=Aside0.mk (ah ax hb);clear gM;clear HB;have gM:=aA;have ze:=aC;have HB:=aD;clear aA aC aD;(try clear hb);(try clear hb2);(try clear hk);(try clear hi);(try clear tH);have p10:0<=(dN:Int):=of_decide_eq_true (by first|(with_reducible assumption)|assumption);have q10:(dN:Int)<((gL.length:Int):Int):=of_decide_eq_true (by first|(with_reducible assumption)|assumption);obtain ⟨Hl,a6f,a6g,a6h,b4C,cl10,a6i⟩:=Kd.Up gM.out (by omega);(first|cases a6g|(injection a6g with rG Mm Mn;(first|subst rG|(injection rG with rG;subst rG));subst Mn;clear Mm));have b4D:=Aside0.mk a6h;have GG10:=Aside0.mk a6i;clear a6h b4C a6i;obtain ⟨_,b4E,Ll,Mo,BN,EP,_,_⟩:=Kd.Us gM.out [] (dN:Int) p10 q10;obtain ⟨ve10_0,rfl,ge10_0⟩:=Mo;have a6j:=BN 0 _ rfl;have a6k:=EP 0;(try simp only [show ((Kd.slice 3 (Kd.int .i64))).sz=1 from rfl,Nat.mul_one,Nat.add_zero] at a6j);(try simp only [show ((Kd.slice 3 (Kd.int .i64))).sz=1 from rfl,Nat.mul_one,Nat.add_zero] at a6k);clear Ll BN EP;(try clear Mo);replace p10:=eq_true p10;replace q10:=eq_true q10;have n_:=Aside0.mk (Kd.dY (ok':=(fun k_=>some k_≠(v273:Value).ownBlock)) gM.out (fun k_ hk=>hk.2));clear gM;have gM:=n_;clear n_;have b4F:=Aside0.mk (show Kd.S (Kd.slice 3 (Kd.int .i64)) 22 ja w.heap.size (fun k_=>((fun _=>True)) k_/\¬((fun k_=>some k_=(v273:Value).ownBlock)) k_) (.slice (some ⟨Hl,0,none⟩) gL.length a6f) gL from (by (with_reducible repeat (first|apply Kd.bU|apply Kd.bV|apply Kd.cE));exact Kd.dY gM.out (fun k_ hk=>⟨trivial,fun e_=>hk e_⟩)));obtain ⟨oki12,ce12,b0t,a6l,a1n,a1o,a6m,a6n⟩:=Kd.Us b4F.out [] (dN:Int) (of_decide_eq_true (by first|(with_reducible assumption)|assumption)) (by have h_:(dN:Int)<((gL.length:Int):Int):=of_decide_eq_true (by first|(with_reducible assumption)|assumption);first|exact h_|(have e_:=(Kd.sr gM.out).1;omega)|simpa using h_);obtain ⟨ve12_0,rfl,ge12_0⟩:=a6l;have RT:=Kd.b0m a6n (of_decide_eq_true (by first|(with_reducible assumption)|assumption)) (by have h_:(dN:Int)<((gL.length:Int):Int):=of_decide_eq_true (by first|(with_reducible assumption)|assumption);first|exact h_|(have e_:=(Kd.sr gM.out).1;omega)|simpa using h_) (seg:=[v273]) (j:=0) (show 1<=1 from by decide) (x':=Hg) (Kd.b0e (Kd.dD (Kd.oc rfl (Kd.dD (ok':=fun k_=>((fun _=>True)) k_/\k_≠Hl) (Kd.iH (ze.out) (Kd.jK gM.out) (by decide)) (fun k_ hk=>⟨trivial,fun e_=>(hk.2) (by rw [e_];rfl)⟩))) (fun _ h_=>Or.inr (h_)))) (fun _ hk=>hk) (fun k_ rH=>((Kd.dD (ok':=fun k_=>((fun _=>True)) k_/\k_≠Hl) (Kd.iH (ze.out) (Kd.jK gM.out) (by decide)) (fun k_ hk=>⟨trivial,fun e_=>(hk.2) (by rw [e_];rfl)⟩))).1 k_ rH.symm);have a6o:=a1n 0 _ rfl;(try simp only [show ((Kd.slice 3 (Kd.int .i64))).sz=1 from rfl,Nat.mul_one,Nat.add_zero] at a6o);have a6p:=a1o 0;(try simp only [show ((Kd.slice 3 (Kd.int .i64))).sz=1 from rfl,Nat.mul_one,Nat.add_zero] at a6p);clear b0t a1n a1o;(try clear a6l);clear a6m a6n;(try simp only [show ((Kd.slice 3 (Kd.int .i64))).sz=1 from rfl,Nat.mul_one,Nat.add_zero] at RT))|((with_reducible refine iR (t:=22) (p:=21) rfl ?_);refine qm (t:=22) (p:=21) (v:=?vo_w13) (w1:=(ja.setCell ⟨Hl,(dN:Int).toNat,none⟩ (v273))) ?hg ?ho ?hn ?hr ?_;(case ho=>rfl);(case hg=>rfl);(case hn=>rfl);(case hr=>first|(go_simp;done)|(go_simp;rfl)|((try (obtain ⟨_,_,e_⟩:=Kd.eJ gM.out;rw [e_]));(try (obtain ⟨_,_,e_⟩:=Kd.od gM.out;rw [e_]));(try (obtain ⟨_,_,e_⟩:=Kd.uN gM.out;rw [e_]));(try (obtain ⟨_,_,e_⟩:=Kd.uO gM.out;rw [e_]));(try (obtain ⟨_,_,e_⟩:=Kd.eJ ze.out;rw [e_]));(try (obtain ⟨_,_,e_⟩:=Kd.od ze.out;rw [e_]));(try (obtain ⟨_,_,e_⟩:=Kd.uN ze.out;rw [e_]));(try (obtain ⟨_,_,e_⟩:=Kd.uO ze.out;rw [e_]));go_simp;first|done|rfl));intro lS hw;have hg:ja.grownBy lS (some Hl):=(by rw [hw];exact RT.2);have wk:Kd.S (Kd.slice 3 (Kd.int .i64)) 22 lS w.heap.size (fun _=>True) (.slice (some ⟨Hl,0,none⟩) gL.length a6f) YF:=(by rw [hw,b0s.out];exact RT.1);clear RT;have aA:=Aside0.mk (wk);have aC:=Aside0.mk ((by rw [hw];exact bC (HB.out) b4D.out:Below w.heap.size w lS));clear gM;clear HB;clear ze;have gM:=aA;have HB:=aC;clear aA aC;clear hg hw wk))
        go_roundg k1
        case measure=>have:=fR.out;omega
        case rel=>exact ⟨(YF),(wrap64 (dN+1)),(by first|rfl|(simp;done)|(simp [*];done)),H',⟨by have:=fR.out;omega⟩,⟨by (with_reducible repeat (first|apply Kd.bU|apply Kd.bV|apply Kd.cE));exact gM.out⟩,⟨ax⟩⟩
       ·rw [if_neg c9] at H
        exact absurd H (by simp)
      ·rw [if_neg c7] at H
       exact absurd H (by simp)
     ·rw [if_neg c6] at H
      have ov:decide (dN<(l0.length:Int))=false:=decide_eq_false c6
      clear c6
      obtain rfl:=Option.some.inj H
      go_wp2
      go_ret
      exact ⟨_,by first|rfl|(simp [aQ,aR]<;>rfl)|(simp [*,aQ,aR]<;>rfl),by (with_reducible repeat (first|apply Kd.bU|apply Kd.bV|apply Kd.cE));exact gM.out,ax⟩
  ·rw [if_neg c3] at H
   exact absurd H (by simp)
 ·rw [if_neg c2] at H
  exact absurd H (by simp)
def ck.l0:Nat->List Int->List Int->Int->Option (Bool)
 |0,_,_,_=>none
 |k+1,x0,x1,x5=>if x5<(x0.length:Int) then (if 0<=x5 then (if x5<(x1.length:Int) then (if (rd x0 x5)=(rd x1 x5) then (ck.l0 k x0 x1 (wrap64 (x5+1))) else (some false)) else (none)) else (none)) else (some true)
def ck.f (k:Nat) (l0:List Int) (l1:List Int):Option (Bool):=if (l0.length:Int)=(l1.length:Int) then (ck.l0 k l0 l1 0) else (some false)
theorem ck.cI:∀k,(∀y0 y1 y2,aT (ck.l0 k y0 y1 y2) (ck.l0 (k+1) y0 y1 y2))
 |0=>fun _ _ _ r h=>by simp [ck.l0] at h
 |k+1=>by
  have dL:=ck.cI k
  ·intro y0 y1 y2
   unfold ck.l0
   repeat' first
   |(with_reducible exact dL _ _ _)
   |(with_reducible exact aT.refl _)
   |(with_reducible exact aT.none _)
   |(with_reducible refine aT.ite ?_ ?_)
   |(with_reducible refine aT.bind ?_ (fun _=>?_))
theorem ck.mono:∀a0 a1 k,aT (ck.f k a0 a1) (ck.f (k+1) a0 a1):=by
 intro a0 a1 k
 have dL:=ck.cI k
 unfold ck.f
 repeat' first
  |(with_reducible exact dL _ _ _)
  |(with_reducible exact aT.refl _)
  |(with_reducible exact aT.none _)
  |(with_reducible refine aT.ite ?_ ?_)
  |(with_reducible refine aT.bind ?_ (fun _=>?_))
set_option maxHeartbeats 8000000 in
set_option maxRecDepth 100000 in
theorem ck.calls (k:Nat) (A0:Option Addr) (c0:Nat) (l0:List Int) (A1:Option Addr) (c1:Nat) (l1:List Int) (r:Bool) (w:World) (fy:Kd.C (Kd.int .i64) w A0 l0.length l0) (hc0:l0.length<=c0) (hr1:Kd.C (Kd.int .i64) w A1 l1.length l1) (hc1:l1.length<=c1) (h:ck.f k l0 l1=some r):
 Calls Try.prog 11 #[.slice A0 l0.length c0,.slice A1 l1.length c1] w fun e w'=>e= .returned (.bool r)/\bg w w':=by
 have eE:=Aside0.mk fy
 have lR:=Aside0.mk hc0
 clear fy hc0
 have iJ:=Aside0.mk hr1
 have nW:=Aside0.mk hc1
 clear hr1 hc1
 have H:(if (l0.length:Int)=(l1.length:Int) then (ck.l0 k l0 l1 0) else (some false))=some r:=h
 clear h
 by_cases c3:(l0.length:Int)=(l1.length:Int)
 ·rw [if_pos c3] at H
  have gv:((l0.length:Int)==(l1.length:Int))=true:=beq_iff_eq.mpr c3
  have mX:((l0.length:Int) !=(l1.length:Int))=false:=bne_eq_false_iff_eq.mpr c3
  have xh:(l0.length==l1.length)=true:=by first|simpa using c3|(simp at c3⊢;omega)
  clear c3
  have H':=Aside0.mk H
  clear H
  go_enter Try.func11,Try.ntmps11
  go_wp2
  repeat (go_quiet (fail);try go_wp2)
  go_loopg [5] k (fun kq v5 w'=>∃(aM:Int),v5= .int .i64 aM/\Aside0 (ck.l0 kq l0 l1 aM=some r)/\Aside0 (kq<=k)/\bg w w')
  case atStart=>exact ⟨(0),(by first|rfl|(simp;done)|(simp [*];done)),H',⟨Nat.le_refl _⟩,by repeat (first|exact bg.refl _|apply bg.step)⟩
  case round=>
   clear H'
   try clear c1
   try clear p2
   try clear c3
   try clear gv
   try clear mX
   try clear xh
   obtain ⟨aM,rfl,HA,fR,⟨m1,rfl⟩⟩:=hrel
   cases gk with
   |zero=>exact absurd HA.out (by simp [ck.l0])
   |succ k1=>
    have H:=HA.out
    clear HA
    simp only [ck.l0] at H
    by_cases c4:aM<(l0.length:Int)
    ·rw [if_pos c4] at H
     have kC:decide (aM<(l0.length:Int))=true:=decide_eq_true c4
     clear c4
     by_cases c5:0<=aM
     ·rw [if_pos c5] at H
      have uY:decide (0<=aM)=true:=decide_eq_true c5
      clear c5
      by_cases c6:aM<(l1.length:Int)
      ·rw [if_pos c6] at H
       have ov:decide (aM<(l1.length:Int))=true:=decide_eq_true c6
       clear c6
       by_cases c7:(rd l0 aM)=(rd l1 aM)
       ·rw [if_pos c7] at H
        have rF:((rd l0 aM)==(rd l1 aM))=true:=beq_iff_eq.mpr c7
        have a6q:((rd l0 aM) !=(rd l1 aM))=false:=bne_eq_false_iff_eq.mpr c7
        clear c7
        have H':=Aside0.mk H
        clear H
        have Ds:0<=(aM:Int):=of_decide_eq_true (by first|(with_reducible assumption)|assumption)
        have Dt:aM<(l0.length:Int):=of_decide_eq_true (by first|(with_reducible assumption)|assumption)
        obtain ⟨b0u,YI,a3C⟩:=Kd.gq eE.out aM Ds Dt
        cases YI
        replace Ds:=eq_true Ds
        replace Dt:=eq_true Dt
        have Du:0<=(aM:Int):=of_decide_eq_true (by first|(with_reducible assumption)|assumption)
        have Dv:aM<(l1.length:Int):=of_decide_eq_true (by first|(with_reducible assumption)|assumption)
        obtain ⟨b0v,YJ,a3D⟩:=Kd.gq iJ.out aM Du Dv
        cases YJ
        replace Du:=eq_true Du
        replace Dv:=eq_true Dv
        go_wp2
        repeat (go_quiet (fail);try go_wp2)
        go_roundg k1
        case measure=>have:=fR.out;omega
        case rel=>exact ⟨(wrap64 (aM+1)),(by first|rfl|(simp;done)|(simp [*];done)),H',⟨by have:=fR.out;omega⟩,by repeat (first|exact bg.refl _|apply bg.step)⟩
       ·rw [if_neg c7] at H
        have rF:((rd l0 aM)==(rd l1 aM))=false:=beq_eq_false_iff_ne.mpr c7
        have a6q:((rd l0 aM) !=(rd l1 aM))=true:=bne_iff_ne.mpr c7
        obtain rfl:=Option.some.inj H
        have Ds:0<=(aM:Int):=of_decide_eq_true (by first|(with_reducible assumption)|assumption)
        have Dt:aM<(l0.length:Int):=of_decide_eq_true (by first|(with_reducible assumption)|assumption)
        obtain ⟨b0u,YI,a3C⟩:=Kd.gq eE.out aM Ds Dt
        cases YI
        replace Ds:=eq_true Ds
        replace Dt:=eq_true Dt
        have Du:0<=(aM:Int):=of_decide_eq_true (by first|(with_reducible assumption)|assumption)
        have Dv:aM<(l1.length:Int):=of_decide_eq_true (by first|(with_reducible assumption)|assumption)
        obtain ⟨b0v,YJ,a3D⟩:=Kd.gq iJ.out aM Du Dv
        cases YJ
        replace Du:=eq_true Du
        replace Dv:=eq_true Dv
        go_wp2
        repeat (go_quiet (fail);try go_wp2)
        go_ret
        exact ⟨by first|rfl|(simp;done)|(simp [*];done),by repeat (first|exact bg.refl _|apply bg.step)⟩
      ·rw [if_neg c6] at H
       exact absurd H (by simp)
     ·rw [if_neg c5] at H
      exact absurd H (by simp)
    ·rw [if_neg c4] at H
     have kC:decide (aM<(l0.length:Int))=false:=decide_eq_false c4
     clear c4
     obtain rfl:=Option.some.inj H
     go_wp2
     repeat (go_quiet (fail);try go_wp2)
     go_ret
     exact ⟨by first|rfl|(simp;done)|(simp [*];done),by repeat (first|exact bg.refl _|apply bg.step)⟩
 ·rw [if_neg c3] at H
  have gv:((l0.length:Int)==(l1.length:Int))=false:=beq_eq_false_iff_ne.mpr c3
  have mX:((l0.length:Int) !=(l1.length:Int))=true:=bne_iff_ne.mpr c3
  have xh:(l0.length==l1.length)=false:=by first|simpa using c3|(simp at c3⊢;omega)
  obtain rfl:=Option.some.inj H
  go_enter Try.func11,Try.ntmps11
  go_wp2
  repeat (go_quiet (fail);try go_wp2)
  go_ret
  exact ⟨by first|rfl|(simp;done)|(simp [*];done),by repeat (first|exact bg.refl _|apply bg.step)⟩
def cK.l0:Nat->List (List Int)->List (List Int)->Int->Option (Bool)
 |0,_,_,_=>none
 |k+1,x0,x1,x5=>if x5<(x0.length:Int) then (if 0<=x5 then (if x5<(x1.length:Int) then ((ck.f k (dH x0 x5) (dH x1 x5)).bind fun RU=>(if RU=true then (cK.l0 k x0 x1 (wrap64 (x5+1))) else (some false))) else (none)) else (none)) else (some true)
def cK.f (k:Nat) (l0:List (List Int)) (l1:List (List Int)):Option (Bool):=if (l0.length:Int)=(l1.length:Int) then (cK.l0 k l0 l1 0) else (some false)
theorem cK.cI:∀k,(∀y0 y1 y2,aT (cK.l0 k y0 y1 y2) (cK.l0 (k+1) y0 y1 y2))
 |0=>fun _ _ _ r h=>by simp [cK.l0] at h
 |k+1=>by
  have dL:=cK.cI k
  ·intro y0 y1 y2
   unfold cK.l0
   repeat' first
   |(with_reducible exact dL _ _ _)
   |(with_reducible exact ck.mono _ _ _)
   |(with_reducible exact aT.refl _)
   |(with_reducible exact aT.none _)
   |(with_reducible refine aT.ite ?_ ?_)
   |(with_reducible refine aT.bind ?_ (fun _=>?_))
theorem cK.mono:∀a0 a1 k,aT (cK.f k a0 a1) (cK.f (k+1) a0 a1):=by
 intro a0 a1 k
 have dL:=cK.cI k
 unfold cK.f
 repeat' first
  |(with_reducible exact dL _ _ _)
  |(with_reducible exact ck.mono _ _ _)
  |(with_reducible exact aT.refl _)
  |(with_reducible exact aT.none _)
  |(with_reducible refine aT.ite ?_ ?_)
  |(with_reducible refine aT.bind ?_ (fun _=>?_))
set_option maxHeartbeats 8000000 in
set_option maxRecDepth 100000 in
theorem cK.calls (k:Nat) (A0:Option Addr) (c0:Nat) (l0:List (List Int)) (A1:Option Addr) (c1:Nat) (l1:List (List Int)) (r:Bool) (w:World) (fy:Kd.C (Kd.slice 3 (Kd.int .i64)) w A0 l0.length l0) (hc0:l0.length<=c0) (hr1:Kd.C (Kd.slice 3 (Kd.int .i64)) w A1 l1.length l1) (hc1:l1.length<=c1) (h:cK.f k l0 l1=some r):
 Calls Try.prog 12 #[.slice A0 l0.length c0,.slice A1 l1.length c1] w fun e w'=>e= .returned (.bool r)/\bg w w':=by
 have eE:=Aside0.mk fy
 have lR:=Aside0.mk hc0
 clear fy hc0
 have iJ:=Aside0.mk hr1
 have nW:=Aside0.mk hc1
 clear hr1 hc1
 have H:(if (l0.length:Int)=(l1.length:Int) then (cK.l0 k l0 l1 0) else (some false))=some r:=h
 clear h
 by_cases c3:(l0.length:Int)=(l1.length:Int)
 ·rw [if_pos c3] at H
  have gv:((l0.length:Int)==(l1.length:Int))=true:=beq_iff_eq.mpr c3
  have mX:((l0.length:Int) !=(l1.length:Int))=false:=bne_eq_false_iff_eq.mpr c3
  have xh:(l0.length==l1.length)=true:=by first|simpa using c3|(simp at c3⊢;omega)
  clear c3
  have H':=Aside0.mk H
  clear H
  go_enter Try.func12,Try.ntmps12
  go_wp2
  repeat (go_quiet (fail);try go_wp2)
  go_loopg [5] k (fun kq v5 w'=>∃(aM:Int),v5= .int .i64 aM/\Aside0 (cK.l0 kq l0 l1 aM=some r)/\Aside0 (kq<=k)/\bg w w')
  case atStart=>exact ⟨(0),(by first|rfl|(simp;done)|(simp [*];done)),H',⟨Nat.le_refl _⟩,by repeat (first|exact bg.refl _|apply bg.step)⟩
  case round=>
   clear H'
   try clear c1
   try clear p2
   try clear c3
   try clear gv
   try clear mX
   try clear xh
   obtain ⟨aM,rfl,HA,fR,⟨m1,rfl⟩⟩:=hrel
   cases gk with
   |zero=>exact absurd HA.out (by simp [cK.l0])
   |succ k1=>
    have H:=HA.out
    clear HA
    simp only [cK.l0] at H
    by_cases c4:aM<(l0.length:Int)
    ·rw [if_pos c4] at H
     have kC:decide (aM<(l0.length:Int))=true:=decide_eq_true c4
     clear c4
     by_cases c5:0<=aM
     ·rw [if_pos c5] at H
      have uY:decide (0<=aM)=true:=decide_eq_true c5
      clear c5
      by_cases c6:aM<(l1.length:Int)
      ·rw [if_pos c6] at H
       have ov:decide (aM<(l1.length:Int))=true:=decide_eq_true c6
       clear c6
       replace H:=Option.bind_eq_some_iff.mp H
       obtain ⟨RU,Am,H⟩:=H
       replace H:(if RU=true then (cK.l0 k1 l0 l1 (wrap64 (aM+1))) else (some false))=some r:=H
       have A7:=Aside0.mk Am
       clear Am
       by_cases c8:RU=true
       ·subst c8
        have H1:(cK.l0 k1 l0 l1 (wrap64 (aM+1)))=some r:=by rw [if_pos rfl] at H;exact H
        clear H
        have H:=H1
        clear H1
        have H':=Aside0.mk H
        clear H
        have Dw:0<=(aM:Int):=of_decide_eq_true (by first|(with_reducible assumption)|assumption)
        have Dx:aM<(l0.length:Int):=of_decide_eq_true (by first|(with_reducible assumption)|assumption)
        obtain ⟨b0w,a6r,a6s,YK,a3E,xU,xV⟩:=qz eE.out aM Dw Dx
        cases YK
        have sw:=Aside0.mk xV
        have sx:=Aside0.mk xU
        clear xV xU
        replace Dw:=eq_true Dw
        replace Dx:=eq_true Dx
        have Dy:0<=(aM:Int):=of_decide_eq_true (by first|(with_reducible assumption)|assumption)
        have Dz:aM<(l1.length:Int):=of_decide_eq_true (by first|(with_reducible assumption)|assumption)
        obtain ⟨b0x,a6t,a6u,YL,a3F,xW,xX⟩:=qz iJ.out aM Dy Dz
        cases YL
        have sy:=Aside0.mk xX
        have sA:=Aside0.mk xW
        clear xX xW
        replace Dy:=eq_true Dy
        replace Dz:=eq_true Dz
        go_wp2_with (first|(go_at_call 11;(with_reducible refine (ck.calls k1 _ _ (dH l0 aM) _ _ (dH l1 aM) true _ ?cy ?cA ?iT ?iU A7.out).mono ?_);(case cy=>repeat (first|exact sw.out|(with_reducible refine Kd.cX ?_ _)|(with_reducible refine Kd.cY ?_ _)|(with_reducible refine Kd.dB ?_)));(case cA=>exact sx.out);(case iT=>repeat (first|exact sy.out|(with_reducible refine Kd.cX ?_ _)|(with_reducible refine Kd.cY ?_ _)|(with_reducible refine Kd.dB ?_)));(case iU=>exact sA.out);rintro e w' ⟨rfl,⟨nd,rfl⟩⟩;(try first|exact ⟨rfl,_,World.drewN_drewN _ _ _⟩|exact ⟨rfl,_,Eq.trans (World.drewN_drewN _ _ _) (congrArg (World.drewN _) (Nat.add_assoc _ _ _))⟩)))
        repeat (go_quiet (first|(go_at_call 11;(with_reducible refine (ck.calls k1 _ _ (dH l0 aM) _ _ (dH l1 aM) true _ ?cy ?cA ?iT ?iU A7.out).mono ?_);(case cy=>repeat (first|exact sw.out|(with_reducible refine Kd.cX ?_ _)|(with_reducible refine Kd.cY ?_ _)|(with_reducible refine Kd.dB ?_)));(case cA=>exact sx.out);(case iT=>repeat (first|exact sy.out|(with_reducible refine Kd.cX ?_ _)|(with_reducible refine Kd.cY ?_ _)|(with_reducible refine Kd.dB ?_)));(case iU=>exact sA.out);rintro e w' ⟨rfl,⟨nd,rfl⟩⟩;(try first|exact ⟨rfl,_,World.drewN_drewN _ _ _⟩|exact ⟨rfl,_,Eq.trans (World.drewN_drewN _ _ _) (congrArg (World.drewN _) (Nat.add_assoc _ _ _))⟩)));try go_wp2_with (first|(go_at_call 11;(with_reducible refine (ck.calls k1 _ _ (dH l0 aM) _ _ (dH l1 aM) true _ ?cy ?cA ?iT ?iU A7.out).mono ?_);(case cy=>repeat (first|exact sw.out|(with_reducible refine Kd.cX ?_ _)|(with_reducible refine Kd.cY ?_ _)|(with_reducible refine Kd.dB ?_)));(case cA=>exact sx.out);(case iT=>repeat (first|exact sy.out|(with_reducible refine Kd.cX ?_ _)|(with_reducible refine Kd.cY ?_ _)|(with_reducible refine Kd.dB ?_)));(case iU=>exact sA.out);rintro e w' ⟨rfl,⟨nd,rfl⟩⟩;(try first|exact ⟨rfl,_,World.drewN_drewN _ _ _⟩|exact ⟨rfl,_,Eq.trans (World.drewN_drewN _ _ _) (congrArg (World.drewN _) (Nat.add_assoc _ _ _))⟩))))
        go_roundg k1
        case measure=>have:=fR.out;omega
        case rel=>exact ⟨(wrap64 (aM+1)),(by first|rfl|(simp;done)|(simp [*];done)),H',⟨by have:=fR.out;omega⟩,by repeat (first|exact bg.refl _|apply bg.step)⟩
       ·replace c8:=Bool.eq_false_iff.mpr c8
        subst c8
        have H1:(some false)=some r:=by rw [if_neg (show ¬(false=true) by decide)] at H;exact H
        clear H
        have H:=H1
        clear H1
        obtain rfl:=Option.some.inj H
        have Dw:0<=(aM:Int):=of_decide_eq_true (by first|(with_reducible assumption)|assumption)
        have Dx:aM<(l0.length:Int):=of_decide_eq_true (by first|(with_reducible assumption)|assumption)
        obtain ⟨b0w,a6r,a6s,YK,a3E,xU,xV⟩:=qz eE.out aM Dw Dx
        cases YK
        have sw:=Aside0.mk xV
        have sx:=Aside0.mk xU
        clear xV xU
        replace Dw:=eq_true Dw
        replace Dx:=eq_true Dx
        have Dy:0<=(aM:Int):=of_decide_eq_true (by first|(with_reducible assumption)|assumption)
        have Dz:aM<(l1.length:Int):=of_decide_eq_true (by first|(with_reducible assumption)|assumption)
        obtain ⟨b0x,a6t,a6u,YL,a3F,xW,xX⟩:=qz iJ.out aM Dy Dz
        cases YL
        have sy:=Aside0.mk xX
        have sA:=Aside0.mk xW
        clear xX xW
        replace Dy:=eq_true Dy
        replace Dz:=eq_true Dz
        go_wp2_with (first|(go_at_call 11;(with_reducible refine (ck.calls k1 _ _ (dH l0 aM) _ _ (dH l1 aM) false _ ?cy ?cA ?iT ?iU A7.out).mono ?_);(case cy=>repeat (first|exact sw.out|(with_reducible refine Kd.cX ?_ _)|(with_reducible refine Kd.cY ?_ _)|(with_reducible refine Kd.dB ?_)));(case cA=>exact sx.out);(case iT=>repeat (first|exact sy.out|(with_reducible refine Kd.cX ?_ _)|(with_reducible refine Kd.cY ?_ _)|(with_reducible refine Kd.dB ?_)));(case iU=>exact sA.out);rintro e w' ⟨rfl,⟨nd,rfl⟩⟩;(try first|exact ⟨rfl,_,World.drewN_drewN _ _ _⟩|exact ⟨rfl,_,Eq.trans (World.drewN_drewN _ _ _) (congrArg (World.drewN _) (Nat.add_assoc _ _ _))⟩)))
        repeat (go_quiet (first|(go_at_call 11;(with_reducible refine (ck.calls k1 _ _ (dH l0 aM) _ _ (dH l1 aM) false _ ?cy ?cA ?iT ?iU A7.out).mono ?_);(case cy=>repeat (first|exact sw.out|(with_reducible refine Kd.cX ?_ _)|(with_reducible refine Kd.cY ?_ _)|(with_reducible refine Kd.dB ?_)));(case cA=>exact sx.out);(case iT=>repeat (first|exact sy.out|(with_reducible refine Kd.cX ?_ _)|(with_reducible refine Kd.cY ?_ _)|(with_reducible refine Kd.dB ?_)));(case iU=>exact sA.out);rintro e w' ⟨rfl,⟨nd,rfl⟩⟩;(try first|exact ⟨rfl,_,World.drewN_drewN _ _ _⟩|exact ⟨rfl,_,Eq.trans (World.drewN_drewN _ _ _) (congrArg (World.drewN _) (Nat.add_assoc _ _ _))⟩)));try go_wp2_with (first|(go_at_call 11;(with_reducible refine (ck.calls k1 _ _ (dH l0 aM) _ _ (dH l1 aM) false _ ?cy ?cA ?iT ?iU A7.out).mono ?_);(case cy=>repeat (first|exact sw.out|(with_reducible refine Kd.cX ?_ _)|(with_reducible refine Kd.cY ?_ _)|(with_reducible refine Kd.dB ?_)));(case cA=>exact sx.out);(case iT=>repeat (first|exact sy.out|(with_reducible refine Kd.cX ?_ _)|(with_reducible refine Kd.cY ?_ _)|(with_reducible refine Kd.dB ?_)));(case iU=>exact sA.out);rintro e w' ⟨rfl,⟨nd,rfl⟩⟩;(try first|exact ⟨rfl,_,World.drewN_drewN _ _ _⟩|exact ⟨rfl,_,Eq.trans (World.drewN_drewN _ _ _) (congrArg (World.drewN _) (Nat.add_assoc _ _ _))⟩))))
        go_ret
        exact ⟨by first|rfl|(simp;done)|(simp [*];done),by repeat (first|exact bg.refl _|apply bg.step)⟩
      ·rw [if_neg c6] at H
       exact absurd H (by simp)
     ·rw [if_neg c5] at H
      exact absurd H (by simp)
    ·rw [if_neg c4] at H
     have kC:decide (aM<(l0.length:Int))=false:=decide_eq_false c4
     clear c4
     obtain rfl:=Option.some.inj H
     go_wp2
     repeat (go_quiet (fail);try go_wp2)
     go_ret
     exact ⟨by first|rfl|(simp;done)|(simp [*];done),by repeat (first|exact bg.refl _|apply bg.step)⟩
 ·rw [if_neg c3] at H
  have gv:((l0.length:Int)==(l1.length:Int))=false:=beq_eq_false_iff_ne.mpr c3
  have mX:((l0.length:Int) !=(l1.length:Int))=true:=bne_iff_ne.mpr c3
  have xh:(l0.length==l1.length)=false:=by first|simpa using c3|(simp at c3⊢;omega)
  obtain rfl:=Option.some.inj H
  go_enter Try.func12,Try.ntmps12
  go_wp2
  repeat (go_quiet (fail);try go_wp2)
  go_ret
  exact ⟨by first|rfl|(simp;done)|(simp [*];done),by repeat (first|exact bg.refl _|apply bg.step)⟩
end Go.Proofs.Ytnhknojfpjheoaa.P
namespace Go.Proofs.Ytnhknojfpjheoaa.PT
open Go.RowKit Go.Proofs.Ytnhknojfpjheoaa.P Go.Proofs.YtnhknojfpjheoaaW.PrintWords Go.Proofs.YtnhknojfpjheoaaW.PrintLast Go.Proofs.Ytnhknojfpjheoaa.EvKit
set_option linter.all false
theorem UC (l:List Int) (a:Int) (hl:l.length<=9223372036854775807) (h1: -1<=a) (h2:a<=1048576):mL.f l a=some (if a - l.length<0 then -1 else a - l.length):=by
 unfold mL.f
 rw [Mh (by omega) (by omega)]
 split<;>rfl
def xj (a:Int):List (List Int)->Int
 | []=>a
 |l::r=>if a - l.length<0 then -1 else xj (a - l.length) r
def iI (l:List (List Int)) (a:Int):Int:=if a - l.length<0 then -1 else xj (a - l.length) l
theorem RV (l:List (List Int)) (hl:l.length<=9223372036854775806) (xO:∀x,x∈l->x.length<=9223372036854775807):∀d i,i+d=l.length->∀a:Int,0<=a->a<=1048576->Ev (fun k=>cP.l0 k l a (i:Int)) (xj a (l.drop i)):=by
 intro d
 induction d with
 |zero=>
  intro i hi a h0 h1
  refine Ev.succ ?_
  simp only [cP.l0,if_neg (show ¬((i:Int)<(l.length:Int)) by omega)]
  rw [List.drop_of_length_le (by omega)]
  exact Ev.now _
 |succ d ih=>
  intro i hi a h0 h1
  have hlt:i<l.length:=by omega
  refine Ev.succ ?_
  have hr:dH l (i:Int)=l[i]:=getD_at _ hlt
  simp only [cP.l0,if_pos (show ((i:Int)<(l.length:Int)) by omega),if_pos (show (0:Int)<=(i:Int) by omega),hr,eR (show i<=9223372036854775806 by omega)]
  rw [og hlt]
  simp only [xj,UC l[i] a (xO _ (List.getElem_mem hlt)) (by omega) h1,Option.bind_some]
  by_cases h:a - l[i].length<0
  ·simp only [if_pos h,show ((-1:Int)<0) from by omega,if_true]
   exact Ev.now _
  ·simp only [if_neg h]
   exact ih (i+1) (by omega) _ (by omega) (by omega)
theorem RX (l:List (List Int)) (a:Int) (hl:l.length<=9223372036854775807) (xO:∀x,x∈l->x.length<=9223372036854775807) (h1: -1<=a) (h2:a<=1048576):Ev (fun k=>cP.f k l a) (iI l a):=by
 unfold cP.f iI
 simp only [Mh (n:=a -(l.length:Int)) (by omega) (by omega)]
 by_cases h:a -(l.length:Int)<0
 ·simp only [if_pos h];exact Ev.now _
 ·simp only [if_neg h]
  exact RV l (by omega) xO l.length 0 (by omega) _ (by omega) (by omega)
theorem toIntS_l0 (l:List Int) (hl:l.length<=35184372088832):∀d i,i+d=l.length->Ev (fun k=>cH.l0 k l (l.take i++List.replicate d 0) (i:Int)) l:=by
 intro d
 induction d with
 |zero=>
  intro i hi
  refine Ev.succ ?_
  simp only [cH.l0,if_neg (show ¬((i:Int)<(l.length:Int)) by omega)]
  have:l.take i++List.replicate 0 0=l:=by rw [List.take_of_length_le (by omega)];simp
  rw [this];exact Ev.now _
 |succ d ih=>
  intro i hi
  have hlt:i<l.length:=by omega
  refine Ev.succ ?_
  have hlen:(l.take i++List.replicate (d+1) (0:Int)).length=l.length:=by simp;omega
  simp only [cH.l0,if_pos (show ((i:Int)<(l.length:Int)) by omega),if_pos (show (0:Int)<=(i:Int) by omega),hlen,qy hlt,eR (show i<=9223372036854775806 by omega)]
  have hs:(l.take i++List.replicate (d+1) (0:Int)).set (i:Int).toNat l[i]=l.take (i+1)++List.replicate d 0:=by
   rw [Int.toNat_natCast,List.set_append_right _ _ (by simp;omega),List.take_succ_eq_append_getElem hlt]
   have:i -(l.take i).length=0:=by simp;omega
   rw [this,List.replicate_succ]
   simp only [List.set_cons_zero,List.append_assoc,List.singleton_append]
  rw [hs]
  exact ih (i+1) (by omega)
theorem toIntS_ev (l:List Int) (hl:l.length<=35184372088832):Ev (fun k=>cH.f k l) l:=by
 unfold cH.f
 simp only [if_pos (show (0:Int)<=(l.length:Int) by omega),Int.toNat_natCast,if_pos hl]
 have:=toIntS_l0 l hl l.length 0 (by omega)
 simpa using this
theorem toIntSS_l0 (l:List (List Int)) (hl:l.length<=11728124029610) (xO:∀x,x∈l->x.length<=35184372088832):∀d i,i+d=l.length->Ev (fun k=>cJ.l0 k l (l.take i++List.replicate d []) (i:Int)) l:=by
 intro d
 induction d with
 |zero=>
  intro i hi
  refine Ev.succ ?_
  simp only [cJ.l0,if_neg (show ¬((i:Int)<(l.length:Int)) by omega)]
  have:l.take i++List.replicate 0 []=l:=by rw [List.take_of_length_le (by omega)];simp
  rw [this];exact Ev.now _
 |succ d ih=>
  intro i hi
  have hlt:i<l.length:=by omega
  refine Ev.succ ?_
  have hlen:(l.take i++List.replicate (d+1) ([]:List Int)).length=l.length:=by simp;omega
  have hr:dH l (i:Int)=l[i]:=getD_at _ hlt
  simp only [cJ.l0,if_pos (show ((i:Int)<(l.length:Int)) by omega),if_pos (show (0:Int)<=(i:Int) by omega),hlen,hr,eR (show i<=9223372036854775806 by omega)]
  refine Ev.bind (toIntS_ev l[i] (xO _ (List.getElem_mem hlt))) ?_
  have hs:(l.take i++List.replicate (d+1) ([]:List Int)).set (i:Int).toNat l[i]=l.take (i+1)++List.replicate d []:=by
   rw [Int.toNat_natCast,List.set_append_right _ _ (by simp;omega),List.take_succ_eq_append_getElem hlt]
   have:i -(l.take i).length=0:=by simp;omega
   rw [this,List.replicate_succ]
   simp only [List.set_cons_zero,List.append_assoc,List.singleton_append]
  simp only [hs]
  exact ih (i+1) (by omega)
theorem toIntSS_ev (l:List (List Int)) (hl:l.length<=11728124029610) (xO:∀x,x∈l->x.length<=35184372088832):Ev (fun k=>cJ.f k l) l:=by
 unfold cJ.f
 simp only [if_pos (show (0:Int)<=(l.length:Int) by omega),Int.toNat_natCast,if_pos hl]
 have:=toIntSS_l0 l hl xO l.length 0 (by omega)
 simpa using this
theorem UD (a b:List Int) (hab:a.length=b.length) (hl:a.length<=9223372036854775806):∀i,i<=a.length->Ev (fun k=>ck.l0 k a b (i:Int)) (decide (a.drop i=b.drop i)):=by
 refine Ev.loop (g:=fun k i=>ck.l0 k a b (i:Int)) (n:=a.length) ?_ ?_
 ·refine Ev.succ ?_
  simp only [ck.l0,if_neg (show ¬((a.length:Int)<(a.length:Int)) by omega)]
  have:decide (a.drop a.length=b.drop a.length)=true:=by simp [hab]
  rw [this];exact Ev.now _
 ·intro i hi ih
  have hi':i<b.length:=by omega
  refine Ev.succ ?_
  simp only [ck.l0,if_pos (show ((i:Int)<(a.length:Int)) by omega),if_pos (show ((i:Int)<(b.length:Int)) by omega),if_pos (show (0:Int)<=(i:Int) by omega),qy hi,qy hi',eR (show i<=9223372036854775806 by omega)]
  rw [og hi,og hi']
  by_cases h:a[i]=b[i]
  ·simp only [if_pos h,List.cons.injEq,h,true_and];exact ih
  ·simp only [if_neg h,List.cons.injEq,h,false_and,decide_false];exact Ev.now _
theorem JW (a b:List Int) (hl:a.length<=9223372036854775806):Ev (fun k=>ck.f k a b) (decide (a=b)):=by
 unfold ck.f
 by_cases h:a.length=b.length
 ·simp only [if_pos (show (a.length:Int)=(b.length:Int) by omega)]
  have:=UD a b h hl 0 (by omega)
  simpa using this
 ·simp only [if_neg (show ¬(a.length:Int)=(b.length:Int) by omega)]
  have:decide (a=b)=false:=by simp;intro e;exact h (by rw [e])
  rw [this];exact Ev.now _
theorem RY (a b:List (List Int)) (hab:a.length=b.length) (hl:a.length<=9223372036854775806) (xO:∀x,x∈a->x.length<=9223372036854775806):∀i,i<=a.length->Ev (fun k=>cK.l0 k a b (i:Int)) (decide (a.drop i=b.drop i)):=by
 refine Ev.loop (g:=fun k i=>cK.l0 k a b (i:Int)) (n:=a.length) ?_ ?_
 ·refine Ev.succ ?_
  simp only [cK.l0,if_neg (show ¬((a.length:Int)<(a.length:Int)) by omega)]
  have:decide (a.drop a.length=b.drop a.length)=true:=by simp [hab]
  rw [this];exact Ev.now _
 ·intro i hi ih
  have hi':i<b.length:=by omega
  refine Ev.succ ?_
  have ha:dH a (i:Int)=a[i]:=getD_at _ hi
  have hb:dH b (i:Int)=b[i]:=getD_at _ hi'
  simp only [cK.l0,if_pos (show ((i:Int)<(a.length:Int)) by omega),if_pos (show ((i:Int)<(b.length:Int)) by omega),if_pos (show (0:Int)<=(i:Int) by omega),ha,hb,eR (show i<=9223372036854775806 by omega)]
  rw [og hi,og hi']
  refine Ev.bind (JW a[i] b[i] (xO _ (List.getElem_mem hi))) ?_
  by_cases h:a[i]=b[i]
  ·simp only [h,decide_true,if_true,List.cons.injEq,true_and];exact ih
  ·simp only [h,decide_false,Bool.false_eq_true,if_false,List.cons.injEq,false_and];exact Ev.now _
theorem RZ (a b:List (List Int)) (hl:a.length<=9223372036854775806) (xO:∀x,x∈a->x.length<=9223372036854775806):Ev (fun k=>cK.f k a b) (decide (a=b)):=by
 unfold cK.f
 by_cases h:a.length=b.length
 ·simp only [if_pos (show (a.length:Int)=(b.length:Int) by omega)]
  have:=RY a b h hl xO 0 (by omega)
  simpa using this
 ·simp only [if_neg (show ¬(a.length:Int)=(b.length:Int) by omega)]
  have:decide (a=b)=false:=by simp;intro e;exact h (by rw [e])
  rw [this];exact Ev.now _
theorem PD:∀(l:List (List Int)) (a:Int),0<=xj a l->0<=a/\xj a l<=a/\∀x,x∈l->(x.length:Int)<=a
 | [],a,h=>⟨h,Int.le_refl _,fun x hx=>by simp at hx⟩
 |y::r,a,h=>by
  simp only [xj] at h⊢
  by_cases h1:a - y.length<0
  ·rw [if_pos h1] at h;omega
  ·rw [if_neg h1] at h⊢
   obtain ⟨h2,h3,h4⟩:=PD r _ h
   refine ⟨by omega,by omega,fun x hx=>?_⟩
   rcases List.mem_cons.1 hx with rfl|hx
   ·omega
   ·have:=h4 x hx;omega
theorem Pd (r:List (List Int)) (a:Int) (h:0<=iI r a):(r.length:Int)<=a/\iI r a<=a/\∀x,x∈r->(x.length:Int)<=a:=by
 unfold iI at h⊢
 by_cases h1:a - r.length<0
 ·rw [if_pos h1] at h;omega
 ·rw [if_neg h1] at h⊢
  obtain ⟨h2,h3,h4⟩:=PD r _ h
  exact ⟨by omega,by omega,fun x hx=>by have:=h4 x hx;omega⟩
end Go.Proofs.Ytnhknojfpjheoaa.PT
namespace Go.Proofs.Ytnhknojfpjheoaa.P
open Go.RowKit Go.Proofs.YtnhknojfpjheoaaW.PrintWords Go.Proofs.YtnhknojfpjheoaaW.PrintLast Go.Proofs.YtnhknojfpjheoaaW.PrintMore
attribute [local go_sem] max2_int min2_int max_two min_two max_three min_three max_four min_four
set_option linter.all false
def cD.l0:Nat->List Int->Int->Int->Option (Int×List Int)
 |0,_,_,_=>none
 |k+1,x0,x1,x5=>if x5<(x0.length:Int) then (if 0<=x5 then (cD.l0 k (x0.set (x5:Int).toNat x1) (wrap64 (x1+1)) (wrap64 (x5+1))) else (none)) else (some (x1,x0))
def cD.f (k:Nat) (l0:List Int) (a1:Int):Option (Int×List Int):=cD.l0 k l0 a1 0
theorem cD.cI:∀k,(∀y0 y1 y2,aT (cD.l0 k y0 y1 y2) (cD.l0 (k+1) y0 y1 y2))
 |0=>fun _ _ _ r h=>by simp [cD.l0] at h
 |k+1=>by
  have dL:=cD.cI k
  ·intro y0 y1 y2
   unfold cD.l0
   repeat' first
   |(with_reducible exact dL _ _ _)
   |(with_reducible exact aT.refl _)
   |(with_reducible exact aT.none _)
   |(with_reducible refine aT.ite ?_ ?_)
   |(with_reducible refine aT.bind ?_ (fun _=>?_))
theorem cD.mono:∀a0 a1 k,aT (cD.f k a0 a1) (cD.f (k+1) a0 a1):=by
 intro a0 a1 k
 have dL:=cD.cI k
 unfold cD.f
 repeat' first
  |(with_reducible exact dL _ _ _)
  |(with_reducible exact aT.refl _)
  |(with_reducible exact aT.none _)
  |(with_reducible refine aT.ite ?_ ?_)
  |(with_reducible refine aT.bind ?_ (fun _=>?_))
set_option maxHeartbeats 8000000 in
set_option maxRecDepth 100000 in
theorem cD.calls (k:Nat) (nX:Nat->Prop) (kD:Value) (l0:List Int) (a1:Int) (r1:Int) (r2:List Int) (w0 w:World) (hB:Below w0.heap.size w0 w) (tH:Kd.R (Kd.int .i64) 3 w w0.heap.size nX kD l0) (h:cD.f k l0 a1=some (r1,r2)):
 Calls Try.prog 13 #[kD,.int .i64 a1] w fun e w'=>e= .returned (.int .i64 r1)/\Kd.R (Kd.int .i64) 3 w' w0.heap.size (fun k_=>(nX k_∨w.heap.size<=k_)) kD r2/\Below w0.heap.size w0 w'/\Kept w w' (fun k_=>nX k_):=by
 have HO0:=Aside0.mk (show Kd.R (Kd.int .i64) 3 w w0.heap.size (fun k_=>(nX k_∨w.heap.size<=k_)) kD l0 from Kd.dD tH (fun k_ hk=>(.inl hk)))
 have HK:=Aside0.mk (Kept.refl w (fun k_=>nX k_))
 have HW0:=Aside0.mk hB.size
 have HB:=Aside0.mk hB
 clear hB
 have H:(cD.l0 k l0 a1 0)=some (r1,r2):=h
 clear h
 have H':=Aside0.mk H
 clear H
 go_enter Try.func13,Try.ntmps13
 go_wp2
 go_loopg [1,5] k (fun kq v1 v5 w'=>∃(fB:List Int) (dV:Int) (aM:Int),v1= .int .i64 dV/\v5= .int .i64 aM/\Aside0 (cD.l0 kq fB dV aM=some (r1,r2))/\Aside0 (kq<=k)/\Aside0 (Kd.R (Kd.int .i64) 3 w' w0.heap.size (fun k_=>(nX k_∨w.heap.size<=k_)) kD fB)/\Aside0 (Kept w w' (fun k_=>nX k_))/\Aside0 (Below w0.heap.size w0 w'))
 case atStart=>exact ⟨(l0),(a1),(0),(by first|rfl|(simp;done)|(simp [*];done)),(by first|rfl|(simp;done)|(simp [*];done)),H',⟨Nat.le_refl _⟩,⟨by (with_reducible repeat (first|apply Kd.dz|apply Kd.dG|apply Kd.ez));exact HO0.out⟩,⟨by repeat (first|(with_reducible first|exact HK.out|apply Kept.alloc|apply Kept.drewN|apply Kept.drew)|exact HK.out)⟩,⟨ax⟩⟩
 case round=>
  clear H'
  try clear c1
  try clear p2
  obtain ⟨fB,dV,aM,rfl,rfl,HA,fR,fC,HK,HB⟩:=hrel
  cases gk with
  |zero=>exact absurd HA.out (by simp [cD.l0])
  |succ k1=>
   have H:=HA.out
   clear HA
   simp only [cD.l0] at H
   by_cases c3:aM<(fB.length:Int)
   ·rw [if_pos c3] at H
    have gv:decide (aM<(fB.length:Int))=true:=decide_eq_true c3
    clear c3
    by_cases c4:0<=aM
    ·rw [if_pos c4] at H
     have kC:decide (0<=aM)=true:=decide_eq_true c4
     clear c4
     obtain ⟨YM,ER⟩:∃y_:List Int,y_=(fB.set (aM:Int).toNat dV):=⟨_,rfl⟩
     replace H:(cD.l0 k1 YM (wrap64 (dV+1)) (wrap64 (aM+1)))=some (r1,r2):=by first|(rw [ER];with_reducible exact H)|(have dZ:=(Option.bind_some _ _).symm.trans H;rw [ER];with_reducible exact dZ)|(have dZ:=(Option.bind_some _ _).symm.trans H;with_reducible exact dZ)|with_reducible exact H|(rw [ER];exact H)|exact H
     have b0y:=Aside0.mk ER
     clear ER
     have H':=Aside0.mk H
     clear H
     obtain ⟨JX,ES,eo6⟩:=Kd.eJ fC.out
     subst eo6
     have p5:0<=(aM:Int):=of_decide_eq_true (by first|(with_reducible assumption)|assumption)
     have q5:(aM:Int)<((fB.length:Int):Int):=of_decide_eq_true (by first|(with_reducible assumption)|assumption)
     obtain ⟨oz,ET,Mq,UE,gl5,cl5,UF⟩:=Kd.EE fC.out (by omega)
     (first|cases Mq|(injection Mq with rG Mm Mn;(first|subst rG|(injection rG with rG;subst rG));subst Mn;clear Mm))
     have GB5:=Aside0.mk UE
     have GG5:=Aside0.mk UF
     clear UE gl5 UF
     have b0z:=Aside0.mk (show (nX oz∨w.heap.size<=oz) from (fC.out.1 _ rfl))
     obtain ⟨b0A,b0B⟩:=Kd.Pq 0 fC.out (aM:Int) p5 q5
     replace p5:=eq_true p5
     replace q5:=eq_true q5
     have HP7:=Kd.Uk fC.out (aM:Int) dV
     go_wp2_with (first|((with_reducible refine iR (t:=3) (p:=15) rfl ?_);refine qm (t:=3) (p:=15) (v:=?vo_w8) (w1:=(wr.setCell ⟨oz,(aM:Int).toNat,none⟩ (.int .i64 dV))) ?hg ?ho ?hn ?hr ?_;(case ho=>rfl);(case hg=>rfl);(case hn=>rfl);(case hr=>first|(go_simp;done)|(go_simp;rfl)|((try (obtain ⟨_,_,e_⟩:=Kd.eJ fC.out;rw [e_]));(try (obtain ⟨_,_,e_⟩:=Kd.od fC.out;rw [e_]));(try (obtain ⟨_,_,e_⟩:=Kd.uN fC.out;rw [e_]));(try (obtain ⟨_,_,e_⟩:=Kd.uO fC.out;rw [e_]));go_simp;first|done|rfl));intro w8 hw;have hg:wr.grownBy w8 (some oz):=(by rw [hw];exact HP7.2);have wk:Kd.R (Kd.int .i64) 3 w8 w0.heap.size (fun k_=>(nX k_∨w.heap.size<=k_)) (.slice (some ⟨oz,0,none⟩) fB.length ES) YM:=(by rw [hw,b0y.out];exact HP7.1);clear HP7;have aA:=Aside0.mk (wk);have aC:=Aside0.mk ((by rw [hw];exact bC (HB.out) GB5.out:Below w0.heap.size w0 w8));have aD:=Aside0.mk (Kept.yX (S:=(fun k_=>nX k_)) hg (by repeat (first|(with_reducible first|exact HK.out|apply Kept.alloc|apply Kept.drewN|apply Kept.drew)|exact HK.out)) (fun k_ e_=>(fC.out.1 k_ e_)));clear fC;clear HB;clear HK;have fC:=aA;have HB:=aC;have HK:=aD;clear aA aC aD;clear hg hw wk))
     go_roundg k1
     case measure=>have:=fR.out;omega
     case rel=>exact ⟨(YM),(wrap64 (dV+1)),(wrap64 (aM+1)),(by first|rfl|(simp;done)|(simp [*];done)),(by first|rfl|(simp;done)|(simp [*];done)),H',⟨by have:=fR.out;omega⟩,⟨by (with_reducible repeat (first|apply Kd.dz|apply Kd.dG|apply Kd.ez));exact fC.out⟩,⟨by repeat (first|(with_reducible first|exact HK.out|apply Kept.alloc|apply Kept.drewN|apply Kept.drew)|exact HK.out)⟩,⟨ax⟩⟩
    ·rw [if_neg c4] at H
     exact absurd H (by simp)
   ·rw [if_neg c3] at H
    have gv:decide (aM<(fB.length:Int))=false:=decide_eq_false c3
    clear c3
    simp only [Option.some.injEq,Prod.mk.injEq] at H
    obtain ⟨rfl,rfl⟩:=H
    obtain ⟨Ao9,co9,eo9⟩:=Kd.eJ fC.out
    subst eo9
    go_wp2
    go_ret
    exact ⟨by first|rfl|(simp [aQ,aR]<;>rfl)|(simp [*,aQ,aR]<;>rfl),by (with_reducible repeat (first|apply Kd.dz|apply Kd.dG|apply Kd.ez));exact fC.out,ax,by repeat (first|(with_reducible first|exact HK.out|apply Kept.alloc|apply Kept.drewN|apply Kept.drew)|exact HK.out)⟩
end Go.Proofs.Ytnhknojfpjheoaa.P
namespace Go.Proofs.Ytnhknojfpjheoaa.PT
open Go.RowKit Go.Proofs.Ytnhknojfpjheoaa.P Go.Proofs.YtnhknojfpjheoaaW.PrintWords Go.Proofs.YtnhknojfpjheoaaW.PrintLast Go.Proofs.Ytnhknojfpjheoaa.EvKit
set_option linter.all false
def wm:Int->List Int->List Int
 |_,[]=>[]
 |k,_::r=>k::wm (k+1) r
theorem Ev.b0C {α:Type} {F:Int->List α->List α} {cnt:List α->Int} {st:α->Int} (hst:∀x,0<=st x) (hc0:cnt []=0) (hc:∀x r,cnt (x::r)=st x+cnt r) (hF0:∀k,F k []=[]) {f:Int->α->α} (hF:∀k x r,F k (x::r)=f k x::F (k+st x) r) {g:Nat->List α->Int->Nat->Option (Int×List α)} (l:List α)
 (hend:∀xs k i,i=xs.length->Ev (fun q=>g q xs k i) (k,xs)) (hstep:∀xs k i (h:i<xs.length) R,Ev (fun q=>g q (xs.set i (f k xs[i])) (k+st xs[i]) (i+1)) R->k+st xs[i]<=1099511627776->0<=k->xs.length=l.length->Ev (fun q=>g q xs k i) R)
 (k:Int) (h0:0<=k) (hk:k+cnt l<=1099511627776):Ev (fun q=>g q l k 0) (k+cnt l,F k l):=by
 have CE:∀r:List α,0<=cnt r:=by
  intro r
  induction r with
  |nil=>rw [hc0];exact Int.le_refl _
  |cons x r ih=>rw [hc];have:=hst x;omega
 have key:∀(r pre:List α) (k:Int),pre.length+r.length=l.length->0<=k->k+cnt r<=1099511627776->Ev (fun q=>g q (pre++r) k pre.length) (k+cnt r,pre++F k r):=by
  intro r
  induction r with
  |nil=>
   intro pre k _ _ _
   rw [hF0,hc0]
   have:=hend (pre++[]) k pre.length (by simp)
   simpa using this
  |cons x r ih=>
   intro pre k hpl h0 hk
   have hx:(pre++x::r)[pre.length]'(by simp)=x:=by simp
   rw [hc] at hk⊢
   have h1:=hst x
   have h2:=CE r
   refine hstep (pre++x::r) k pre.length (by simp) _ ?_ (by rw [hx];omega) h0 (by simpa using hpl)
   have ih2:=ih (pre++[f k x]) (k+st x) (by simp at hpl⊢;omega) (by omega) (by omega)
   have e1:(pre++x::r).set pre.length (f k x)=(pre++[f k x])++r:=by
    rw [List.set_append_right _ _ (Nat.le_refl _)];simp
   rw [hx,e1,hF]
   have e2:(pre++[f k x]).length=pre.length+1:=by simp
   rw [e2] at ih2
   have e3:k+st x+cnt r=k+(st x+cnt r):=by omega
   rw [e3] at ih2
   simpa using ih2
 simpa using key l [] k (by simp) h0 hk
theorem CF (l:List Int) (k:Int) (h0:0<=k) (hl:l.length<=9223372036854775806) (hk:k+l.length<=1099511627776):Ev (fun q=>cD.f q l k) (k+l.length,wm k l):=by
 unfold cD.f
 exact Ev.b0C (F:=wm) (cnt:=fun l=>(l.length:Int)) (st:=fun _=>1) (fun _=>by omega) rfl (fun x r=>by simp;omega) (fun _=>rfl) (f:=fun k _=>k) (fun k x r=>rfl) (g:=fun q xs k i=>cD.l0 q xs k (i:Int)) l (fun xs k i hi=>Ev.succ (by
  simp only [cD.l0]
  exact Ev.neg (by omega) (Ev.now _))) (fun xs k i hi R ih hb hk0 hxl=>Ev.succ (by
  simp only [cD.l0,Int.toNat_natCast,eR (show i<=9223372036854775806 by omega),Mh (n:=k+1) (by omega) (by omega)]
  exact Ev.pos (by omega) (Ev.pos (by omega) ih))) k h0 hk
abbrev Mr:Kd (List Int):=Kd.slice 3 (Kd.int .i64)
def rI:Int->List (List Int)->List (List Int)
 |_,[]=>[]
 |k,a::r=>wm k a::rI (k+a.length) r
def iK:List (List Int)->Int
 | []=>0
 |a::r=>a.length+iK r
theorem DA:∀l,0<=iK l
 | []=>Int.le_refl _
 |a::r=>by simp only [iK];have:=DA r;omega
def Sa (w0 w:World) (ok:Nat->Prop) (v:Value) (l:List (List Int)) (k:Int) (e:Ending) (w':World):Prop:=
 e= .returned (.int .i64 (k+iK l))/\Kd.S Mr 22 w' w0.heap.size (fun k_=>ok k_∨w.heap.size<=k_) v (rI k l)/\Below w0.heap.size w0 w'/\Kept w w' ok
set_option maxHeartbeats 8000000 in
set_option maxRecDepth 100000 in
theorem Ho (ok:Nat->Prop) (v:Value) (l:List (List Int)) (k:Int) (w0 w:World) (hB:Below w0.heap.size w0 w) (hS:Kd.S Mr 22 w w0.heap.size ok v l) (h0:0<=k) (hk:k+iK l<=1099511627776):
 Calls Try.prog 14 #[v,.int .i64 k] w (Sa w0 w ok v l k):=by
 have hlen:l.length<=9223372036854775807:=by
  obtain ⟨A,c,_,_,hr⟩:=Kd.a3s hS
  exact hr.2.1
 have HB:=Aside0.mk hB
 have HT:=Aside0.mk (Below.refl w.heap.size w)
 have HK:=Aside0.mk hk
 cases hl:l with
 |nil=>
  subst hl
  obtain ⟨A,c,rfl⟩:=Kd.od hS
  have HS:=Aside0.mk hS
  clear hS hB hk
  go_enter Try.func14,Try.ntmps14
  go_wp2
  go_loop [5,1] (fun i kk=>i= .int .i64 0/\kk= .int .i64 k) (fun _ _=>0)
  case atStart=>exact ⟨rfl,rfl⟩
  case round=>
   obtain ⟨rfl,rfl⟩:=hrel
   go_wp2
   go_ret
   exact ⟨by simp [iK],Kd.dY HS.out (fun _ h=> .inl h),HB.out,Kept.refl _ _⟩
 |cons a0 r0=>
  have hpos:0<l.length:=by rw [hl];simp
  rw [<-hl]
  clear hl
  obtain ⟨g,cap,rfl,hg0,hg1,cells,hcells⟩:=Kd.Up hS hpos
  have UG:Aside0 (Kd.S Mr 22 w w0.heap.size (fun k_=>ok k_∨w.heap.size<=k_) (.slice (some ⟨g,0,none⟩) l.length cap) l):=⟨Kd.dY hS (fun _ h=> .inl h)⟩
  clear hS hB hk hg0 hcells
  go_enter Try.func14,Try.ntmps14
  go_wp2
  go_loopw [5,1] (fun i kk wr=>∃(x kx:Int) (pre PE:List (List Int)),i= .int .i64 x/\kk= .int .i64 kx/\0<=x/\x=(pre.length:Int)/\pre.length+PE.length=l.length/\0<=kx/\Aside0 (kx+iK PE=k+iK l)/\Aside0 (pre++rI kx PE=rI k l)/\
   Aside0 (Kd.S Mr 22 wr w0.heap.size (fun k_=>ok k_∨w.heap.size<=k_) (.slice (some ⟨g,0,none⟩) l.length cap) (pre++PE))/\Aside0 (Below w0.heap.size w0 wr)/\Aside0 (Kept w wr ok)) (fun i _ _=>l.length -(intOf i).toNat)
  case atStart=>exact ⟨0,k,[],l,rfl,rfl,by omega,rfl,by simp,h0,⟨rfl⟩,⟨rfl⟩,⟨UG.out⟩,⟨HB.out⟩,⟨Kept.refl _ _⟩⟩
  case round=>
   clear UG HB HT
   obtain ⟨x,kx,pre,PE,rfl,rfl,hx0,hxp,hps,hk0,HC,HM,HS,HB,PF⟩:=hrel
   cases PE with
   |nil=>
    have hge:¬x<(l.length:Int):=by simp at hps;omega
    have b4G:decide (x<(l.length:Int))=false:=decide_eq_false hge
    have H1:Aside0 (kx=k+iK l):=⟨by have:=HC.out;simpa [iK] using this⟩
    have H2:Aside0 (pre=rI k l):=⟨by have:=HM.out;simpa [rI] using this⟩
    clear HC HM hps hxp
    go_wp2
    go_ret
    exact ⟨by rw [H1.out];rfl,by rw [<-H2.out];simpa using HS.out,HB.out,PF.out⟩
   |cons a r=>
    have hlt:x<(l.length:Int):=by simp at hps;omega
    have hlt2:x.toNat<l.length:=by omega
    have hel:(pre++a::r).getD x.toNat []=a:=by
     have:x.toNat=pre.length:=by omega
     rw [this];simp
    have a6A:∀a',(pre++a::r).set x.toNat a'=(pre++[a'])++r:=by
     intro a'
     have:x.toNat=pre.length:=by omega
     rw [this,List.set_append_right _ _ (Nat.le_refl _)];simp
    obtain ⟨kM,c,uW,hM0,hcell,RP,hH⟩:=Kd.Uq HS.out [] x hx0 (by omega)
    rw [hel] at hM0
    obtain ⟨vt,rfl,ht⟩:=hM0
    have hc1:wr.cell? ⟨g,x.toNat,none⟩=some vt:=by have:=hcell 0 _ rfl;simpa [Kd.slice] using this
    have a6B:=DA r
    have zO:a.length<=9223372036854775806:=by have:=HC.out;have:=HK.out;simp only [iK] at*;omega
    have a6C:kx+((a.length:Int)+iK r)<=1099511627776:=by have h1:=HC.out;have h2:=HK.out;simp only [iK] at h1;omega
    obtain ⟨kT,hkT⟩:=Ev.rounds (CF a kx hk0 zO (by omega))
    have HkT:=Aside0.mk hkT
    have HH:=Aside0.mk hH
    have Hok:=Aside0.mk RP
    have Ht:=Aside0.mk ht
    have Hel:=Aside0.mk a6A
    have Hps:Aside0 (x=(pre.length:Int)/\pre.length+(r.length+1)=l.length):=⟨hxp,by simpa using hps⟩
    have Hcn:=Aside0.mk a6B
    clear hkT hH RP ht a6A hel hcell uW hps hxp a6B zO
    have b4G:decide (x<(l.length:Int))=true:=decide_eq_true hlt
    go_wp2_with (first|(go_at_call 13;(with_reducible refine (cD.calls kT kM vt a kx _ _ w0 _ HB.out Ht.out HkT.out).mono ?_);rintro e w3 ⟨rfl,hr3,hb3,hk3⟩))
    have hsz:w.heap.size<=wr.heap.size:=PF.out.1
    have hH3:=Kd.a5L (Kd.a3t HH.out) (w1:=w3) (fun q hq hn hlt=>hk3.2 q hlt (fun ho=>hn (.inl ho)))
    have hS3:=Kd.Ur hH3 (x':=wm kx a) (fK:=fun q=>kM q∨wr.heap.size<=q) ⟨vt,rfl,hr3⟩ (fun q hq=>hq.elim .inl (fun h=> .inr ⟨.inr (Nat.le_trans hsz h),h⟩))
    rw [Hel.out] at hS3
    have hKf:Kept w w3 ok:=PF.out.gN hk3 (fun q hq=>(Hok.out q hq).1)
    go_roundw
    case rel=>exact ⟨x+1,kx+(a.length:Int),pre++[wm kx a],r,rfl,rfl,by omega,by have:=Hps.out.1;simp;omega,by have:=Hps.out.2;simp;omega,by omega,⟨by have:=HC.out;simp only [iK] at this;omega⟩,⟨by have:=HM.out;simp only [rI] at this;simpa using this⟩,⟨hS3⟩,⟨hb3⟩,⟨hKf⟩⟩
    case measure=>simp [intOf];omega
abbrev eK:World->World->Prop:=Tr (fun _=>False)
theorem eK.kE {W W':World} (h:eK W W'):Below W.heap.size W W':=Tr.below h (fun _ hk=>hk.elim) (Nat.le_refl _)
theorem eK.gN {S:Nat->Prop} {W W' W'':World} (h:eK W W') (h':Tr S W' W''):Tr S W W'':=Tr.trans h h' (fun _ hk=>hk.elim) (fun _ hk _=>hk)
theorem eK.drawn {W W':World} (h:bg W W'):eK W W':=Tr.lB h.below
theorem Tr.drew {S:Nat->Prop} {W W':World} (h:Tr S W W'):Tr S W W'.drew:=⟨h.os,h.tape,h.output,h.size,h.block⟩
theorem Tr.drewN {S:Nat->Prop} {W W':World} (h:Tr S W W') (n:Nat):Tr S W (W'.drewN n):=⟨h.os,h.tape,h.output,h.size,h.block⟩
theorem Tr.alloc {S:Nat->Prop} {W W':World} (h:Tr S W W') (o:Obj):Tr S W (W'.alloc o):=⟨h.os,h.tape,h.output,by rw [xQ];exact Nat.le_succ_of_le h.size,fun k hk hn=>(Below.heap_alloc W' o k (Nat.lt_of_lt_of_le hk h.size)).trans (h.block k hk hn)⟩
theorem Tr.set {S:Nat->Prop} {W W':World} (h:Tr S W W') {p:Addr} (hp:W.heap.size<=p.block) (u:Value):Tr S W (W'.setCell p u):=⟨h.os,h.tape,h.output,by simpa [World.setCell] using h.size,fun k hk hn=>(Below.heap_setCell W' p u k (by omega)).trans (h.block k hk hn)⟩
theorem Tr.fL {S:Nat->Prop} {w W W':World} (h:Below w.heap.size w W) (t:Tr S W W') (hS:∀k,S k->w.heap.size<=k):Below w.heap.size w W':=
 ⟨t.os.trans h.os,t.tape.trans h.tape,t.output.trans h.output,Nat.le_trans h.size t.size,fun k hk=>(t.block k (Nat.lt_of_lt_of_le hk h.size) (fun hs=>by have:=hS k hs;omega)).trans (h.block k hk)⟩
theorem Tr.blk {S:Nat->Prop} {W W':World} {b:Nat} {o:Obj} (t:Tr S W W') (h:W.heap[b]? =some o) (hb:¬S b):W'.heap[b]? =some o:=(t.block b (aZ h) hb).trans h
def oA (W:World) (x:List Int) (A:Option Addr) (c:Nat):Prop:=x.length<=c/\Kd.C (Kd.int .i64) W A x.length x
def kf (W:World) (x:List (List Int)) (A:Option Addr) (c:Nat):Prop:=x.length<=c/\Kd.C Mr W A x.length x
theorem oA.tr {W W':World} {x:List Int} {A:Option Addr} {c:Nat} (h:oA W x A c) (t:eK W W'):oA W' x A c:=⟨h.1,Kd.bX h.2 t.kE⟩
theorem kf.tr {W W':World} {x:List (List Int)} {A:Option Addr} {c:Nat} (h:kf W x A c) (t:eK W W'):kf W' x A c:=⟨h.1,Kd.bX h.2 t.kE⟩
theorem oA.past {W0 W:World} {x:List Int} {A:Option Addr} {c:Nat} (h:oA W0 x A c) (t:Below W0.heap.size W0 W):oA W x A c:=⟨h.1,Kd.bX h.2 t⟩
def uB (x:List Int):Prop:=x.length<=1048576
def xY (x:List (List Int)):Prop:=x.length<=1048576/\∀y,y∈x->y.length<=1048576
abbrev oI (W:World) (x:List Int) (A:Option Addr) (n c:Nat) (bs:List Nat):Prop:=gh.own W x [.slice A n c] bs
abbrev wo (W:World) (x:List (List Int)) (A:Option Addr) (n c:Nat) (bs:List Nat):Prop:=fc.own W x [.slice A n c] bs
theorem oI.len {W:World} {x:List Int} {A:Option Addr} {n c:Nat} {bs:List Nat} (h:oI W x A n c bs):n=x.length:=by
 obtain ⟨A',c',e,_⟩:=gh.rd h
 injection e with e;injection e
theorem wo.len {W:World} {x:List (List Int)} {A:Option Addr} {n c:Nat} {bs:List Nat} (h:wo W x A n c bs):n=x.length:=by
 obtain ⟨A',c',e,_⟩:=fc.rd h
 injection e with e;injection e
theorem oI.rd {W:World} {x:List Int} {A:Option Addr} {n c:Nat} {bs:List Nat} (h:oI W x A n c bs):oA W x A c:=by
 obtain ⟨A',c',e,hl,hC⟩:=gh.rd h
 injection e with e;injection e with e1 e2 e3
 subst e1;subst e3
 exact ⟨hl,hC⟩
theorem wo.rd {W:World} {x:List (List Int)} {A:Option Addr} {n c:Nat} {bs:List Nat} (h:wo W x A n c bs):kf W x A c:=by
 obtain ⟨A',c',e,hl,hC⟩:=fc.rd h
 injection e with e;injection e with e1 e2 e3
 subst e1;subst e3
 exact ⟨hl,hC⟩
def ToI (W0 W:World) (x:List Int) (e:Ending) (w':World):Prop:=∃A c bs,e= .returned (.slice A x.length c)/\oI w' x A x.length c bs/\(∀b,b∈bs->W.heap.size<=b)/\eK W w'
def b4H (W0 W:World) (x:List (List Int)) (e:Ending) (w':World):Prop:=∃A c bs,e= .returned (.slice A x.length c)/\wo w' x A x.length c bs/\(∀b,b∈bs->W.heap.size<=b)/\eK W w'
theorem toI_c {W0 W:World} {x:List Int} {A:Option Addr} {c:Nat} (h:oA W0 x A c) (hg:uB x) (t:eK W0 W):Calls Try.prog 7 #[.slice A x.length c] W (ToI W0 W x):=by
 obtain ⟨k,hk⟩:=Ev.rounds (toIntS_ev x (by unfold uB at hg;omega))
 refine (cH.calls k A c x x W (h.tr t).2 h.1 hk).mono ?_
 rintro e w' ⟨v,rfl,hR,hb⟩
 obtain ⟨A1,c1,rfl⟩:=Kd.eJ hR
 obtain ⟨bs,ho,vk⟩:=UB hR
 exact ⟨A1,c1,bs,rfl,ho,fun b hb=>(vk b hb).2,Tr.lB hb⟩
theorem toII_c {W0 W:World} {x:List (List Int)} {A:Option Addr} {c:Nat} (h:kf W0 x A c) (hg:xY x) (t:eK W0 W):Calls Try.prog 8 #[.slice A x.length c] W (b4H W0 W x):=by
 obtain ⟨k,hk⟩:=Ev.rounds (toIntSS_ev x (by have:=hg.1;omega) (fun y hy=>by have:=hg.2 y hy;omega))
 refine (cJ.calls k A c x x W (h.tr t).2 h.1 hk).mono ?_
 rintro e w' ⟨v,rfl,hS,hb⟩
 obtain ⟨A1,c1,rfl⟩:=Kd.od hS
 obtain ⟨bs,ho,vk⟩:=PA hS
 exact ⟨A1,c1,bs,rfl,ho,fun b hb=>(vk b hb).2,Tr.lB hb⟩
theorem b0D {W0 W:World} {x:List Int} {A B:Option Addr} {c d:Nat} (h:oA W0 x A c) (h':oA W0 x B d) (hg:uB x) (t:eK W0 W):Calls Try.prog 11 #[.slice A x.length c,.slice B x.length d] W fun e w'=>e= .returned (.bool true)/\eK W w':=by
 obtain ⟨k,hk⟩:=Ev.rounds (JW x x (by unfold uB at hg;omega))
 rw [decide_eq_true rfl] at hk
 exact (ck.calls k A c x B d x true W (h.tr t).2 h.1 (h'.tr t).2 h'.1 hk).mono (fun e w' hh=>⟨hh.1,eK.drawn hh.2⟩)
theorem a6D {W0 W:World} {x:List (List Int)} {A B:Option Addr} {c d:Nat} (h:kf W0 x A c) (h':kf W0 x B d) (hg:xY x) (t:eK W0 W):Calls Try.prog 12 #[.slice A x.length c,.slice B x.length d] W fun e w'=>e= .returned (.bool true)/\eK W w':=by
 obtain ⟨k,hk⟩:=Ev.rounds (RZ x x (by have:=hg.1;omega) (fun y hy=>by have:=hg.2 y hy;omega))
 rw [decide_eq_true rfl] at hk
 exact (cK.calls k A c x B d x true W (h.tr t).2 h.1 (h'.tr t).2 h'.1 hk).mono (fun e w' hh=>⟨hh.1,eK.drawn hh.2⟩)
theorem a3G {w W0 W:World} {x:List Int} {A:Option Addr} {c:Nat} {bs:List Nat} (k:Int) (h:oI W0 x A x.length c bs) (hb:∀b,b∈bs->w.heap.size<=b) (hB:Below w.heap.size w W0) (hg:uB x) (h0:0<=k) (hk:k+x.length<=1099511627776) (t:eK W0 W):
 Calls Try.prog 13 #[.slice A x.length c,.int .i64 k] W fun e w'=>e= .returned (.int .i64 (k+x.length))/\(∃bs',oI w' (wm k x) A x.length c bs'/\∀b,b∈bs'->b∈bs∨W.heap.size<=b)/\Tr (·∈bs) W w':=by
 obtain ⟨q,hq⟩:=Ev.rounds (CF x k h0 (by unfold uB at hg;omega) hk)
 have JY:=Tr.fL hB t (fun _ hk=>hk.elim)
 have ho:=gh.tr h t (fun _ _ hk=>hk)
 refine (cD.calls q (·∈bs) (.slice A x.length c) x k _ _ w W JY (a5W ho (fun b hb'=>⟨hb',hb b hb'⟩)) hq).mono ?_
 rintro e w' ⟨rfl,hR,hb',hk'⟩
 obtain ⟨bs',ho',YN⟩:=UB hR
 exact ⟨rfl,⟨bs',ho',fun b hb=>(YN b hb).1⟩,Tr.GW JY hb' hk'⟩
theorem YO {w W0 W:World} {x:List (List Int)} {A:Option Addr} {c:Nat} {bs:List Nat} (k:Int) (h:wo W0 x A x.length c bs) (hb:∀b,b∈bs->w.heap.size<=b) (hB:Below w.heap.size w W0) (h0:0<=k) (hk:k+iK x<=1099511627776) (t:eK W0 W):
 Calls Try.prog 14 #[.slice A x.length c,.int .i64 k] W fun e w'=>e= .returned (.int .i64 (k+iK x))/\(∃bs',wo w' (rI k x) A x.length c bs'/\∀b,b∈bs'->b∈bs∨W.heap.size<=b)/\Tr (·∈bs) W w':=by
 have JY:=Tr.fL hB t (fun _ hk=>hk.elim)
 have ho:=fc.tr h t (fun _ _ hk=>hk)
 refine (Ho (·∈bs) (.slice A x.length c) x k w W JY (a3y ho (fun b hb'=>⟨hb',hb b hb'⟩)) h0 hk).mono ?_
 rintro e w' ⟨rfl,hS,hb',hk'⟩
 obtain ⟨bs',ho',YN⟩:=PA hS
 exact ⟨rfl,⟨bs',ho',fun b hb=>(YN b hb).1⟩,Tr.GW JY hb' hk'⟩
theorem kf.past {W0 W:World} {x:List (List Int)} {A:Option Addr} {c:Nat} (h:kf W0 x A c) (t:Below W0.heap.size W0 W):kf W x A c:=⟨h.1,Kd.bX h.2 t⟩
theorem a3H {w W0 W:World} {x:List Int} {A:Option Addr} {c:Nat} {bs:List Nat} {k r:Int} (hr:r=k+x.length) (h:oI W0 x A x.length c bs) (hb:∀b,b∈bs->w.heap.size<=b) (hB:Below w.heap.size w W0) (hg:uB x) (hk:0<=k/\r<=1099511627776) (t:eK W0 W):
 Calls Try.prog 13 #[.slice A x.length c,.int .i64 k] W fun e w'=>e= .returned (.int .i64 r)/\(∃bs',oI w' (wm k x) A x.length c bs'/\∀b,b∈bs'->b∈bs∨W.heap.size<=b)/\Tr (·∈bs) W w':=by subst hr;exact a3G k h hb hB hg hk.1 hk.2 t
theorem YP {w W0 W:World} {x:List (List Int)} {A:Option Addr} {c:Nat} {bs:List Nat} {k r:Int} (hr:r=k+iK x) (h:wo W0 x A x.length c bs) (hb:∀b,b∈bs->w.heap.size<=b) (hB:Below w.heap.size w W0) (hg:xY x) (hk:0<=k/\r<=1099511627776) (t:eK W0 W):
 Calls Try.prog 14 #[.slice A x.length c,.int .i64 k] W fun e w'=>e= .returned (.int .i64 r)/\(∃bs',wo w' (rI k x) A x.length c bs'/\∀b,b∈bs'->b∈bs∨W.heap.size<=b)/\Tr (·∈bs) W w':=by subst hr;exact YO k h hb hB hk.1 hk.2 t
theorem kf.rows {W:World} {x:List (List Int)} {A:Option Addr} {c:Nat} (h:kf W x A c):∀y,y∈x->y.length<=9223372036854775807:=fun y hy=>by
 obtain ⟨i,hi,rfl⟩:=List.getElem_of_mem hy
 obtain ⟨_,_,hc⟩:=h.2.2.2 (by omega)
 obtain ⟨_,_,⟨_,_,_,_,hC⟩,_⟩:=hc i _ (List.getElem?_eq_getElem hi)
 exact hC.2.1
theorem UH {W0 W:World} {x:List (List Int)} {A:Option Addr} {c:Nat} {z r:Int} (hr:r=iI x z) (h:kf W0 x A c) (hz: -1<=z/\z<=1048576) (t:eK W0 W):
 Calls Try.prog 5 #[.slice A x.length c,.int .i64 z] W fun e w'=>e= .returned (.int .i64 r)/\eK W w':=by
 subst hr
 obtain ⟨k,hk⟩:=Ev.rounds (RX x z h.2.2.1 h.rows hz.1 hz.2)
 exact (cP.calls k A c x z _ W (h.tr t).2 h.1 hk).mono (fun e w' hh=>⟨hh.1,eK.drawn hh.2⟩)
def RdN (W w':World) (R:World->Prop):Prop:=∀W',(∀k,W.heap.size<=k->k<w'.heap.size->W'.heap[k]? =w'.heap[k]?)->R W'
theorem RdN.now {W w':World} {R:World->Prop} (r:RdN W w' R):R w':=r w' (fun _ _ _=>rfl)
end Go.Proofs.Ytnhknojfpjheoaa.PT
