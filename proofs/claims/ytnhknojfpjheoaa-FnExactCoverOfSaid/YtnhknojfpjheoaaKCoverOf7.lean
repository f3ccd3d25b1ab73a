/-
  Part 7 of the proof of this: The law FnExactCoverOf answers true at every argument.
-/
import Derived.Test.YtnhknojfpjheoaaKCoverOf2
import Derived.Test.YtnhknojfpjheoaaKCoverOf6
namespace Go.Proofs.Ytnhknojfpjheoaa.PT
open Go.RowKit Go.Proofs.Ytnhknojfpjheoaa.P Go.Proofs.YtnhknojfpjheoaaW.PrintWords Go.Proofs.YtnhknojfpjheoaaW.PrintLast Go.Proofs.Ytnhknojfpjheoaa.EvKit Go.Proofs.Ytnhknojfpjheoaa.Num Go.Proofs.Ytnhknojfpjheoaa.Lp
set_option linter.all false
structure kZ (D C:Nat) (m N K:Nat) (T:bq):Prop where
 ex:∃d:Int,d≠0/\d.natAbs<=D/\(∀r,r<m->∀j,j<=N->∃a:Int,T.cell r j*(d:Rat)=(a:Rat)/\a.natAbs<=D)/\(∀k,k<K->∀j,j<N->∃a:Int,T.cell (m+k) j*(d:Rat)=(a:Rat)/\a.natAbs<=C)/\(∀k,k<K->∃a:Int,T.cell (m+k) N*(d:Rat)=(a:Rat)/\a.natAbs<=100000)
 dd:D*D<=1000000
 dc:C*D<=1000000
 d1:D<=1000
 c1:C<=100000
def put (T:bq) (i j:Nat) (q:Rat):bq:= {T with cell:=fun i' j'=>if i'=i/\j'=j then q else T.cell i' j'}
theorem gf.congr {cs:Array Value} {m N K:Nat} {T T':bq} (h:gf cs m N K T) (e:∀i j,i<m+K->j<=N->T'.cell i j=T.cell i j) (eb:∀r,r<m->T'.basis r=T.basis r):gf cs m N K T':=
 ⟨h.size,h.one,fun i j hi hj=>by rw [e i j hi hj];exact h.num i j hi hj,fun i j hi hj=>by rw [e i j hi hj];exact h.den i j hi hj,fun r hr=>by rw [eb r hr];exact h.eO r hr,h.rows,h.mO,h.costs,h.hm,h.hN⟩
theorem pX {cs:Array Value} {k:Nat} {v:Value} (h:cs.all (·.oneCell')=true) (hv:v.oneCell'=true):(cs.setIfInBounds k v).all (·.oneCell')=true:=by
 rw [Array.all_eq_true_iff_forall_mem] at*
 intro x hx
 rcases Array.mem_or_eq_of_mem_setIfInBounds hx with h1|h1
 ·exact h x h1
 ·rw [h1];exact hv
theorem heap_set {W:World} {B k:Nat} {v:Value} {cs:Array Value} {t:TypeId} (h:W.heap[B]? =some (.cells cs t (0,0))):(W.setCell ⟨B,k,none⟩ v).heap[B]? =some (.cells (cs.setIfInBounds k v) t (0,0)):=by
 show (W.heap.modify B _)[B]? =_
 rw [Array.getElem?_modify,if_pos rfl,h]
 rfl
theorem gf.put {cs:Array Value} {m N K:Nat} {T:bq} (h:gf cs m N K T) {i j:Nat} (hi:i<m+K) (hj:j<=N) (q:Rat):
 gf ((cs.setIfInBounds (i*32+j*2) (.int .i64 q.num)).setIfInBounds (i*32+j*2+1) (.int .i64 (q.den:Int))) m N K (PT.put T i j q):=by
 have hs:=h.size
 have hm:=h.hm
 have hN:=h.hN
 have far:∀k,512<=k->((cs.setIfInBounds (i*32+j*2) (.int .i64 q.num)).setIfInBounds (i*32+j*2+1) (.int .i64 (q.den:Int)))[k]? =cs[k]? :=by
  intro k hk
  rw [Array.getElem?_setIfInBounds_ne (by omega),Array.getElem?_setIfInBounds_ne (by omega)]
 refine ⟨by simp [hs],pX (pX h.one rfl) rfl,fun i' j' hi' hj'=>?_,fun i' j' hi' hj'=>?_,fun r hr=>?_,?_,?_,?_,hm,hN⟩
 ·by_cases e:i'=i/\j'=j
  ·obtain ⟨rfl,rfl⟩:=e
   rw [Array.getElem?_setIfInBounds_ne (by omega),Array.getElem?_setIfInBounds,if_pos rfl,if_pos (by omega)]
   simp [PT.put]
  ·rw [Array.getElem?_setIfInBounds_ne (by omega),Array.getElem?_setIfInBounds_ne (by omega),h.num i' j' hi' hj']
   simp only [PT.put];rw [if_neg e]
 ·by_cases e:i'=i/\j'=j
  ·obtain ⟨rfl,rfl⟩:=e
   rw [Array.getElem?_setIfInBounds,if_pos rfl,if_pos (by simp;omega)]
   simp [PT.put]
  ·rw [Array.getElem?_setIfInBounds_ne (by omega),Array.getElem?_setIfInBounds_ne (by omega),h.den i' j' hi' hj']
   simp only [PT.put];rw [if_neg e]
 ·rw [far _ (by omega)];exact h.eO r hr
 ·rw [far _ (by omega)];exact h.rows
 ·rw [far _ (by omega)];exact h.mO
 ·rw [far _ (by omega)];exact h.costs
theorem oQ (w:World) (o:Obj):(w.alloc o).heap.size=w.heap.size+1:=Array.size_push _
def rQ (T:bq) (r c j:Nat):bq:= {T with cell:=fun i' j'=>if i'=r/\j'<j then T.cell r j'/T.cell r c else T.cell i' j'}
theorem Ta (T:bq) (r c:Nat):rQ T r c 0=T:=by
 unfold rQ;congr 1;funext i' j';rw [if_neg (by omega)]
theorem Tb (T:bq) (r c j:Nat):put (rQ T r c j) r j (T.cell r j/T.cell r c)=rQ T r c (j+1):=by
 unfold put rQ;congr 1;funext i' j'
 by_cases h:i'=r/\j'=j
 ·rw [if_pos h,if_pos ⟨h.1,by omega⟩,h.2]
 ·rw [if_neg h]
  by_cases h2:i'=r/\j'<j
  ·show (if i'=r/\j'<j then _ else _)=_
   rw [if_pos h2,if_pos ⟨h2.1,by omega⟩]
  ·show (if i'=r/\j'<j then _ else _)=_
   rw [if_neg h2,if_neg (by omega)]
theorem bn {W:World} {B g k:Nat} {v:Value} {o:Obj} (h:W.heap[g]? =some o) (hne:g≠B):(W.setCell ⟨B,k,none⟩ v).heap[g]? =some o:=by
 show (W.heap.modify B _)[g]? =_
 rw [Array.getElem?_modify,if_neg (fun e=>hne e.symm)]
 exact h
theorem qV {W:World} {g:Nat} {old cs:Array Value} {t:TypeId} (h:W.heap[g]? =some (.cells old t (0,0))):(W.setRow g cs).heap[g]? =some (.cells cs t (0,0)):=by
 show (W.heap.modify g _)[g]? =_
 rw [Array.getElem?_modify,if_pos rfl,h]
 rfl
theorem sM {W:World} {g k:Nat} {o:Obj} {cs:Array Value} (h:W.heap[k]? =some o) (hne:k≠g):(W.setRow g cs).heap[k]? =some o:=by
 show (W.heap.modify g _)[k]? =_
 rw [Array.getElem?_modify,if_neg (fun e=>hne e.symm)]
 exact h
theorem pH {B:Nat} {w W:World} {g:Nat} {cs:Array Value} (h:Below B w W) (hg:B<=g):Below B w (W.setRow g cs):=
 ⟨h.os,h.tape,h.output,by show _<=(W.heap.modify g _).size;rw [Array.size_modify];exact h.size,fun k hk=>by
  show (W.heap.modify g _)[k]? =_
  rw [Array.getElem?_modify,if_neg (by omega)]
  exact h.block k hk⟩
def st (T:bq) (r c i j:Nat):bq:= {T with cell:=fun i' j'=>if i'=r∨i'<i∨(i'=i/\j'<j) then (T.pivot r c).cell i' j' else T.cell i' j'}
theorem ZM {cs:Array Value} {m N K r c:Nat} {T:bq} (h:gf cs m N K (rQ T r c (N+1))):gf cs m N K (st T r c 0 0):=by
 refine h.congr (fun i' j' _ hj=>?_) (fun _ _=>rfl)
 simp only [st,rQ,bq.pivot]
 by_cases e:i'=r
 ·rw [if_pos (.inl e),if_pos e,if_pos ⟨e,by omega⟩]
 ·rw [if_neg (by omega),if_neg (by omega)]
theorem Qj {cs:Array Value} {m N K r c i:Nat} {T:bq} (h:gf cs m N K (st T r c i 0)) (hs:i=r∨T.cell i c=0):gf cs m N K (st T r c (i+1) 0):=by
 refine h.congr (fun i' j' _ hj=>?_) (fun _ _=>rfl)
 simp only [st]
 by_cases e:i'=r∨i'<i
 ·rw [if_pos (by omega),if_pos (by omega)]
 ·rw [if_neg (show ¬(i'=r∨i'<i∨i'=i/\j'<0) by omega)]
  by_cases e2:i'=i
  ·subst e2
   rw [if_pos (by omega)]
   have h0:T.cell i' c=0:=hs.resolve_left (by omega)
   simp only [bq.pivot];rw [if_neg (show ¬i'=r by omega),h0]
   grind
  ·rw [if_neg (by omega)]
theorem a4A {cs:Array Value} {m N K r c i:Nat} {T:bq} (h:gf cs m N K (st T r c i (N+1))):gf cs m N K (st T r c (i+1) 0):=by
 refine h.congr (fun i' j' _ hj=>?_) (fun _ _=>rfl)
 simp only [st]
 by_cases e:i'=r∨i'<i∨i'=i
 ·rw [if_pos (by omega),if_pos (by omega)]
 ·rw [if_neg (by omega),if_neg (by omega)]
theorem a7D {T:bq} {r c i j:Nat}:put (st T r c i j) i j ((T.pivot r c).cell i j)=st T r c i (j+1):=by
 unfold put st;congr 1;funext i' j'
 by_cases h:i'=i/\j'=j
 ·rw [if_pos h,if_pos (by omega),h.1,h.2]
 ·rw [if_neg h]
  by_cases h2:i'=r∨i'<i∨(i'=i/\j'<j)
  ·show (if i'=r∨i'<i∨(i'=i/\j'<j) then _ else _)=_
   rw [if_pos h2,if_pos (by omega)]
  ·show (if i'=r∨i'<i∨(i'=i/\j'<j) then _ else _)=_
   rw [if_neg h2,if_neg (by omega)]
theorem a7E {cs:Array Value} {m N K r c:Nat} {T:bq} (h:gf cs m N K (st T r c (m+K) 0)) (hr:r<m):gf (cs.setIfInBounds (512+r) (.int .i64 (c:Int))) m N K (T.pivot r c):=by
 have hs:=h.size
 have hm:=h.hm
 have hN:=h.hN
 refine ⟨by simp [hs],pX h.one rfl,fun i' j' hi' hj'=>?_,fun i' j' hi' hj'=>?_,fun r' hr'=>?_,?_,?_,?_,hm,hN⟩
 ·rw [Array.getElem?_setIfInBounds_ne (by omega),h.num i' j' hi' hj']
  simp only [st];rw [if_pos (by omega)]
 ·rw [Array.getElem?_setIfInBounds_ne (by omega),h.den i' j' hi' hj']
  simp only [st];rw [if_pos (by omega)]
 ·by_cases e:r'=r
  ·subst e
   rw [Array.getElem?_setIfInBounds,if_pos rfl,if_pos (by omega)]
   simp [bq.pivot]
  ·rw [Array.getElem?_setIfInBounds_ne (by omega),h.eO r' hr']
   simp [st,bq.pivot,e]
 ·rw [Array.getElem?_setIfInBounds_ne (by omega)];exact h.rows
 ·rw [Array.getElem?_setIfInBounds_ne (by omega)];exact h.mO
 ·rw [Array.getElem?_setIfInBounds_ne (by omega)];exact h.costs
theorem kZ.row {D C m N K:Nat} {T:bq} (h:kZ D C m N K T) {r j:Nat} (hr:r<m) (hj:j<=N):Qu D D (T.cell r j):=by
 obtain ⟨d,h0,h1,h2,_⟩:=h.ex
 obtain ⟨a,e,b⟩:=h2 r hr j hj
 exact ⟨a,d,h0,e,b,h1⟩
theorem kZ.any {D C m N K:Nat} {T:bq} (h:kZ D C m N K T) {i j:Nat} (hi:i<m+K) (hj:j<=N):Qu 100000 D (T.cell i j):=by
 obtain ⟨d,h0,h1,h2,h3,h4⟩:=h.ex
 by_cases e:i<m
 ·obtain ⟨a,e,b⟩:=h2 i e j hj
  exact ⟨a,d,h0,e,by have:=h.d1;omega,h1⟩
 ·have e2:i=m+(i - m):=by omega
  rw [e2]
  by_cases e3:j<N
  ·obtain ⟨a,e,b⟩:=h3 (i - m) (by omega) j e3
   exact ⟨a,d,h0,e,by have:=h.c1;omega,h1⟩
  ·have e4:j=N:=by omega
   rw [e4]
   obtain ⟨a,e,b⟩:=h4 (i - m) (by omega)
   exact ⟨a,d,h0,e,b,h1⟩
theorem kZ.WL {D C m N K:Nat} {T:bq} (h:kZ D C m N K T) {i j:Nat} (hi:i<m+K) (hj:j<=N):Ok (T.cell i j):=
 Qu.ok (h.any hi hj) (by omega) (by have:=h.d1;omega)
theorem kZ.quot {D C m N K:Nat} {T:bq} (h:kZ D C m N K T) {r j c:Nat} (hr:r<m) (hj:j<=N) (hc:c<=N) (hp:T.cell r c≠0):Qu D D (T.cell r j/T.cell r c):=by
 obtain ⟨d,h0,h1,h2,_⟩:=h.ex
 obtain ⟨a,e,b⟩:=h2 r hr j hj
 obtain ⟨a',e',b'⟩:=h2 r hr c hc
 have hd:(d:Rat)≠0:=IC h0
 refine ⟨a,a',?_,?_,b,b'⟩
 ·intro h3;rw [h3] at e';apply hp
  have:T.cell r c*(d:Rat)=0:=e'
  grind
 ·rw [<-e,<-e'];grind
theorem kZ.prod {D C m N K:Nat} {T:bq} (h:kZ D C m N K T) {i r j c:Nat} (hr:r<m) (hj:j<=N) (hc:c<N) (hi:i<m+K) (hp:T.cell r c≠0):Ok (T.cell i c*(T.cell r j/T.cell r c)):=by
 have hq:=h.quot hr hj (Nat.le_of_lt hc) hp
 obtain ⟨d,h0,h1,h2,h3,h4⟩:=h.ex
 by_cases e:i<m
 ·obtain ⟨a,e,b⟩:=h2 i e c (Nat.le_of_lt hc)
  exact Qu.ok (Qu.mul ⟨a,d,h0,e,b,h1⟩ hq) h.dd h.dd
 ·have e2:i=m+(i - m):=by omega
  obtain ⟨a,e,b⟩:=h3 (i - m) (by omega) c hc
  rw [<-e2] at e
  exact Qu.ok (Qu.mul ⟨a,d,h0,e,b,h1⟩ hq) h.dc h.dd
theorem Sz.mono {a b a' b':Nat} {x:Rat} (h:Sz a b x) (ha:a<=a') (hb:b<=b'):Sz a' b' x:=⟨Nat.le_trans h.n ha,Nat.le_trans h.d hb⟩
set_option maxHeartbeats 1000000 in
set_option maxRecDepth 100000 in
theorem FP (D C m N K r c:Nat) (T:bq) (cs:Array Value) (w:World) (hR:gf cs m N K T) (hr:r<m) (hc:c<N) (hp:T.cell r c≠0) (hF:kZ D C m N K T) (hF':kZ D C m N K (T.pivot r c)):
 Calls Try.prog 57 #[.agg cs,.int .i64 (r:Int),.int .i64 (c:Int)] w fun e w'=>∃cs',e= .returned (.agg cs')/\gf cs' m N K (T.pivot r c)/\Below w.heap.size w w':=by
 have hu:=Try.underlying62
 have q1:=hR.num r c (by omega) (by omega)
 have q2:=hR.den r c (by omega) (by omega)
 have b0:(0:Int)<=(r:Int):=by omega
 have b1:(r:Int)<16:=by have:=hR.hm;omega
 have b2:(0:Int)<=(c:Int):=by omega
 have b3:(c:Int)<16:=by have:=hR.hN;omega
 have HR:=Aside0.mk hR
 clear hR
 go_enter Try.func57,Try.ntmps57
 go_wp2
 have vM:Aside0 (Below w.heap.size w (((w.alloc (.cells cs 62)).alloc (.cells Try.zeroCells62 62)).alloc (.cells #[.int .i64 (T.cell r c).num,.int .i64 ((T.cell r c).den:Int)] 26))):=⟨bA (bA (bA (Below.refl _ _) _) _) _⟩
 have HT0:Aside0 ((((w.alloc (.cells cs 62)).alloc (.cells Try.zeroCells62 62)).alloc (.cells #[.int .i64 (T.cell r c).num,.int .i64 ((T.cell r c).den:Int)] 26)).heap[w.heap.size]? =some (.cells cs 62 (0,0))):=⟨ak (ak (di w _) _) _⟩
 have WM:Aside0 ((((w.alloc (.cells cs 62)).alloc (.cells Try.zeroCells62 62)).alloc (.cells #[.int .i64 (T.cell r c).num,.int .i64 ((T.cell r c).den:Int)] 26)).heap[w.heap.size+1]? =some (.cells Try.zeroCells62 62 (0,0))):=⟨ak (by have:=di (w.alloc (.cells cs 62)) (.cells Try.zeroCells62 62);rw [oQ] at this;exact this) _⟩
 have Nr:Aside0 ((((w.alloc (.cells cs 62)).alloc (.cells Try.zeroCells62 62)).alloc (.cells #[.int .i64 (T.cell r c).num,.int .i64 ((T.cell r c).den:Int)] 26)).heap[w.heap.size+1+1]? =some (.cells #[.int .i64 (T.cell r c).num,.int .i64 ((T.cell r c).den:Int)] 26 (0,0))):=⟨by have:=di ((w.alloc (.cells cs 62)).alloc (.cells Try.zeroCells62 62)) (.cells #[.int .i64 (T.cell r c).num,.int .i64 ((T.cell r c).den:Int)] 26);rw [oQ,oQ] at this;exact this⟩
 generalize (((w.alloc (.cells cs 62)).alloc (.cells Try.zeroCells62 62)).alloc (.cells #[.int .i64 (T.cell r c).num,.int .i64 ((T.cell r c).den:Int)] 26))=w3 at*
 have HF:=Aside0.mk hF
 have HF':=Aside0.mk hF'
 have HP:=Aside0.mk hp
 clear hF hF' hp q1 q2
 go_loopw [8] (fun jv wr=>∃(j:Nat) (cs1:Array Value),jv= .int .i64 (j:Int)/\j<=N+1/\Aside0 (wr.heap[w.heap.size]? =some (.cells cs1 62 (0,0)))/\Aside0 (gf cs1 m N K (rQ T r c j))/\Aside0 (wr.heap[w.heap.size+1]? =some (.cells Try.zeroCells62 62 (0,0)))/\Aside0 (wr.heap[w.heap.size+1+1]? =some (.cells #[.int .i64 (T.cell r c).num,.int .i64 ((T.cell r c).den:Int)] 26 (0,0)))/\Aside0 (Below w.heap.size w wr)) (fun jv _=>N+1 -(intOf jv).toNat)
 case atStart=>exact ⟨0,cs,rfl,by omega,HT0,⟨by rw [Ta];exact HR.out⟩,WM,Nr,vM⟩
 case round=>
  obtain ⟨j,cs1,rfl,hj,HA,HS,dO,iq,cr⟩:=hrel
  by_cases hlt:j<=N
  ·have h0:=br HA.out HS.out.mO
   have h1:=br HA.out (HS.out.num r j (by omega) hlt)
   have h2:=br HA.out (HS.out.den r j (by omega) hlt)
   have e1:(rQ T r c j).cell r j=T.cell r j:=by simp only [rQ];rw [if_neg (by omega)]
   rw [e1] at h1 h2
   have h3:=(af iq.out 0).trans rfl
   have h4:=(af iq.out 1).trans rfl
   have HC:=Aside0.mk (fun W=>AP W (Qu.sz (HF.out.row hr hlt)) (Qu.sz (HF.out.row hr (Nat.le_of_lt hc))) (by have:=HF.out.dd;omega) (by have:=HF.out.dd;omega) HP.out (Qu.ok (HF.out.quot hr hlt (Nat.le_of_lt hc) HP.out) (by have:=HF.out.d1;omega) (by have:=HF.out.d1;omega)))
   have g0:(0:Int)<=(j:Int):=by omega
   have g1:(j:Int)<16:=by have:=HS.out.hN;omega
   have g2:decide ((j:Int)<=(N:Int))=true:=decide_eq_true (by omega)
   have nA:Aside0 (wrap64 ((j:Int)+1)=((j+1:Nat):Int)):=⟨eR (by have:=HS.out.hN;omega)⟩
   have hm:=Np
   go_wp2
   have fG:=Aside0.mk (aj HA.out)
   have fN:=Aside0.mk (aj dO.out)
   have a7F:=Aside0.mk (aj iq.out)
   have fe:=Aside0.mk (bB cr.out)
   clear HA dO iq cr
   refine eX (n:=15) (S:=fun w'=>w'.cell? ⟨w.heap.size,r*32+j*2,none⟩=some (.int .i64 (T.cell r j).num)/\w'.cell? ⟨w.heap.size,r*32+j*2+1,none⟩=some (.int .i64 ((T.cell r j).den:Int))/\w'.cell? ⟨w.heap.size+1+1,0,none⟩=some (.int .i64 (T.cell r c).num)/\w'.cell? ⟨w.heap.size+1+1,1,none⟩=some (.int .i64 ((T.cell r c).den:Int))) (ds:=[14]) #[false,false,false,false,false,false,false,false,false,false,false,false,false,false,false] (by kernel_rfl) rfl rfl ⟨h1,h2,h3,h4⟩ (fun hHeld=>?_)
   generalize wr.drew=w4 at*
   refine aX (i:=0) (N:=some 24) ?_
   refine aX (i:=1) (N:=some 25) ?_
   refine aX (i:=2) (N:=some 26) ?_
   refine aX (i:=3) (N:=some 27) ?_
   refine aX (i:=4) (N:=some 28) ?_
   refine aX (i:=5) (N:=some 29) ?_
   refine aX (i:=6) (N:=some 30) ?_
   refine dy (i:=7) (N:=some 31) (v:=?_) (a':=?_) #[true,true,true,true,true,true,true,true,false,false,false,false,false,false,false] rfl rfl (by kernel_rfl) (fun _ _ _ h=>h) (Or.inl ⟨by rfl,?_⟩) hHeld ?_ ?_
   rotate_left
   ·rintro w' ⟨s0,s1,s2,s3⟩
    go_simp
    with_reducible rfl
   rotate_left
   ·exact eG
   refine aX (i:=8) (N:=some 32) ?_
   refine dy (i:=9) (N:=some 33) (v:=?_) (a':=?_) #[true,true,true,true,true,true,true,true,true,true,false,false,false,false,false] rfl rfl (by kernel_rfl) (fun _ _ _ h=>h) (Or.inl ⟨by rfl,?_⟩) hHeld ?_ ?_
   rotate_left
   ·rintro w' ⟨s0,s1,s2,s3⟩
    go_simp
    with_reducible rfl
   rotate_left
   ·exact eG
   refine aX (i:=11) (N:=some 35) ?_
   refine aX (i:=12) (N:=some 36) ?_
   refine fA (i:=10) (N:=some 34) #[true,true,true,true,true,true,true,true,true,true,true,true,true,false,false] rfl rfl (by kernel_rfl) (by decide) (fun K hK=>?_)
   refine rD 86 #[V (T.cell r j),V (T.cell r c)] (by rfl) rfl ?_ ?_
   ·go_simp
   refine (HC.out _).mono ?_
   rintro e w5 ⟨rfl,jg⟩
   have Qk:=Aside0.mk (ai fG.out jg)
   have a7G:=Aside0.mk (ai fN.out jg)
   have Tc:=Aside0.mk (ai a7F.out jg)
   have MR:=Aside0.mk (ah fe.out jg)
   clear jg fG fN a7F fe h0 h1 h2 h3 h4 HC
   have h1:=br Qk.out (HS.out.num r j (by omega) hlt)
   have h2:=br Qk.out (HS.out.den r j (by omega) hlt)
   rw [e1] at h1 h2
   refine ⟨_,rfl,?_⟩
   refine hK.out _ _ ⟨h1,h2,(af Tc.out 0).trans rfl,(af Tc.out 1).trans rfl⟩ (fun hHeld=>?_)
   clear hK K hHeld
   refine eF (a':=?_) ?_ ?_
   rotate_left
   ·show Act.put _ (some 34) _=_
    simp only [Act.put,List.setIfInBounds_toArray,List.set_cons_zero,List.set_cons_succ,cZ,dX]
    rfl
   refine aX (i:=13) (N:=some 37) ?_
   refine pP (i:=14) (N:=none) #[true,true,true,true,true,true,true,true,true,true,true,true,true,true,true] rfl rfl (by kernel_rfl) (by decide) (fun K hK=>?_)
   have nY:=aa Qk.out (r*32+j*2)
   have hf2:=aa Qk.out (r*32+j*2+1)
   refine kY (w1:=?_) (by rfl) rfl ?_ ?_
   rotate_left
   ·go_simp
    rfl
   refine hK.out _ _ ?_
   clear hK K
   refine fV (by kernel_rfl) ?_
   have HA6:Aside0 (((w5.setCell ⟨w.heap.size,r*32+j*2,none⟩ (.int .i64 (T.cell r j/T.cell r c).num)).setCell ⟨w.heap.size,r*32+j*2+1,none⟩ (.int .i64 ((T.cell r j/T.cell r c).den:Int))).heap[w.heap.size]? =some (.cells ((cs1.setIfInBounds (r*32+j*2) (.int .i64 (T.cell r j/T.cell r c).num)).setIfInBounds (r*32+j*2+1) (.int .i64 ((T.cell r j/T.cell r c).den:Int))) 62 (0,0))):=⟨heap_set (heap_set Qk.out)⟩
   have ZN:Aside0 (((w5.setCell ⟨w.heap.size,r*32+j*2,none⟩ (.int .i64 (T.cell r j/T.cell r c).num)).setCell ⟨w.heap.size,r*32+j*2+1,none⟩ (.int .i64 ((T.cell r j/T.cell r c).den:Int))).heap[w.heap.size+1]? =some (.cells Try.zeroCells62 62 (0,0))):=⟨bn (bn a7G.out (by omega)) (by omega)⟩
   have b4W:Aside0 (((w5.setCell ⟨w.heap.size,r*32+j*2,none⟩ (.int .i64 (T.cell r j/T.cell r c).num)).setCell ⟨w.heap.size,r*32+j*2+1,none⟩ (.int .i64 ((T.cell r j/T.cell r c).den:Int))).heap[w.heap.size+1+1]? =some (.cells #[.int .i64 (T.cell r c).num,.int .i64 ((T.cell r c).den:Int)] 26 (0,0))):=⟨bn (bn Tc.out (by omega)) (by omega)⟩
   have MS:Aside0 (Below w.heap.size w ((w5.setCell ⟨w.heap.size,r*32+j*2,none⟩ (.int .i64 (T.cell r j/T.cell r c).num)).setCell ⟨w.heap.size,r*32+j*2+1,none⟩ (.int .i64 ((T.cell r j/T.cell r c).den:Int)))):=⟨bC (bC MR.out (Nat.le_refl _)) (Nat.le_refl _)⟩
   have Kf:Aside0 (gf ((cs1.setIfInBounds (r*32+j*2) (.int .i64 (T.cell r j/T.cell r c).num)).setIfInBounds (r*32+j*2+1) (.int .i64 ((T.cell r j/T.cell r c).den:Int))) m N K (rQ T r c (j+1))):=⟨by rw [<-Tb];exact HS.out.put (by omega) hlt _⟩
   clear Qk a7G Tc MR HS h1 h2 nY hf2 e1
   generalize (w5.setCell ⟨w.heap.size,r*32+j*2,none⟩ (.int .i64 (T.cell r j/T.cell r c).num)).setCell ⟨w.heap.size,r*32+j*2+1,none⟩ (.int .i64 ((T.cell r j/T.cell r c).den:Int))=w6 at*
   generalize (cs1.setIfInBounds (r*32+j*2) (.int .i64 (T.cell r j/T.cell r c).num)).setIfInBounds (r*32+j*2+1) (.int .i64 ((T.cell r j/T.cell r c).den:Int))=AR at*
   go_wp2
   go_roundw
   case rel=>exact ⟨j+1,AR,by first|(rw [nA.out];done)|rfl|(simp;done),by omega,HA6,Kf,ZN,b4W,MS⟩
   case measure=>(try rw [nA.out]);simp [intOf];omega
  ·have Ns:j=N+1:=by omega
   have h0:=br HA.out HS.out.mO
   have g2:decide ((j:Int)<=(N:Int))=false:=decide_eq_false (by omega)
   rw [Ns] at HS
   clear Ns
   go_wp2
   clear hj hlt
   have UG:=Aside0.mk (ZM HS.out)
   clear h0 HS iq g2 vM HT0 WM Nr
   go_loopw [9] (fun iv wi=>∃(i:Nat) (ir:Array Value),iv= .int .i64 (i:Int)/\i<=m+K/\Aside0 (wi.heap[w.heap.size]? =some (.cells ir 62 (0,0)))/\Aside0 (gf ir m N K (st T r c i 0))/\Aside0 (wi.heap[w.heap.size+1]? =some (.cells Try.zeroCells62 62 (0,0)))/\Aside0 (Below w.heap.size w wi)) (fun iv _=>m+K -(intOf iv).toNat)
   case atStart=>exact ⟨0,cs1,rfl,Nat.zero_le _,HA,UG,dO,cr⟩
   case round=>
    clear HA dO cr UG
    obtain ⟨i,ir,rfl,hi,HA,HS,dO,cr⟩:=hrel
    obtain ⟨mk,hmk⟩:∃mk,mk=m+K:=⟨_,rfl⟩
    have hw:IntKind.i64.wrap ((m:Int)+(K:Int))=(mk:Int):=by rw [hmk];have:=HS.out.hm;rw [cZ,cO (by omega) (by omega)];rfl
    have h0:=br HA.out HS.out.rows
    have h00:=br HA.out HS.out.costs
    by_cases hlt:i<m+K
    ·have g2:decide ((i:Int)<(mk:Int))=true:=decide_eq_true (by omega)
     have h1:=br HA.out (HS.out.num i c hlt (by omega))
     have h2:=br HA.out (HS.out.den i c hlt (by omega))
     have g0:(0:Int)<=(i:Int):=by omega
     have g1:(i:Int)<16:=by have:=HS.out.hm;omega
     have nA:Aside0 (wrap64 ((i:Int)+1)=((i+1:Nat):Int)):=⟨eR (by have:=HS.out.hm;omega)⟩
     have hm:=yw
     have zR:decide (i<mk)=true:=decide_eq_true (by omega)
     have hlt':=Aside0.mk hlt
     have HMK:=Aside0.mk hmk
     clear hmk
     by_cases uv:i=r
     ·have g3:((i:Int)==(r:Int))=true:=by rw [uv];simp
      have js:=Aside0.mk (Qj HS.out (.inl uv))
      have g2':decide ((r:Int)<(mk:Int))=true:=by rw [<-uv];exact g2
      have WN:=Aside0.mk uv
      have g2n':decide (r<mk)=true:=by rw [<-uv];exact zR
      have h1':=h1
      have h2':=h2
      generalize (st T r c i 0).cell i c=q at*
      rw [uv] at h1' h2'
      clear uv HS hlt
      go_wp2
      go_roundw
      case rel=>exact ⟨i+1,ir,by first|(rw [nA.out];done)|rfl|(simp;done)|(rw [WN.out];first|rfl|(simp;done)),hlt'.out,⟨ak HA.out _⟩,js,⟨ak dO.out _⟩,⟨bA cr.out _⟩⟩
      case measure=>(try rw [nA.out]);have:=hlt'.out;simp [intOf];omega
     ·have g3:((i:Int)==(r:Int))=false:=by rw [beq_eq_false_iff_ne];omega
      have hq:(st T r c i 0).cell i c=T.cell i c:=by simp only [st];rw [if_neg (by omega)]
      rw [hq] at h1 h2
      have HQ:=Aside0.mk hq
      clear hq
      have HC:=Aside0.mk (fun W=>vL (T.cell i c) W)
      by_cases hz:T.cell i c=0
      ·have js:=Aside0.mk (Qj HS.out (.inr hz))
       have g4:(jr (T.cell i c)==0)=true:=by rw [qU.2 hz];rfl
       clear HS hlt hz
       have WN:=Aside0.mk uv
       clear uv
       go_wp2_with (first|(go_at_call 87;(with_reducible refine (HC.out _).mono ?_);rintro e w1 ⟨rfl,hb1⟩;have fG:=Aside0.mk (ai (ak HA.out _) hb1);have fN:=Aside0.mk (ai (ak dO.out _) hb1);have fe:=Aside0.mk (ah (bA cr.out _) hb1);clear hb1))
       go_roundw
       case rel=>exact ⟨i+1,ir,by first|(rw [nA.out];done)|rfl|(simp;done),hlt'.out,fG,js,fN,fe⟩
       case measure=>(try rw [nA.out]);have:=hlt'.out;simp [intOf];omega
      ·have g4:(jr (T.cell i c)==0)=false:=beq_eq_false_iff_ne.mpr (fun h=>hz (qU.1 h))
       have WN:=Aside0.mk uv
       have Nt:Aside0 ((wr.alloc (.cells #[.int .i64 (T.cell i c).num,.int .i64 ((T.cell i c).den:Int)] 26)).heap[wr.heap.size]? =some (.cells #[.int .i64 (T.cell i c).num,.int .i64 ((T.cell i c).den:Int)] 26 (0,0))):=⟨di wr _⟩
       have HSZ:Aside0 (w.heap.size+1<wr.heap.size):=⟨(Array.getElem?_eq_some_iff.1 dO.out).1⟩
       clear uv hz
       go_wp2_with (first|(go_at_call 87;(with_reducible refine (HC.out _).mono ?_);rintro e w1 ⟨rfl,hb1⟩;have fG:=Aside0.mk (ai (ak HA.out _) hb1);have fN:=Aside0.mk (ai (ak dO.out _) hb1);have fe:=Aside0.mk (ah (bA cr.out _) hb1);have Nu:=Aside0.mk (ai Nt.out hb1);clear hb1))
       clear HA dO cr Nt HC h0 h00 h1 h2 g4
       generalize wr.heap.size=g at*
       go_loopw [11] (fun jv wj=>∃(j:Nat) (CO:Array Value),jv= .int .i64 (j:Int)/\j<=N+1/\Aside0 (wj.heap[w.heap.size]? =some (.cells CO 62 (0,0)))/\Aside0 (gf CO m N K (st T r c i j))/\Aside0 (wj.heap[w.heap.size+1]? =some (.cells Try.zeroCells62 62 (0,0)))/\Aside0 (wj.heap[g]? =some (.cells #[.int .i64 (T.cell i c).num,.int .i64 ((T.cell i c).den:Int)] 26 (0,0)))/\Aside0 (Below w.heap.size w wj)) (fun jv _=>N+1 -(intOf jv).toNat)
       case atStart=>exact ⟨0,ir,rfl,Nat.zero_le _,fG,HS,fN,Nu,fe⟩
       case round=>
        clear fG fN Nu fe HS
        obtain ⟨j,CO,rfl,hj3,HA,HS,dO,Nt,cr⟩:=hrel
        have h0:=br HA.out HS.out.mO
        by_cases zS:j<=N
        ·have e1:(st T r c i j).cell i j=T.cell i j:=by simp only [st];rw [if_neg (by have:=WN.out;omega)]
         have e2:(st T r c i j).cell r j=T.cell r j/T.cell r c:=by simp [st,bq.pivot]
         have e3:(T.pivot r c).cell i j=T.cell i j - T.cell i c*(T.cell r j/T.cell r c):=by simp only [bq.pivot];rw [if_neg WN.out]
         have h1:=br HA.out (HS.out.num i j hlt'.out zS)
         have h2:=br HA.out (HS.out.den i j hlt'.out zS)
         have h3:=br HA.out (HS.out.num r j (by omega) zS)
         have h4:=br HA.out (HS.out.den r j (by omega) zS)
         rw [e1] at h1 h2
         rw [e2] at h3 h4
         have h5:=(af Nt.out 0).trans rfl
         have h6:=(af Nt.out 1).trans rfl
         have HQ1:=Aside0.mk (kZ.prod HF.out hr zS hc hlt'.out HP.out)
         have Ql:=Aside0.mk (kZ.WL HF'.out hlt'.out zS)
         rw [e3] at Ql
         have nW:=Aside0.mk (fun W=>a4x W (Qu.sz (HF.out.any hlt'.out (Nat.le_of_lt hc))) (Qu.sz (HF.out.quot hr zS (Nat.le_of_lt hc) HP.out)) (by have:=HF.out.d1;have:=Nat.mul_le_mul_left 100000 this;omega) (by have:=HF.out.dd;omega) HQ1.out)
         have tT:=Aside0.mk (fun W=>Jb W (Qu.sz (HF.out.any hlt'.out zS)) (Ok.sz HQ1.out) (by have:=HF.out.d1;omega) (by have:=HF.out.d1;omega) Ql.out)
         have g5:(0:Int)<=(j:Int):=by omega
         have g6:(j:Int)<16:=by have:=HS.out.hN;omega
         have g7:decide ((j:Int)<=(N:Int))=true:=decide_eq_true (by omega)
         have g7n:decide (j<=N)=true:=decide_eq_true (by omega)
         have rR:Aside0 (wrap64 ((j:Int)+1)=((j+1:Nat):Int)):=⟨eR (by have:=HS.out.hN;omega)⟩
         have js:Aside0 (gf ((CO.setIfInBounds (i*32+j*2) (.int .i64 (T.cell i j - T.cell i c*(T.cell r j/T.cell r c)).num)).setIfInBounds (i*32+j*2+1) (.int .i64 ((T.cell i j - T.cell i c*(T.cell r j/T.cell r c)).den:Int))) m N K (st T r c i (j+1))):=⟨by rw [<-a7D,e3];exact HS.out.put hlt'.out zS _⟩
         have CP:=Aside0.mk zS
         have hm2:=a4z
         have hm3:=Jc
         clear zS hlt hj3
         go_wp2
         have fG:=Aside0.mk (aj HA.out)
         have fN:=Aside0.mk (aj dO.out)
         have Nu:=Aside0.mk (aj Nt.out)
         have fe:=Aside0.mk (bB cr.out)
         clear HA dO Nt cr h0
         refine eX (n:=23) (S:=fun w'=>w'.cell? ⟨w.heap.size,i*32+j*2,none⟩=some (.int .i64 (T.cell i j).num)/\w'.cell? ⟨w.heap.size,i*32+j*2+1,none⟩=some (.int .i64 ((T.cell i j).den:Int))/\w'.cell? ⟨w.heap.size,r*32+j*2,none⟩=some (.int .i64 (T.cell r j/T.cell r c).num)/\w'.cell? ⟨w.heap.size,r*32+j*2+1,none⟩=some (.int .i64 ((T.cell r j/T.cell r c).den:Int))/\w'.cell? ⟨g,0,none⟩=some (.int .i64 (T.cell i c).num)/\w'.cell? ⟨g,1,none⟩=some (.int .i64 ((T.cell i c).den:Int))) (ds:=[22]) #[false,false,false,false,false,false,false,false,false,false,false,false,false,false,false,false,false,false,false,false,false,false,false] (by kernel_rfl) rfl rfl ⟨h1,h2,h3,h4,h5,h6⟩ (fun hHeld=>?_)
         generalize wr.drew=w6 at*
         refine aX (i:=0) (N:=some 68) ?_
         refine aX (i:=1) (N:=some 69) ?_
         refine aX (i:=2) (N:=some 70) ?_
         refine aX (i:=3) (N:=some 71) ?_
         refine aX (i:=4) (N:=some 72) ?_
         refine aX (i:=5) (N:=some 73) ?_
         refine aX (i:=6) (N:=some 74) ?_
         refine dy (i:=7) (N:=some 75) (v:=?_) (a':=?_) #[true,true,true,true,true,true,true,true,false,false,false,false,false,false,false,false,false,false,false,false,false,false,false] rfl rfl (by kernel_rfl) (fun _ _ _ h=>h) (Or.inl ⟨by rfl,?_⟩) hHeld ?_ ?_
         rotate_left
         ·rintro w' ⟨s0,s1,s2,s3,s4,s5⟩
          go_simp
          with_reducible rfl
         rotate_left
         ·exact eG
         refine aX (i:=8) (N:=some 76) ?_
         refine dy (i:=9) (N:=some 77) (v:=?_) (a':=?_) #[true,true,true,true,true,true,true,true,true,true,false,false,false,false,false,false,false,false,false,false,false,false,false] rfl rfl (by kernel_rfl) (fun _ _ _ h=>h) (Or.inl ⟨by rfl,?_⟩) hHeld ?_ ?_
         rotate_left
         ·rintro w' ⟨s0,s1,s2,s3,s4,s5⟩
          go_simp
          with_reducible rfl
         rotate_left
         ·exact eG
         refine aX (i:=10) (N:=some 78) ?_
         refine aX (i:=11) (N:=some 79) ?_
         refine aX (i:=12) (N:=some 80) ?_
         refine aX (i:=13) (N:=some 81) ?_
         refine aX (i:=14) (N:=some 82) ?_
         refine aX (i:=15) (N:=some 83) ?_
         refine dy (i:=16) (N:=some 84) (v:=?_) (a':=?_) #[true,true,true,true,true,true,true,true,true,true,true,true,true,true,true,true,true,false,false,false,false,false,false] rfl rfl (by kernel_rfl) (fun _ _ _ h=>h) (Or.inl ⟨by rfl,?_⟩) hHeld ?_ ?_
         rotate_left
         ·rintro w' ⟨s0,s1,s2,s3,s4,s5⟩
          go_simp
          with_reducible rfl
         rotate_left
         ·exact eG
         refine aX (i:=19) (N:=some 87) ?_
         refine aX (i:=20) (N:=some 88) ?_
         refine fA (i:=17) (N:=some 85) #[true,true,true,true,true,true,true,true,true,true,true,true,true,true,true,true,true,true,false,true,true,false,false] rfl rfl (by kernel_rfl) (by decide) (fun K hK=>?_)
         refine rD 88 #[V (T.cell i c),V (T.cell r j/T.cell r c)] (by rfl) rfl ?_ ?_
         ·go_simp
         refine (nW.out _).mono ?_
         rintro e w7 ⟨rfl,vN⟩
         have Qm:=Aside0.mk (ai fG.out vN)
         have a7L:=Aside0.mk (ai fN.out vN)
         have HF7:=Aside0.mk (ai Nu.out vN)
         have UW:=Aside0.mk (ah fe.out vN)
         clear vN fG fN Nu fe h1 h2 h3 h4 h5 h6 nW
         have h1:=br Qm.out (HS.out.num i j hlt'.out CP.out)
         have h2:=br Qm.out (HS.out.den i j hlt'.out CP.out)
         have h3:=br Qm.out (HS.out.num r j (by omega) CP.out)
         have h4:=br Qm.out (HS.out.den r j (by omega) CP.out)
         rw [e1] at h1 h2
         rw [e2] at h3 h4
         refine ⟨_,rfl,?_⟩
         refine hK.out _ _ ⟨h1,h2,h3,h4,(af HF7.out 0).trans rfl,(af HF7.out 1).trans rfl⟩ (fun hHeld=>?_)
         clear hK K hHeld
         refine eF (a':=?_) ?_ ?_
         rotate_left
         ·show Act.put _ (some 85) _=_
          simp only [Act.put,List.setIfInBounds_toArray,List.set_cons_zero,List.set_cons_succ,cZ,dX]
          rfl
         refine fA (i:=18) (N:=some 86) #[true,true,true,true,true,true,true,true,true,true,true,true,true,true,true,true,true,true,true,true,true,false,false] rfl rfl (by kernel_rfl) (by decide) (fun K hK=>?_)
         refine rD 85 #[V (T.cell i j),V (T.cell i c*(T.cell r j/T.cell r c))] (by rfl) rfl ?_ ?_
         ·go_simp
         refine (tT.out _).mono ?_
         rintro e w8 ⟨rfl,lU⟩
         have Km:=Aside0.mk (ai Qm.out lU)
         have a7M:=Aside0.mk (ai a7L.out lU)
         have Qn:=Aside0.mk (ai HF7.out lU)
         have uo:=Aside0.mk (ah UW.out lU)
         clear lU Qm a7L HF7 UW h1 h2 h3 h4 tT
         have h1:=br Km.out (HS.out.num i j hlt'.out CP.out)
         have h2:=br Km.out (HS.out.den i j hlt'.out CP.out)
         have h3:=br Km.out (HS.out.num r j (by omega) CP.out)
         have h4:=br Km.out (HS.out.den r j (by omega) CP.out)
         rw [e1] at h1 h2
         rw [e2] at h3 h4
         refine ⟨_,rfl,?_⟩
         refine hK.out _ _ ⟨h1,h2,h3,h4,(af Qn.out 0).trans rfl,(af Qn.out 1).trans rfl⟩ (fun hHeld=>?_)
         clear hK K hHeld
         refine eF (a':=?_) ?_ ?_
         rotate_left
         ·show Act.put _ (some 86) _=_
          simp only [Act.put,List.setIfInBounds_toArray,List.set_cons_zero,List.set_cons_succ,cZ,dX]
          rfl
         refine aX (i:=21) (N:=some 89) ?_
         refine pP (i:=22) (N:=none) #[true,true,true,true,true,true,true,true,true,true,true,true,true,true,true,true,true,true,true,true,true,true,true] rfl rfl (by kernel_rfl) (by decide) (fun K hK=>?_)
         have nY:=aa Km.out (i*32+j*2)
         have hf2:=aa Km.out (i*32+j*2+1)
         refine kY (w1:=?_) (by rfl) rfl ?_ ?_
         rotate_left
         ·go_simp
          rfl
         refine hK.out _ _ ?_
         clear hK K
         refine fV (by kernel_rfl) ?_
         have HA6:Aside0 (((w8.setCell ⟨w.heap.size,i*32+j*2,none⟩ (.int .i64 (T.cell i j - T.cell i c*(T.cell r j/T.cell r c)).num)).setCell ⟨w.heap.size,i*32+j*2+1,none⟩ (.int .i64 ((T.cell i j - T.cell i c*(T.cell r j/T.cell r c)).den:Int))).heap[w.heap.size]? =some (.cells ((CO.setIfInBounds (i*32+j*2) (.int .i64 (T.cell i j - T.cell i c*(T.cell r j/T.cell r c)).num)).setIfInBounds (i*32+j*2+1) (.int .i64 ((T.cell i j - T.cell i c*(T.cell r j/T.cell r c)).den:Int))) 62 (0,0))):=⟨heap_set (heap_set Km.out)⟩
         have ZN:Aside0 (((w8.setCell ⟨w.heap.size,i*32+j*2,none⟩ (.int .i64 (T.cell i j - T.cell i c*(T.cell r j/T.cell r c)).num)).setCell ⟨w.heap.size,i*32+j*2+1,none⟩ (.int .i64 ((T.cell i j - T.cell i c*(T.cell r j/T.cell r c)).den:Int))).heap[w.heap.size+1]? =some (.cells Try.zeroCells62 62 (0,0))):=⟨bn (bn a7M.out (by omega)) (by omega)⟩
         have HF6:Aside0 (((w8.setCell ⟨w.heap.size,i*32+j*2,none⟩ (.int .i64 (T.cell i j - T.cell i c*(T.cell r j/T.cell r c)).num)).setCell ⟨w.heap.size,i*32+j*2+1,none⟩ (.int .i64 ((T.cell i j - T.cell i c*(T.cell r j/T.cell r c)).den:Int))).heap[g]? =some (.cells #[.int .i64 (T.cell i c).num,.int .i64 ((T.cell i c).den:Int)] 26 (0,0))):=⟨bn (bn Qn.out (by have:=HSZ.out;omega)) (by have:=HSZ.out;omega)⟩
         have MS:Aside0 (Below w.heap.size w ((w8.setCell ⟨w.heap.size,i*32+j*2,none⟩ (.int .i64 (T.cell i j - T.cell i c*(T.cell r j/T.cell r c)).num)).setCell ⟨w.heap.size,i*32+j*2+1,none⟩ (.int .i64 ((T.cell i j - T.cell i c*(T.cell r j/T.cell r c)).den:Int)))):=⟨bC (bC uo.out (Nat.le_refl _)) (Nat.le_refl _)⟩
         clear Km a7M Qn uo HS h1 h2 h3 h4 nY hf2 e1 e2 e3 HQ1 Ql
         generalize ((w8.setCell ⟨w.heap.size,i*32+j*2,none⟩ (.int .i64 (T.cell i j - T.cell i c*(T.cell r j/T.cell r c)).num)).setCell ⟨w.heap.size,i*32+j*2+1,none⟩ (.int .i64 ((T.cell i j - T.cell i c*(T.cell r j/T.cell r c)).den:Int)))=w9 at*
         generalize ((CO.setIfInBounds (i*32+j*2) (.int .i64 (T.cell i j - T.cell i c*(T.cell r j/T.cell r c)).num)).setIfInBounds (i*32+j*2+1) (.int .i64 ((T.cell i j - T.cell i c*(T.cell r j/T.cell r c)).den:Int)))=AR at*
         go_wp2
         go_roundw
         case rel=>exact ⟨j+1,AR,by first|(rw [rR.out];done)|rfl|(simp;done),by have:=CP.out;omega,HA6,js,ZN,HF6,MS⟩
         case measure=>(try rw [rR.out]);have:=CP.out;simp [intOf];omega
        ·have Ns:j=N+1:=by omega
         have g7:decide ((j:Int)<=(N:Int))=false:=decide_eq_false (by omega)
         have g7n:decide (j<=N)=false:=decide_eq_false (by omega)
         rw [Ns] at HS
         have js:=Aside0.mk (a4A HS.out)
         clear Ns zS hj3 HS
         go_wp2
         go_roundw
         case rel=>exact ⟨i+1,CO,by first|(rw [nA.out];done)|rfl|(simp;done),hlt'.out,HA,js,dO,cr⟩
         case measure=>(try rw [nA.out]);have:=hlt'.out;simp [intOf];omega
    ·have g2:decide ((i:Int)<(mk:Int))=false:=decide_eq_false (by omega)
     have zR:decide (i<mk)=false:=decide_eq_false (by omega)
     have vO:i=m+K:=by omega
     rw [vO] at HS
     have HE:=Aside0.mk (a7E HS.out hr)
     have hb1:512+r<ir.size:=by rw [HS.out.size];omega
     have ZO:=HS.out.eO r hr
     rw [show (st T r c (m+K) 0).basis r=T.basis r from rfl] at ZO
     have h9:=br HA.out ZO
     have h10:=aa HA.out (512+r)
     have HL:Aside0 ((wr.setCell ⟨w.heap.size,512+r,none⟩ (.int .i64 (c:Int))).heap[w.heap.size]? =some (.cells (ir.setIfInBounds (512+r) (.int .i64 (c:Int))) 62 (0,0))):=⟨heap_set HA.out⟩
     have wR:Aside0 ((wr.setCell ⟨w.heap.size,512+r,none⟩ (.int .i64 (c:Int))).heap[w.heap.size+1]? =some (.cells Try.zeroCells62 62 (0,0))):=⟨bn dO.out (by omega)⟩
     have HBn:Aside0 (Below w.heap.size w (wr.setCell ⟨w.heap.size,512+r,none⟩ (.int .i64 (c:Int)))):=⟨bC cr.out (Nat.le_refl _)⟩
     generalize hCS:ir.setIfInBounds (512+r) (.int .i64 (c:Int))=CS at*
     have HI:Aside0 ((Try.prog.info? 62).map (·.size)=some CS.size):=⟨by rw [HE.out.size];kernel_rfl⟩
     have HZ:Aside0 ((Try.zeroCells62).size=CS.size):=⟨by rw [HE.out.size];kernel_rfl⟩
     clear vO hmk hlt hi ZO hCS hb1
     go_wp2_with (first|((with_reducible refine bp (N:=94) rfl ?_);refine wpList_load_row rfl 62 (.tmp 3) rfl w.heap.size rfl 62 CS (0,0) _ HL.out hu (by rfl) HI.out ?_)|((with_reducible refine iR (t:=62) (p:=6) rfl ?_);refine wpList_store_row rfl 62 (.tmp 6) (.tmp 94) rfl (w.heap.size+1) CS rfl rfl 62 Try.zeroCells62 wR.out HI.out HZ.out HE.out.one ?_))
     refine bodyPost_ret (results_cell_row rfl _ _ (w.heap.size+1) 62 CS (0,0) _ rfl (qV wR.out) hu (by rfl) HI.out) rfl ?_
     exact ⟨CS,rfl,HE.out,pH HBn.out (by omega)⟩
def kI (T:bq) (m r a b:Nat):Nat->Nat->Bool
 |_,0=>false
 |k,d+1=>if T.cell (m+k) b/T.cell r b - T.cell (m+k) a/T.cell r a=0 then kI T m r a b (k+1) d else decide (T.cell (m+k) b/T.cell r b - T.cell (m+k) a/T.cell r a<0)
theorem kZ.ratio {D C m N K:Nat} {T:bq} (h:kZ D C m N K T) {r k j:Nat} (hr:r<m) (hk:k<K) (hj:j<N) (hp:T.cell r j≠0):Qu C D (T.cell (m+k) j/T.cell r j):=by
 obtain ⟨d,h0,h1,h2,h3,_⟩:=h.ex
 obtain ⟨a,e,b⟩:=h3 k hk j hj
 obtain ⟨a',e',b'⟩:=h2 r hr j (Nat.le_of_lt hj)
 have hd:(d:Rat)≠0:=IC h0
 refine ⟨a,a',?_,?_,b,b'⟩
 ·intro h3;rw [h3] at e';apply hp
  have:T.cell r j*(d:Rat)=0:=e'
  grind
 ·rw [<-e,<-e'];grind
theorem a2k {B m N K r i a:Nat} {T:bq} {cs:Array Value} (HR:gf cs m N K T) (hik:i<m+K) (aN:a<=N) (CQ:r<m+K) (w':World) (h:w'.heap[B]? =some (.cells cs 62 (0,0))):w'.cell? ⟨B,528,none⟩=some (.int .i64 (m:Int))/\w'.cell? ⟨B,i*32+a*2,none⟩=some (.int .i64 (T.cell i a).num)/\w'.cell? ⟨B,i*32+a*2+1,none⟩=some (.int .i64 ((T.cell i a).den:Int))/\w'.cell? ⟨B,r*32+a*2,none⟩=some (.int .i64 (T.cell r a).num)/\w'.cell? ⟨B,r*32+a*2+1,none⟩=some (.int .i64 ((T.cell r a).den:Int)):=
 ⟨br h HR.rows,br h (HR.num i a hik aN),br h (HR.den i a hik aN),br h (HR.num r a CQ aN),br h (HR.den r a CQ aN)⟩
theorem yx {q:Rat}:decide (jr q<0)=decide (q<0):=by
 unfold jr
 by_cases h1:q<0
 ·rw [if_pos h1,decide_eq_true h1];rfl
 ·rw [if_neg h1,decide_eq_false h1]
  by_cases h2:0<q
  ·rw [if_pos h2];rfl
  ·rw [if_neg h2];rfl
set_option maxHeartbeats 1600000 in
set_option maxRecDepth 100000 in
theorem Nv (D C B m N K r a b:Nat) (T:bq) (w:World) (hT:tv w B m N K T) (hF:kZ D C m N K T) (hcd:C*D+C*D<=1000000) (hr:r<m) (ha:a<N) (hb:b<N) (hpa:T.cell r a≠0) (hpb:T.cell r b≠0):
 Calls Try.prog 56 #[.pointer (some ⟨B,0,none⟩),.int .i64 (r:Int),.int .i64 (a:Int),.int .i64 (b:Int)] w fun e w'=>e= .returned (.bool (kI T m r a b 0 K))/\Below w.heap.size w w':=by
 obtain ⟨cs,hB,hR⟩:=hT
 have hu:=Try.underlying62
 have hrows:=br hB hR.rows
 have Nq:=br hB hR.costs
 have HR:=Aside0.mk hR
 have HB:=Aside0.mk hB
 clear hR hB
 go_enter Try.func56,Try.ntmps56
 go_wp2
 repeat (go_quiet (fail);try go_wp2)
 go_loopw [17] (fun kv wr=>∃k:Nat,kv= .int .i64 (k:Int)/\k<=K/\Aside0 (kI T m r a b 0 K=kI T m r a b k (K - k))/\Below w.heap.size w wr) (fun kv _=>K -(intOf kv).toNat)
 case atStart=>exact ⟨0,rfl,Nat.zero_le _,⟨rfl⟩,by repeat (first|exact Below.refl _ _|apply bB)⟩
 case round=>
  obtain ⟨k,rfl,hk,HE,hbl⟩:=hrel
  have CN:wr.heap[B]? =some (.cells cs 62 (0,0)):=(hbl.block _ (Array.getElem?_eq_some_iff.1 HB.out).1).trans HB.out
  by_cases hlt:k<K
  ·obtain ⟨i,hi⟩:∃i,i=m+k:=⟨_,rfl⟩
   have hik:i<m+K:=by omega
   have aN:a<=N:=Nat.le_of_lt ha
   have bN:b<=N:=Nat.le_of_lt hb
   have CQ:r<m+K:=by omega
   have hw:IntKind.i64.wrap ((m:Int)+(k:Int))=(i:Int):=by rw [hi];have:=HR.out.hm;rw [cZ,cO (by omega) (by omega)];rfl
   have hra:Qu C D (T.cell i a/T.cell r a):=by rw [hi];exact hF.ratio hr hlt ha hpa
   have hrb:Qu C D (T.cell i b/T.cell r b):=by rw [hi];exact hF.ratio hr hlt hb hpb
   have hD1:=hF.d1
   have qq:=hF.c1
   have hDD:=hF.dd
   have hX:∀n,n<=100000->n*D<=100000000:=fun n hn=>Nat.le_trans (Nat.mul_le_mul hn hD1) (by decide)
   have hY:∀n,n<=100000->D*n<=100000000:=fun n hn=>by rw [Nat.mul_comm];exact hX n hn
   have b4X:=hX 100000 (by omega)
   have b4Y:=hY 100000 (by omega)
   have nW:=Aside0.mk (fun W=>AP W (Qu.sz (hF.any hik aN)) (Qu.sz (hF.any CQ aN)) (by omega) (by omega) hpa (Qu.ok hra (by omega) (by omega)))
   have tT:=Aside0.mk (fun W=>AP W (Qu.sz (hF.any hik bN)) (Qu.sz (hF.any CQ bN)) (by omega) (by omega) hpb (Qu.ok hrb (by omega) (by omega)))
   have zT:=Aside0.mk (fun W=>Jb W (Qu.sz hrb) (Qu.sz hra) (by omega) (by omega) (Qu.ok (Qu.sub hrb hra) hcd hDD))
   have WO:=Aside0.mk (fun W=>vL (T.cell i b/T.cell r b - T.cell i a/T.cell r a) W)
   have FO:Aside0 (kI T m r a b 0 K=if T.cell i b/T.cell r b - T.cell i a/T.cell r a=0 then kI T m r a b (k+1) (K -(k+1)) else decide (T.cell i b/T.cell r b - T.cell i a/T.cell r a<0)):=⟨by
    rw [HE.out,show K - k=(K -(k+1))+1 by omega,hi];rfl⟩
   have nA:Aside0 (wrap64 ((k:Int)+1)=((k+1:Nat):Int)):=⟨eR (by have:=HR.out.hm;omega)⟩
   have b0:(0:Int)<=(i:Int):=by omega
   have b1:(i:Int)<16:=by have:=HR.out.hm;omega
   have b2:(0:Int)<=(a:Int):=by omega
   have b3:(a:Int)<16:=by have:=HR.out.hN;omega
   have b4:(0:Int)<=(b:Int):=by omega
   have b5:(b:Int)<16:=by have:=HR.out.hN;omega
   have b6:(0:Int)<=(r:Int):=by omega
   have b7:(r:Int)<16:=by have:=HR.out.hm;omega
   have cr:=Aside0.mk CN
   have vM:=Aside0.mk hbl
   clear hbl CN hrows Nq hi HE hra hrb hD1 qq hDD hF hcd hpa hpb ha hb hX hY b4X b4Y
   have hm:=Np
   have hm2:=Jc
   have hm3:=yw
   go_wp2
   go_cut [10] from 20 to 42 (fun s_ wx=>∃g,s_= .pointer (some ⟨g,0,none⟩)/\Aside0 (wx.heap[B]? =some (.cells cs 62 (0,0)))/\Aside0 (wx.heap[g]? =some (.cells #[.int .i64 (T.cell i a/T.cell r a).num,.int .i64 ((T.cell i a/T.cell r a).den:Int)] 26 (0,0)))/\Aside0 (Below w.heap.size w wx))
   case first=>
    have HG:Aside0 (B<wr.heap.size):=⟨aZ cr.out⟩
    have HS:=Aside0.mk (a2k (B:=B) HR.out hik aN CQ)
    go_region_held3 (fun w'=>w'.cell? ⟨B,528,none⟩=some (.int .i64 (m:Int))/\w'.cell? ⟨B,i*32+a*2,none⟩=some (.int .i64 (T.cell i a).num)/\w'.cell? ⟨B,i*32+a*2+1,none⟩=some (.int .i64 ((T.cell i a).den:Int))/\w'.cell? ⟨B,r*32+a*2,none⟩=some (.int .i64 (T.cell r a).num)/\w'.cell? ⟨B,r*32+a*2+1,none⟩=some (.int .i64 ((T.cell r a).den:Int))) (first|(with_reducible exact CR.out)|exact HS.out _ (by repeat (first|exact cr.out|exact eL.out|refine aj ?_|refine ak ?_ _|refine bn ?_ (Nat.ne_of_lt HG.out)))) (first|(go_at_call 86;(with_reducible refine (nW.out _).mono ?_);rintro e w1 ⟨rfl,hb1⟩;(first|(have HZ:Aside0 (w1.heap[wr.heap.size]? =some (.cells #[.int .i64 0,.int .i64 0] 26 (0,0))):=⟨ai (di wr.drew (.cells #[.int .i64 0,.int .i64 0] 26)) hb1⟩;have hz0:w1.cell? ⟨wr.heap.size,0,none⟩=some (.int .i64 0):=(af HZ.out 0).trans rfl;have hz1:w1.cell? ⟨wr.heap.size,1,none⟩=some (.int .i64 0):=(af HZ.out 1).trans rfl;have hz2:=aa HZ.out 0;have hz3:=aa HZ.out 1;have hb2:Below wr.heap.size wr w1:=ah (bA (bB (Below.refl _ _)) _) hb1)|(have hb2:Below wr.heap.size wr w1:=ah (bB (Below.refl _ _)) hb1));have eL:=Aside0.mk (ai cr.out hb2);have wR:=Aside0.mk (ah vM.out hb2);have CR:=Aside0.mk (HS.out _ eL.out);have WQ:Aside0 (w.heap.size<=wr.heap.size):=⟨vM.out.size⟩;have HW2:Aside0 (wr.heap.size<=w1.heap.size):=⟨hb2.size⟩;clear hb2 hb1))
    all_goals
     go_wp2_with fail
     go_meet
     case rel=>first|exact ⟨_,rfl,⟨ak eL.out _⟩,⟨di _ _⟩,⟨bA wR.out _⟩⟩|exact ⟨_,rfl,⟨bn (bn eL.out (Nat.ne_of_lt HG.out)) (Nat.ne_of_lt HG.out)⟩,⟨aK (aK HZ.out 0 (.int .i64 (T.cell i a/T.cell r a).num) (cs':= #[.int .i64 (T.cell i a/T.cell r a).num,.int .i64 0]) rfl) 1 (.int .i64 ((T.cell i a/T.cell r a).den:Int)) (cs':= #[.int .i64 (T.cell i a/T.cell r a).num,.int .i64 ((T.cell i a/T.cell r a).den:Int)]) rfl⟩,⟨bC (bC wR.out WQ.out) WQ.out⟩⟩
   case rest=>
   obtain ⟨g10,rfl,vF,FQ,ZP⟩:=hcut
   generalize wc=jY at*
   clear cr vM nW
   go_wp2
   go_cut [11] from 43 to 65 (fun s_ wx=>∃g,s_= .pointer (some ⟨g,0,none⟩)/\Aside0 (wx.heap[B]? =some (.cells cs 62 (0,0)))/\Aside0 (wx.heap[g]? =some (.cells #[.int .i64 (T.cell i b/T.cell r b).num,.int .i64 ((T.cell i b/T.cell r b).den:Int)] 26 (0,0)))/\Aside0 (Below w.heap.size w wx)/\Aside0 (wx.heap[g10]? =some (.cells #[.int .i64 (T.cell i a/T.cell r a).num,.int .i64 ((T.cell i a/T.cell r a).den:Int)] 26 (0,0))))
   case first=>
    have HG:Aside0 (B<jY.heap.size):=⟨aZ vF.out⟩
    have HS:=Aside0.mk (a2k (B:=B) HR.out hik bN CQ)
    go_region_held3 (fun w'=>w'.cell? ⟨B,528,none⟩=some (.int .i64 (m:Int))/\w'.cell? ⟨B,i*32+b*2,none⟩=some (.int .i64 (T.cell i b).num)/\w'.cell? ⟨B,i*32+b*2+1,none⟩=some (.int .i64 ((T.cell i b).den:Int))/\w'.cell? ⟨B,r*32+b*2,none⟩=some (.int .i64 (T.cell r b).num)/\w'.cell? ⟨B,r*32+b*2+1,none⟩=some (.int .i64 ((T.cell r b).den:Int))) (first|(with_reducible exact CR.out)|exact HS.out _ (by repeat (first|exact vF.out|exact eL.out|refine aj ?_|refine ak ?_ _|refine bn ?_ (Nat.ne_of_lt HG.out)))) (first|(go_at_call 86;(with_reducible refine (tT.out _).mono ?_);rintro e w1 ⟨rfl,hb1⟩;(first|(have HZ:Aside0 (w1.heap[jY.heap.size]? =some (.cells #[.int .i64 0,.int .i64 0] 26 (0,0))):=⟨ai (di jY.drew (.cells #[.int .i64 0,.int .i64 0] 26)) hb1⟩;have hz0:w1.cell? ⟨jY.heap.size,0,none⟩=some (.int .i64 0):=(af HZ.out 0).trans rfl;have hz1:w1.cell? ⟨jY.heap.size,1,none⟩=some (.int .i64 0):=(af HZ.out 1).trans rfl;have hz2:=aa HZ.out 0;have hz3:=aa HZ.out 1;have hb2:Below jY.heap.size jY w1:=ah (bA (bB (Below.refl _ _)) _) hb1)|(have hb2:Below jY.heap.size jY w1:=ah (bB (Below.refl _ _)) hb1));have eL:=Aside0.mk (ai vF.out hb2);have wR:=Aside0.mk (ah ZP.out hb2);have CR:=Aside0.mk (HS.out _ eL.out);have WQ:Aside0 (w.heap.size<=jY.heap.size):=⟨ZP.out.size⟩;have HW2:Aside0 (jY.heap.size<=w1.heap.size):=⟨hb2.size⟩;have a2n:=Aside0.mk (ai FQ.out hb2);have a2o:Aside0 (g10<jY.heap.size):=⟨aZ FQ.out⟩;clear hb2 hb1))
    all_goals
     go_wp2_with fail
     go_meet
     case rel=>first|exact ⟨_,rfl,⟨ak eL.out _⟩,⟨di _ _⟩,⟨bA wR.out _⟩,⟨ak a2n.out _⟩⟩|exact ⟨_,rfl,⟨bn (bn eL.out (Nat.ne_of_lt HG.out)) (Nat.ne_of_lt HG.out)⟩,⟨aK (aK HZ.out 0 (.int .i64 (T.cell i b/T.cell r b).num) (cs':= #[.int .i64 (T.cell i b/T.cell r b).num,.int .i64 0]) rfl) 1 (.int .i64 ((T.cell i b/T.cell r b).den:Int)) (cs':= #[.int .i64 (T.cell i b/T.cell r b).num,.int .i64 ((T.cell i b/T.cell r b).den:Int)]) rfl⟩,⟨bC (bC wR.out WQ.out) WQ.out⟩,⟨bn (bn a2n.out (Nat.ne_of_lt a2o.out)) (Nat.ne_of_lt a2o.out)⟩⟩
   case rest=>
   obtain ⟨g11,rfl,Zn,a7N,a7O,FQ⟩:=hcut
   generalize wc=ja at*
   have hx1:=(af a7N.out 0).trans rfl
   have hx2:=(af a7N.out 1).trans rfl
   have hx3:=(af FQ.out 0).trans rfl
   have FR:=(af FQ.out 1).trans rfl
   clear vF ZP tT
   by_cases hz:T.cell i b/T.cell r b - T.cell i a/T.cell r a=0
   ·have g4:(jr (T.cell i b/T.cell r b - T.cell i a/T.cell r a) !=0)=false:=by rw [qU.2 hz];rfl
    have AQ:Aside0 (kI T m r a b 0 K=kI T m r a b (k+1) (K -(k+1))):=⟨by rw [FO.out,if_pos hz]⟩
    clear hz FO
    go_wp2_with (first|(go_at_call 85;(with_reducible refine (zT.out _).mono ?_);rintro e w2 ⟨rfl,hb2⟩;have WR:=Aside0.mk (ah a7O.out hb2);clear hb2)|(go_at_call 87;(with_reducible refine (WO.out _).mono ?_);rintro e w3 ⟨rfl,hb3⟩;have HL3:=Aside0.mk (ah WR.out hb3);clear hb3))
    go_roundw
    case rel=>exact ⟨k+1,by first|(rw [nA.out];done)|rfl|(simp;done),by omega,AQ,HL3.out⟩
    case measure=>(try rw [nA.out]);simp [intOf];omega
   ·have g4:(jr (T.cell i b/T.cell r b - T.cell i a/T.cell r a) !=0)=true:=bne_iff_ne.mpr (fun h=>hz (qU.1 h))
    have AQ:Aside0 (kI T m r a b 0 K=decide (jr (T.cell i b/T.cell r b - T.cell i a/T.cell r a)<0)):=⟨by rw [FO.out,if_neg hz,yx]⟩
    clear hz FO
    go_wp2_with (first|(go_at_call 85;(with_reducible refine (zT.out _).mono ?_);rintro e w2 ⟨rfl,hb2⟩;have WR:=Aside0.mk (ah a7O.out hb2);clear hb2)|(go_at_call 87;(with_reducible refine (WO.out _).mono ?_);rintro e w3 ⟨rfl,hb3⟩;have HL3:=Aside0.mk (ah WR.out hb3);clear hb3))
    go_ret
    exact ⟨by rw [AQ.out];first|done|rfl,HL3.out⟩
  ·have WK:k=K:=by omega
   have AQ:Aside0 (kI T m r a b 0 K=false):=⟨by rw [HE.out,WK,Nat.sub_self];rfl⟩
   subst WK
   have vM:=Aside0.mk hbl
   clear HE hbl CN hF hcd hpa hpb
   go_wp2
   go_ret
   exact ⟨by rw [AQ.out];first|done|rfl,vM.out⟩
theorem FT (T:bq) (m c:Nat):∀d k,(lO T m c k d<0↔∃i,k<=i/\i<k+d/\(∀j,k<=j->j<i->T.cell (m+j) c=0)/\T.cell (m+i) c<0)
 |0,k=>by simp only [lO];constructor
          ·intro h;omega
          ·rintro ⟨i,h1,h2,_⟩;omega
 |d+1,k=>by
  simp only [lO]
  by_cases h:T.cell (m+k) c=0
  ·rw [if_pos h,FT T m c d (k+1)]
   constructor
   ·rintro ⟨i,h1,h2,h3,h4⟩
    exact ⟨i,by omega,by omega,fun j hj hji=>by
     by_cases e:j=k
     ·rw [e];exact h
     ·exact h3 j (by omega) hji,h4⟩
   ·rintro ⟨i,h1,h2,h3,h4⟩
    have:i≠k:=fun e=>by rw [e,h] at h4;grind
    exact ⟨i,by omega,by omega,fun j hj hji=>h3 j (by omega) hji,h4⟩
  ·rw [if_neg h]
   constructor
   ·intro hs
    refine ⟨k,Nat.le_refl _,by omega,fun j _ _=>by omega,?_⟩
    unfold jr at hs
    by_cases h1:T.cell (m+k) c<0
    ·exact h1
    ·rw [if_neg h1] at hs;split at hs<;>omega
   ·rintro ⟨i,h1,h2,h3,h4⟩
    have e:i=k:=by
     by_cases e:i=k
     ·exact e
     ·exact absurd (h3 k (Nat.le_refl _) (by omega)) h
    rw [e] at h4
    unfold jr;rw [if_pos h4];omega
theorem Kn {T:bq} {m c K:Nat}:lO T m c 0 K<0↔eD K (T.cost m c):=by
 rw [FT]
 unfold eD bq.cost
 constructor
 ·rintro ⟨i,_,h2,h3,h4⟩;exact ⟨i,by omega,fun j hj=>h3 j (Nat.zero_le _) hj,h4⟩
 ·rintro ⟨i,h2,h3,h4⟩;exact ⟨i,Nat.zero_le _,by omega,fun j _ hj=>h3 j hj,h4⟩
theorem FU (T:bq) (m r a b:Nat):∀d k,(kI T m r a b k d=true↔∃i,k<=i/\i<k+d/\(∀j,k<=j->j<i->T.cell (m+j) b/T.cell r b - T.cell (m+j) a/T.cell r a=0)/\T.cell (m+i) b/T.cell r b - T.cell (m+i) a/T.cell r a<0)
 |0,k=>by simp only [kI];constructor
          ·intro h;exact absurd h (by decide)
          ·rintro ⟨i,h1,h2,_⟩;omega
 |d+1,k=>by
  simp only [kI]
  by_cases h:T.cell (m+k) b/T.cell r b - T.cell (m+k) a/T.cell r a=0
  ·rw [if_pos h,FU T m r a b d (k+1)]
   constructor
   ·rintro ⟨i,h1,h2,h3,h4⟩
    exact ⟨i,by omega,by omega,fun j hj hji=>by
     by_cases e:j=k
     ·rw [e];exact h
     ·exact h3 j (by omega) hji,h4⟩
   ·rintro ⟨i,h1,h2,h3,h4⟩
    have:i≠k:=fun e=>by rw [e,h] at h4;grind
    exact ⟨i,by omega,by omega,fun j hj hji=>h3 j (by omega) hji,h4⟩
  ·rw [if_neg h]
   constructor
   ·intro hs
    exact ⟨k,Nat.le_refl _,by omega,fun j _ _=>by omega,of_decide_eq_true hs⟩
   ·rintro ⟨i,h1,h2,h3,h4⟩
    have e:i=k:=by
     by_cases e:i=k
     ·exact e
     ·exact absurd (h3 k (Nat.le_refl _) (by omega)) h
    rw [e] at h4
    exact decide_eq_true h4
def rat (T:bq) (m r j:Nat):Nat->Rat:=fun k=>T.cell (m+k) j/T.cell r j
theorem Ko {T:bq} {m r a b K:Nat}:kI T m r a b 0 K=true↔eD K (fun k=>rat T m r b k - rat T m r a k):=by
 rw [FU]
 unfold eD rat
 constructor
 ·rintro ⟨i,_,h2,h3,h4⟩;exact ⟨i,by omega,fun j hj=>h3 j (Nat.zero_le _) hj,h4⟩
 ·rintro ⟨i,h2,h3,h4⟩;exact ⟨i,Nat.zero_le _,by omega,fun j _ hj=>h3 j hj,h4⟩
def Reach (St:bq->bq->Prop) (T0:bq) (n:Nat) (T:bq):Prop:=∃seq:Nat->bq,seq 0=T0/\seq n=T/\∀i,i<n->St (seq i) (seq (i+1))
theorem Reach.zero (St:bq->bq->Prop) (T0:bq):Reach St T0 0 T0:=⟨fun _=>T0,rfl,rfl,fun i hi=>by omega⟩
theorem Reach.next {St:bq->bq->Prop} {T0 T T':bq} {n:Nat} (h:Reach St T0 n T) (s:St T T'):Reach St T0 (n+1) T':=by
 obtain ⟨seq,h0,hn,hs⟩:=h
 refine ⟨fun i=>if i=n+1 then T' else seq i,by show (if 0=n+1 then _ else _)=_;rw [if_neg (by omega)];exact h0,by show (if n+1=n+1 then _ else _)=_;rw [if_pos rfl],fun i hi=>?_⟩
 show St (if i=n+1 then _ else _) (if i+1=n+1 then _ else _)
 rw [if_neg (by omega)]
 by_cases e:i=n
 ·rw [if_pos (by omega),e,hn];exact s
 ·rw [if_neg (by omega)];exact hs i (by omega)
structure Road (D C L m N K:Nat) (St:bq->bq->Prop) (Inv:bq->Prop) (T0:bq):Prop where
 start:Inv T0
 step:∀T T',Inv T->St T T'->Inv T'
 fine:∀T,Inv T->kZ D C m N K T
 ends:∀seq:Nat->bq,seq 0=T0->(∀i,i<L->St (seq i) (seq (i+1)))->False
theorem Road.few {D C L m N K n:Nat} {St:bq->bq->Prop} {Inv:bq->Prop} {T0 T:bq} (h:Road D C L m N K St Inv T0) (hr:Reach St T0 n T):n<L:=by
 obtain ⟨seq,h0,_,hs⟩:=hr
 by_cases hn:n<L
 ·exact hn
 ·exact (h.ends seq h0 (fun i hi=>hs i (by omega))).elim
def jo (T:bq) (N c r:Nat) (bv:Int):Prop:=
 (bv= -1/\∀i,i<r->¬0<T.cell i c)∨∃b:Nat,bv=b/\b<r/\0<T.cell b c/\∀i,i<r->0<T.cell i c->(T.cell b N/T.cell b c<T.cell i N/T.cell i c∨(T.cell b N/T.cell b c=T.cell i N/T.cell i c/\T.basis b<=T.basis i))
theorem jo.zero (T:bq) (N c:Nat):jo T N c 0 (-1):= .inl ⟨rfl,fun i hi=>by omega⟩
theorem jo.skip {T:bq} {N c r:Nat} {bv:Int} (h:jo T N c r bv) (hp:¬0<T.cell r c):jo T N c (r+1) bv:=by
 rcases h with ⟨e,h⟩|⟨b,e,hb,h1,h2⟩
 ·refine .inl ⟨e,fun i hi=>?_⟩
  by_cases e2:i=r
  ·rw [e2];exact hp
  ·exact h i (by omega)
 ·refine .inr ⟨b,e,by omega,h1,fun i hi pI=>?_⟩
  by_cases e2:i=r
  ·rw [e2] at pI;exact absurd pI hp
  ·exact h2 i (by omega) pI
theorem jo.first {T:bq} {N c r:Nat} (h:jo T N c r (-1)) (hp:0<T.cell r c):jo T N c (r+1) (r:Int):=by
 rcases h with ⟨e,h⟩|⟨b,e,hb,h1,h2⟩
 ·refine .inr ⟨r,rfl,by omega,hp,fun i hi pI=>?_⟩
  by_cases e2:i=r
  ·rw [e2];exact .inr ⟨rfl,Nat.le_refl _⟩
  ·exact absurd pI (h i (by omega))
 ·omega
theorem jo.keep {T:bq} {N c r b:Nat} (h:jo T N c r (b:Int)) (hk:T.cell b N/T.cell b c<T.cell r N/T.cell r c∨(T.cell b N/T.cell b c=T.cell r N/T.cell r c/\T.basis b<=T.basis r)):jo T N c (r+1) (b:Int):=by
 rcases h with ⟨e,h⟩|⟨b',e,hb,h1,h2⟩
 ·omega
 ·have e2:b'=b:=by omega
  subst e2
  refine .inr ⟨b',e,by omega,h1,fun i hi pI=>?_⟩
  by_cases e2:i=r
  ·rw [e2];exact hk
  ·exact h2 i (by omega) pI
theorem jo.take {T:bq} {N c r b:Nat} (h:jo T N c r (b:Int)) (hp:0<T.cell r c) (hk:T.cell r N/T.cell r c<T.cell b N/T.cell b c∨(T.cell r N/T.cell r c=T.cell b N/T.cell b c/\T.basis r<=T.basis b)):jo T N c (r+1) (r:Int):=by
 rcases h with ⟨e,h⟩|⟨b',e,hb,h1,h2⟩
 ·omega
 ·have e2:b'=b:=by omega
  subst e2
  refine .inr ⟨r,rfl,by omega,hp,fun i hi pI=>?_⟩
  by_cases e2:i=r
  ·rw [e2];exact .inr ⟨rfl,Nat.le_refl _⟩
  ·have h3:=h2 i (by omega) pI
   rcases hk with hk|⟨hk,hk2⟩
   ·rcases h3 with h3|⟨h3,h4⟩
    ·exact .inl (Std.lt_trans hk h3)
    ·exact .inl (by rw [<-h3];exact hk)
   ·rcases h3 with h3|⟨h3,h4⟩
    ·exact .inl (by rw [hk];exact h3)
    ·exact .inr ⟨hk.trans h3,Nat.le_trans hk2 h4⟩
theorem jo.index {T:bq} {N c r:Nat} {bv:Int} (h:jo T N c r bv) (hne:bv≠ -1):∃b:Nat,bv=b/\b<r/\0<T.cell b c:=by
 rcases h with ⟨e,h⟩|⟨b',e,hb,h1,h2⟩
 ·exact absurd e hne
 ·exact ⟨b',e,hb,h1⟩
def Td (T:bq) (N i:Nat) (rv:Int):Prop:=
 (rv= -1/\∀j,j<i->¬T.cell j N<0)∨∃r:Nat,rv=r/\r<i/\T.cell r N<0
def gV (T:bq) (m K r c:Nat) (bv:Int):Prop:=
 (bv= -1/\∀j,j<c->¬T.cell r j<0)∨∃b:Nat,bv=b/\b<c/\T.cell r b<0/\∀j,j<c->T.cell r j<0->¬eD K (fun k=>rat T m r b k - rat T m r j k)
theorem gV.zero (T:bq) (m K r:Nat):gV T m K r 0 (-1):= .inl ⟨rfl,fun i hi=>by omega⟩
theorem gV.skip {T:bq} {m K r c:Nat} {bv:Int} (h:gV T m K r c bv) (hp:¬T.cell r c<0):gV T m K r (c+1) bv:=by
 rcases h with ⟨e,h⟩|⟨b,e,hb,h1,h2⟩
 ·refine .inl ⟨e,fun i hi=>?_⟩
  by_cases e2:i=c
  ·rw [e2];exact hp
  ·exact h i (by omega)
 ·refine .inr ⟨b,e,by omega,h1,fun i hi pI=>?_⟩
  by_cases e2:i=c
  ·rw [e2] at pI;exact absurd pI hp
  ·exact h2 i (by omega) pI
theorem gV.first {T:bq} {m K r c:Nat} (h:gV T m K r c (-1)) (hp:T.cell r c<0):gV T m K r (c+1) (c:Int):=by
 rcases h with ⟨e,h⟩|⟨b,e,hb,h1,h2⟩
 ·refine .inr ⟨c,rfl,by omega,hp,fun i hi pI=>?_⟩
  by_cases e2:i=c
  ·rw [e2];exact NN.congr NN.zero (fun k _=>by show (0:Rat)=_;grind)
  ·exact absurd pI (h i (by omega))
 ·omega
theorem gV.keep {T:bq} {m K r c b:Nat} (h:gV T m K r c (b:Int)) (hk:kI T m r c b 0 K=false):gV T m K r (c+1) (b:Int):=by
 have hk':¬eD K (fun k=>rat T m r b k - rat T m r c k):=fun hn=>by rw [Ko.2 hn] at hk;exact absurd hk (by decide)
 rcases h with ⟨e,h⟩|⟨b',e,hb,h1,h2⟩
 ·omega
 ·have e2:b'=b:=by omega
  subst e2
  refine .inr ⟨b',e,by omega,h1,fun i hi pI=>?_⟩
  by_cases e2:i=c
  ·rw [e2];exact hk'
  ·exact h2 i (by omega) pI
theorem gV.take {T:bq} {m K r c b:Nat} (h:gV T m K r c (b:Int)) (hp:T.cell r c<0) (hk:kI T m r c b 0 K=true):gV T m K r (c+1) (c:Int):=by
 have hk':=Ko.1 hk
 rcases h with ⟨e,h⟩|⟨b',e,hb,h1,h2⟩
 ·omega
 ·have e2:b'=b:=by omega
  subst e2
  refine .inr ⟨c,rfl,by omega,hp,fun i hi pI=>?_⟩
  by_cases e2:i=c
  ·rw [e2];exact NN.congr NN.zero (fun k _=>by show (0:Rat)=_;grind)
  ·have h3:=h2 i (by omega) pI
   exact gU.2 (.inr ((hk'.neg.add h3).congr (fun k _=>by grind)))
theorem gV.index {T:bq} {m K r c:Nat} {bv:Int} (h:gV T m K r c bv) (hne:bv≠ -1):∃b:Nat,bv=b/\b<c/\T.cell r b<0:=by
 rcases h with ⟨e,h⟩|⟨b',e,hb,h1,h2⟩
 ·exact absurd e hne
 ·exact ⟨b',e,hb,h1⟩
structure tU (cs:Array Value) (n:Nat) (q:Nat->Int×Int):Prop where
 size:cs.size=n*2
 num:∀j,j<n->cs[j*2]? =some (.int .i64 (q j).1)
 den:∀j,j<n->cs[j*2+1]? =some (.int .i64 (q j).2)
theorem tU.put {cs:Array Value} {n:Nat} {q:Nat->Int×Int} (h:tU cs n q) {i:Nat} (hi:i<n) (p:Int×Int):
 tU ((cs.setIfInBounds (i*2) (.int .i64 p.1)).setIfInBounds (i*2+1) (.int .i64 p.2)) n (fun j=>if j=i then p else q j):=by
 have hs:=h.size
 refine ⟨by simp [hs],fun j hj=>?_,fun j hj=>?_⟩
 ·by_cases e:j=i
  ·subst e
   rw [Array.getElem?_setIfInBounds_ne (by omega),Array.getElem?_setIfInBounds,if_pos rfl,if_pos (by omega),if_pos rfl]
  ·rw [Array.getElem?_setIfInBounds_ne (by omega),Array.getElem?_setIfInBounds_ne (by omega),h.num j hj,if_neg e]
 ·by_cases e:j=i
  ·subst e
   rw [Array.getElem?_setIfInBounds,if_pos rfl,if_pos (by simp;omega),if_pos rfl]
  ·rw [Array.getElem?_setIfInBounds_ne (by omega),Array.getElem?_setIfInBounds_ne (by omega),h.den j hj,if_neg e]
theorem tU.congr {cs:Array Value} {n:Nat} {q q':Nat->Int×Int} (h:tU cs n q) (e:∀j,j<n->q' j=q j):tU cs n q':=
 ⟨h.size,fun j hj=>by rw [e j hj];exact h.num j hj,fun j hj=>by rw [e j hj];exact h.den j hj⟩
def mH (n:Nat):Array Value:=(List.replicate (n*2) (Value.int .i64 0)).toArray
theorem Te (n:Nat):tU (mH n) n (fun _=>(0,0)):=by
 refine ⟨by simp [mH],fun j hj=>?_,fun j hj=>?_⟩
 ·show (List.replicate (n*2) (Value.int .i64 0)).toArray[j*2]? =_
  rw [List.getElem?_toArray,List.getElem?_replicate,if_pos (by omega)]
 ·show (List.replicate (n*2) (Value.int .i64 0)).toArray[j*2+1]? =_
  rw [List.getElem?_toArray,List.getElem?_replicate,if_pos (by omega)]
theorem a7Q (n:Nat) (h:n<=1048576) (w:World):(Instr.makeSlice 27 (.int .i64 (n:Int)) (.int .i64 (n:Int))).run Try.prog w= .ok (.slice (some ⟨w.heap.size,0,none⟩) n n) (w.alloc (.cells (mH n) 26)):=by
 obtain ⟨i,hi,hz,hs,hb⟩:=info_parts (show (Try.prog.info? 26).map (fun i=>(i.zero,i.size,i.bytes))=some (some (.agg #[.int .i64 0,.int .i64 0]),2,16) by kernel_rfl)
 have hr:=run_make (P:=Try.prog) w 27 26 i (.agg #[.int .i64 0,.int .i64 0]) Try.underlying27 hi hz .i64 .i64 n n (by omega) (by omega) (by rw [hb];omega) (by omega)
 have e:(Value.agg #[.int .i64 0,.int .i64 0]).cells= #[.int .i64 0,.int .i64 0]:=rfl
 have e2:madeCells #[Value.int .i64 0,Value.int .i64 0] (n*2)=mH n:=by
  apply Array.ext
  ·rw [size_madeCells];simp [mH]
  ·intro i h1 h2
   simp only [madeCells,mH,Array.getElem_ofFn,List.getElem_toArray,List.getElem_replicate]
   have:i%2=0∨i%2=1:=by omega
   rcases this with h|h<;>simp [h]
 rw [e] at hr
 simpa [hs,e2] using hr
def xq (T:bq) (N:Nat):Nat->Nat->Rat
 |0,_=>0
 |r+1,j=>if T.basis r=j then T.cell r N else xq T N r j
def sm (T:bq) (N n:Nat):Nat->Rat
 |0=>0
 |r+1=>if T.basis r<n then sm T N n r+T.cell r N else sm T N n r
set_option maxHeartbeats 2000000 in
set_option maxRecDepth 100000 in
theorem CT (m N K n:Nat) (T:bq) (cs:Array Value) (w:World) (hR:gf cs m N K T) (hn:n<16) (hb:∀r,r<m->T.basis r<16) (ho:∀r,r<m->Ok (T.cell r N)) (hs:∀r,r<=m->Ok (sm T N n r)):
 Calls Try.prog 32 #[.agg cs,.int .i64 (n:Int)] w fun e w'=>∃g cs',e= .returned (.tuple #[.slice (some ⟨g,0,none⟩) n n,V (sm T N n m)])/\w'.heap[g]? =some (.cells cs' 26 (0,0))/\tU cs' n (fun j=>((xq T N m j).num,((xq T N m j).den:Int)))/\w.heap.size<=g/\Below w.heap.size w w':=by
 have hu:=Try.underlying62
 have HR:=Aside0.mk hR
 have HBs:=Aside0.mk hb
 have HOk:=Aside0.mk ho
 have HSm:=Aside0.mk hs
 have hmk:=a7Q n (by omega)
 have HN:=Aside0.mk hn
 have HW:=Aside0.mk (fun W=>uE.calls 0 0 1 W rfl)
 clear hR hb ho hs hn
 go_enter Try.func32,Try.ntmps32
 go_wp2
 have lG:Aside0 ((((w.alloc (.cells cs 62)).alloc (.cells #[.int .i64 0,.int .i64 0] 26)).alloc (.cells (mH n) 26)).heap[w.heap.size]? =some (.cells cs 62 (0,0))):=⟨ak (ak (di w _) _) _⟩
 have dO:Aside0 ((((w.alloc (.cells cs 62)).alloc (.cells #[.int .i64 0,.int .i64 0] 26)).alloc (.cells (mH n) 26)).heap[w.heap.size+1]? =some (.cells #[.int .i64 0,.int .i64 0] 26 (0,0))):=⟨ak (by have:=di (w.alloc (.cells cs 62)) (.cells #[.int .i64 0,.int .i64 0] 26);rw [oQ] at this;exact this) _⟩
 have iq:Aside0 ((((w.alloc (.cells cs 62)).alloc (.cells #[.int .i64 0,.int .i64 0] 26)).alloc (.cells (mH n) 26)).heap[w.heap.size+1+1]? =some (.cells (mH n) 26 (0,0))):=⟨by have:=di ((w.alloc (.cells cs 62)).alloc (.cells #[.int .i64 0,.int .i64 0] 26)) (.cells (mH n) 26);rw [oQ,oQ] at this;exact this⟩
 have kO:Aside0 (Below w.heap.size w (((w.alloc (.cells cs 62)).alloc (.cells #[.int .i64 0,.int .i64 0] 26)).alloc (.cells (mH n) 26))):=⟨bA (bA (bA (Below.refl _ _) _) _) _⟩
 generalize (((w.alloc (.cells cs 62)).alloc (.cells #[.int .i64 0,.int .i64 0] 26)).alloc (.cells (mH n) 26))=w3 at*
 go_loopw [14] (fun iv wr=>∃(i:Nat) (ir:Array Value),iv= .int .i64 (i:Int)/\i<=n/\Aside0 (tU ir n (fun j=>if j<i then (0,1) else (0,0)))/\Aside0 (wr.heap[w.heap.size]? =some (.cells cs 62 (0,0)))/\Aside0 (wr.heap[w.heap.size+1]? =some (.cells #[.int .i64 0,.int .i64 0] 26 (0,0)))/\Aside0 (wr.heap[w.heap.size+1+1]? =some (.cells ir 26 (0,0)))/\Aside0 (Below w.heap.size w wr)) (fun iv _=>n -(intOf iv).toNat)
 case atStart=>exact ⟨0,mH n,rfl,Nat.zero_le _,⟨(Te n).congr (fun j _=>if_neg (by omega))⟩,lG,dO,iq,kO⟩
 case round=>
  clear lG dO iq kO
  obtain ⟨i,ir,rfl,hi,HP,lG,dO,iq,cr⟩:=hrel
  by_cases hlt:i<n
  ·have AU:=Aside0.mk hlt
   have g0:(0:Int)<=(i:Int):=by omega
   have g1:(i:Int)<(n:Int):=by omega
   have g2:decide ((i:Int)<(n:Int))=true:=decide_eq_true g1
   have zR:decide (i<n)=true:=decide_eq_true hlt
   have nA:Aside0 (wrap64 ((i:Int)+1)=((i+1:Nat):Int)):=⟨eR (by have:=HN.out;omega)⟩
   have vP:Aside0 (tU ((ir.setIfInBounds (i*2) (.int .i64 0)).setIfInBounds (i*2+1) (.int .i64 1)) n (fun j=>if j<i+1 then (0,1) else (0,0))):=⟨(HP.out.put hlt (0,1)).congr (fun j _=>by
    by_cases e:j=i
    ·rw [if_pos e,if_pos (by omega)]
    ·rw [if_neg e]
     by_cases e2:j<i
     ·rw [if_pos e2,if_pos (by omega)]
     ·rw [if_neg e2,if_neg (by omega)])⟩
   go_wp2_with (first|(go_at_call 55;(with_reducible refine (HW.out _).mono ?_);rintro e w1 ⟨rfl,hb1⟩;have lR:=Aside0.mk (ai lG.out hb1);have nW:=Aside0.mk (ai dO.out hb1);have tT:=Aside0.mk (ai iq.out hb1);have fe:=Aside0.mk (ah cr.out hb1);have h1:=br tT.out (HP.out.num i AU.out);have h2:=br tT.out (HP.out.den i AU.out);have h3:=aa tT.out (i*2);have h4:=aa tT.out (i*2+1);clear hb1))
   have b4Z:=Aside0.mk (heap_set (k:=i*2+1) (v:= .int .i64 1) (heap_set (k:=i*2) (v:= .int .i64 0) tT.out))
   have b5a:Aside0 (((w1.setCell ⟨w.heap.size+1+1,i*2,none⟩ (.int .i64 0)).setCell ⟨w.heap.size+1+1,i*2+1,none⟩ (.int .i64 1)).heap[w.heap.size]? =some (.cells cs 62 (0,0))):=⟨bn (bn lR.out (by omega)) (by omega)⟩
   have b5b:Aside0 (((w1.setCell ⟨w.heap.size+1+1,i*2,none⟩ (.int .i64 0)).setCell ⟨w.heap.size+1+1,i*2+1,none⟩ (.int .i64 1)).heap[w.heap.size+1]? =some (.cells #[.int .i64 0,.int .i64 0] 26 (0,0))):=⟨bn (bn nW.out (by omega)) (by omega)⟩
   go_roundw
   case rel=>exact ⟨i+1,_,by first|(rw [nA.out];done)|rfl|(simp;done),AU.out,vP,b5a,b5b,b4Z,⟨bC (bC fe.out (by omega)) (by omega)⟩⟩
   case measure=>(try rw [nA.out]);have:=AU.out;simp [intOf];omega
  ·have hin:i=n:=by omega
   have g2:decide ((i:Int)<(n:Int))=false:=decide_eq_false (by omega)
   have zR:decide (i<n)=false:=decide_eq_false hlt
   have HP3:Aside0 (tU ir n (fun _=>(0,1))):=⟨HP.out.congr (fun j hj=>by rw [if_pos (by omega)])⟩
   clear hin hlt hi HP
   go_wp2_with (first|(go_at_call 55;(with_reducible refine (HW.out _).mono ?_);rintro e w1 ⟨rfl,hb1⟩;have lR:=Aside0.mk (ak (ai lG.out hb1) (.cells #[.int .i64 0,.int .i64 1] 26));have nW:=Aside0.mk (ak (ai dO.out hb1) (.cells #[.int .i64 0,.int .i64 1] 26));have tT:=Aside0.mk (ak (ai iq.out hb1) (.cells #[.int .i64 0,.int .i64 1] 26));have fe:=Aside0.mk (bA (ah cr.out hb1) (.cells #[.int .i64 0,.int .i64 1] 26));have zT:=Aside0.mk (di w1 (.cells #[.int .i64 0,.int .i64 1] 26));have h1:=br lR.out HR.out.rows;have FV:Aside0 (w.heap.size+1+1<w1.heap.size):=⟨aZ (ai iq.out hb1)⟩;clear hb1))
   clear lG dO iq cr g2 zR hmk
   have HZ3:Aside0 (w.heap.size<=w1.heap.size):=⟨by have:=FV.out;omega⟩
   generalize FW:w1.heap.size=g8 at*
   generalize w1.alloc (.cells #[.int .i64 0,.int .i64 1] 26)=w4 at*
   clear h1
   go_loopw [25] (fun rv wr=>∃(r:Nat) (ir:Array Value),rv= .int .i64 (r:Int)/\r<=m/\Aside0 (tU ir n (fun j=>((xq T N r j).num,((xq T N r j).den:Int))))/\Aside0 (wr.heap[w.heap.size]? =some (.cells cs 62 (0,0)))/\Aside0 (wr.heap[w.heap.size+1]? =some (.cells #[.int .i64 0,.int .i64 0] 26 (0,0)))/\Aside0 (wr.heap[w.heap.size+1+1]? =some (.cells ir 26 (0,0)))/\Aside0 (wr.heap[g8]? =some (.cells #[.int .i64 (sm T N n r).num,.int .i64 ((sm T N n r).den:Int)] 26 (0,0)))/\Aside0 (Below w.heap.size w wr)) (fun rv _=>m -(intOf rv).toNat)
   case atStart=>exact ⟨0,ir,rfl,Nat.zero_le _,⟨HP3.out.congr (fun j _=>rfl)⟩,lR,nW,tT,zT,fe⟩
   case round=>
    clear lR nW tT zT fe HP3 FW
    obtain ⟨r,ir,rfl,hr,HP,lG,dO,iq,Kp,cr⟩:=hrel
    by_cases hlt:r<m
    ·have nk:=Aside0.mk hlt
     have hN:=HR.out.hN
     have hmK:=HR.out.hm
     have AV:r<m+K:=by omega
     have h1:=br lG.out (HR.out.eO r hlt)
     have g0:(0:Int)<=(r:Int):=by omega
     have g1:(r:Int)<16:=by omega
     have g2:decide ((r:Int)<(m:Int))=true:=decide_eq_true (by omega)
     have zR:decide (r<m)=true:=decide_eq_true hlt
     have nA:Aside0 (wrap64 ((r:Int)+1)=((r+1:Nat):Int)):=⟨eR (by omega)⟩
     have hq:∀j,xq T N (r+1) j=if T.basis r=j then T.cell r N else xq T N r j:=fun j=>rfl
     have hsm:sm T N n (r+1)=if T.basis r<n then sm T N n r+T.cell r N else sm T N n r:=rfl
     have a7R:=HBs.out r hlt
     have HBas:=Aside0.mk (HR.out.eO r hlt)
     generalize T.basis r=b at*
     by_cases CU:b<n
     ·have HbN:=Aside0.mk CU
      have g3:decide ((b:Int)<(n:Int))=true:=decide_eq_true (by omega)
      have Kq:decide (b<n)=true:=decide_eq_true CU
      have g4:(0:Int)<=(b:Int):=by omega
      have g5:(b:Int)<(n:Int):=by omega
      have g6:(0:Int)<=(N:Int):=by omega
      have g7:(N:Int)<16:=by omega
      have vP:Aside0 (tU ((ir.setIfInBounds (b*2) (.int .i64 (T.cell r N).num)).setIfInBounds (b*2+1) (.int .i64 ((T.cell r N).den:Int))) n (fun j=>((xq T N (r+1) j).num,((xq T N (r+1) j).den:Int)))):=⟨(HP.out.put CU ((T.cell r N).num,((T.cell r N).den:Int))).congr (fun j _=>by
       rw [hq]
       by_cases e:b=j
       ·rw [if_pos e,if_pos e.symm]
       ·rw [if_neg e,if_neg (fun h=>e h.symm)])⟩
      have HS2:=Aside0.mk (show sm T N n (r+1)=sm T N n r+T.cell r N by rw [hsm,if_pos CU])
      have HAd:=Aside0.mk (fun W=>b1l W (HSm.out r hr) (HOk.out r hlt) (by rw [<-HS2.out];exact HSm.out (r+1) hlt))
      have h2:=br lG.out HR.out.mO
      have h3:=br lG.out (HR.out.num r N AV (Nat.le_refl _))
      have h4:=br lG.out (HR.out.den r N AV (Nat.le_refl _))
      have h5:=br iq.out (HP.out.num b CU)
      have h6:=br iq.out (HP.out.den b CU)
      have h7:=aa iq.out (b*2)
      have h8:=aa iq.out (b*2+1)
      clear hlt hr hN hmK AV hq hsm a7R CU
      go_wp2
      have h5:wr.drew.cell? ⟨w.heap.size+1+1,b*2,none⟩=_:=h5
      have h6:wr.drew.cell? ⟨w.heap.size+1+1,b*2+1,none⟩=_:=h6
      have WS:=Aside0.mk (aj lG.out)
      have zU:=Aside0.mk (aj dO.out)
      have CV:=Aside0.mk (aj iq.out)
      have WT:=Aside0.mk (aj Kp.out)
      have nB:=Aside0.mk (bB cr.out)
      clear lG dO iq Kp cr
      refine eX (n:=14) (S:=fun w'=>w'.cell? ⟨w.heap.size,512+r,none⟩=some (.int .i64 (b:Int))/\w'.cell? ⟨w.heap.size,529,none⟩=some (.int .i64 (N:Int))/\w'.cell? ⟨w.heap.size,r*32+N*2,none⟩=some (.int .i64 (T.cell r N).num)/\w'.cell? ⟨w.heap.size,r*32+N*2+1,none⟩=some (.int .i64 ((T.cell r N).den:Int))) (ds:=[13]) #[false,false,false,false,false,false,false,false,false,false,false,false,false,false] (by kernel_rfl) rfl rfl ⟨h1,h2,h3,h4⟩ (fun hHeld=>?_)
      clear h1 h2 h3 h4
      generalize wr.drew=w5 at*
      refine aX (i:=0) (N:=some 34) ?_
      refine aX (i:=1) (N:=some 35) ?_
      refine aX (i:=2) (N:=some 36) ?_
      refine aX (i:=3) (N:=some 37) ?_
      refine dy (i:=4) (N:=some 38) (v:=?_) (a':=?_) #[true,true,true,true,true,false,false,false,false,false,false,false,false,false] rfl rfl (by kernel_rfl) (fun _ _ _ h=>h) (Or.inl ⟨by rfl,?_⟩) hHeld ?_ ?_
      rotate_left
      ·rintro w' ⟨s0,s1,s2,s3⟩
       go_simp
       with_reducible rfl
      rotate_left
      ·exact eG
      refine aX (i:=5) (N:=some 39) ?_
      refine aX (i:=6) (N:=some 40) ?_
      refine dy (i:=7) (N:=some 41) (v:=?_) (a':=?_) #[true,true,true,true,true,true,true,true,false,false,false,false,false,false] rfl rfl (by kernel_rfl) (fun _ _ _ h=>h) (Or.inl ⟨by rfl,?_⟩) hHeld ?_ ?_
      rotate_left
      ·rintro w' ⟨s0,s1,s2,s3⟩
       go_simp
       with_reducible rfl
      rotate_left
      ·exact eG
      refine aX (i:=8) (N:=some 42) ?_
      refine aX (i:=9) (N:=some 43) ?_
      refine aX (i:=10) (N:=some 44) ?_
      refine dy (i:=11) (N:=some 45) (v:=?_) (a':=?_) #[true,true,true,true,true,true,true,true,true,true,true,true,false,false] rfl rfl (by kernel_rfl) (fun _ _ _ h=>h) (Or.inl ⟨by rfl,?_⟩) hHeld ?_ ?_
      rotate_left
      ·rintro w' ⟨s0,s1,s2,s3⟩
       go_simp
       with_reducible rfl
      rotate_left
      ·exact eG
      refine aX (i:=12) (N:=some 46) ?_
      refine pP (i:=13) (N:=none) #[true,true,true,true,true,true,true,true,true,true,true,true,true,true] rfl rfl (by kernel_rfl) (by decide) (fun K hK=>?_)
      have h7:=aa CV.out (b*2)
      have h8:=aa CV.out (b*2+1)
      refine kY (w1:=?_) (by rfl) rfl ?_ ?_
      rotate_left
      ·go_simp
       rfl
      refine hK.out _ _ ?_
      clear hK K
      refine fV (by kernel_rfl) ?_
      have vQ:=Aside0.mk (heap_set (k:=b*2+1) (v:= .int .i64 ((T.cell r N).den:Int)) (heap_set (k:=b*2) (v:= .int .i64 (T.cell r N).num) CV.out))
      have wS:Aside0 (((w5.setCell ⟨w.heap.size+1+1,b*2,none⟩ (.int .i64 (T.cell r N).num)).setCell ⟨w.heap.size+1+1,b*2+1,none⟩ (.int .i64 ((T.cell r N).den:Int))).heap[w.heap.size]? =some (.cells cs 62 (0,0))):=⟨bn (bn WS.out (by omega)) (by omega)⟩
      have WU:Aside0 (((w5.setCell ⟨w.heap.size+1+1,b*2,none⟩ (.int .i64 (T.cell r N).num)).setCell ⟨w.heap.size+1+1,b*2+1,none⟩ (.int .i64 ((T.cell r N).den:Int))).heap[w.heap.size+1]? =some (.cells #[.int .i64 0,.int .i64 0] 26 (0,0))):=⟨bn (bn zU.out (by omega)) (by omega)⟩
      have pJ:Aside0 (((w5.setCell ⟨w.heap.size+1+1,b*2,none⟩ (.int .i64 (T.cell r N).num)).setCell ⟨w.heap.size+1+1,b*2+1,none⟩ (.int .i64 ((T.cell r N).den:Int))).heap[g8]? =some (.cells #[.int .i64 (sm T N n r).num,.int .i64 ((sm T N n r).den:Int)] 26 (0,0))):=⟨bn (bn WT.out (by have:=FV.out;omega)) (by have:=FV.out;omega)⟩
      have pK:Aside0 (Below w.heap.size w ((w5.setCell ⟨w.heap.size+1+1,b*2,none⟩ (.int .i64 (T.cell r N).num)).setCell ⟨w.heap.size+1+1,b*2+1,none⟩ (.int .i64 ((T.cell r N).den:Int)))):=⟨bC (bC nB.out (by omega)) (by omega)⟩
      clear WS zU CV WT nB h5 h6 h7 h8 HP hHeld
      generalize ((w5.setCell ⟨w.heap.size+1+1,b*2,none⟩ (.int .i64 (T.cell r N).num)).setCell ⟨w.heap.size+1+1,b*2+1,none⟩ (.int .i64 ((T.cell r N).den:Int)))=w6 at*
      generalize (ir.setIfInBounds (b*2) (.int .i64 (T.cell r N).num)).setIfInBounds (b*2+1) (.int .i64 ((T.cell r N).den:Int))=AR at*
      go_wp2
      have h2:=br wS.out HR.out.mO
      have h3:=br wS.out (HR.out.num r N (by have:=nk.out;omega) (Nat.le_refl _))
      have h4:=br wS.out (HR.out.den r N (by have:=nk.out;omega) (Nat.le_refl _))
      have h5:=(af pJ.out 0).trans rfl
      have h6:=(af pJ.out 1).trans rfl
      have WS:=Aside0.mk (aj wS.out)
      have zU:=Aside0.mk (aj WU.out)
      have CV:=Aside0.mk (aj vQ.out)
      have WT:=Aside0.mk (aj pJ.out)
      have nB:=Aside0.mk (bB pK.out)
      clear wS WU vQ pJ pK
      refine eX (n:=10) (S:=fun w'=>w'.cell? ⟨w.heap.size,529,none⟩=some (.int .i64 (N:Int))/\w'.cell? ⟨w.heap.size,r*32+N*2,none⟩=some (.int .i64 (T.cell r N).num)/\w'.cell? ⟨w.heap.size,r*32+N*2+1,none⟩=some (.int .i64 ((T.cell r N).den:Int))/\w'.cell? ⟨g8,0,none⟩=some (.int .i64 (sm T N n r).num)/\w'.cell? ⟨g8,1,none⟩=some (.int .i64 ((sm T N n r).den:Int))) (ds:=[9]) #[false,false,false,false,false,false,false,false,false,false] (by kernel_rfl) rfl rfl ⟨h2,h3,h4,h5,h6⟩ (fun hHeld=>?_)
      clear h2 h3 h4 h5 h6
      generalize w6.drew=w7 at*
      refine dy (i:=0) (N:=some 47) (v:=?_) (a':=?_) #[true,false,false,false,false,false,false,false,false,false] rfl rfl (by kernel_rfl) (fun _ _ _ h=>h) (Or.inl ⟨by rfl,?_⟩) hHeld ?_ ?_
      rotate_left
      ·rintro w' ⟨s0,s1,s2,s3,s4⟩
       go_simp
       with_reducible rfl
      rotate_left
      ·exact eG
      refine aX (i:=1) (N:=some 48) ?_
      refine aX (i:=2) (N:=some 49) ?_
      refine dy (i:=3) (N:=some 50) (v:=?_) (a':=?_) #[true,true,true,true,false,false,false,false,false,false] rfl rfl (by kernel_rfl) (fun _ _ _ h=>h) (Or.inl ⟨by rfl,?_⟩) hHeld ?_ ?_
      rotate_left
      ·rintro w' ⟨s0,s1,s2,s3,s4⟩
       go_simp
       with_reducible rfl
      rotate_left
      ·exact eG
      refine aX (i:=4) (N:=some 51) ?_
      refine aX (i:=5) (N:=some 52) ?_
      refine aX (i:=6) (N:=some 53) ?_
      refine dy (i:=7) (N:=some 54) (v:=?_) (a':=?_) #[true,true,true,true,true,true,true,true,false,false] rfl rfl (by kernel_rfl) (fun _ _ _ h=>h) (Or.inl ⟨by rfl,?_⟩) hHeld ?_ ?_
      rotate_left
      ·rintro w' ⟨s0,s1,s2,s3,s4⟩
       go_simp
       with_reducible rfl
      rotate_left
      ·exact eG
      refine fA (i:=8) (N:=some 55) #[true,true,true,true,true,true,true,true,true,false] rfl rfl (by kernel_rfl) (by decide) (fun K hK=>?_)
      refine nG Try.func20 (by kernel_rfl) rfl #[V (sm T N n r),V (T.cell r N)] (by rfl) rfl rfl (by (try simp only [List.map_toArray,List.map_cons,List.map_nil]);first|done|rfl) ?_
      refine (HAd.out _).mono ?_
      rintro e w8 ⟨rfl,lU⟩
      have wS:=Aside0.mk (ai WS.out lU)
      have WU:=Aside0.mk (ai zU.out lU)
      have vQ:=Aside0.mk (ai CV.out lU)
      have pJ:=Aside0.mk (ai WT.out lU)
      have pK:=Aside0.mk (ah nB.out lU)
      clear WS zU CV WT nB lU hHeld
      refine ⟨_,rfl,?_⟩
      have h5:=(af pJ.out 0).trans rfl
      have h6:=(af pJ.out 1).trans rfl
      refine hK.out _ _ ⟨br wS.out HR.out.mO,br wS.out (HR.out.num r N (by have:=nk.out;omega) (Nat.le_refl _)),br wS.out (HR.out.den r N (by have:=nk.out;omega) (Nat.le_refl _)),h5,h6⟩ (fun hHeld=>?_)
      clear hK K hHeld
      refine eF (a':=?_) ?_ ?_
      rotate_left
      ·show Act.put _ (some 55) _=_
       simp only [Act.put,List.setIfInBounds_toArray,List.set_cons_zero,List.set_cons_succ,cZ,dX]
       rfl
      refine pP (i:=9) (N:=none) #[true,true,true,true,true,true,true,true,true,true] rfl rfl (by kernel_rfl) (by decide) (fun K hK=>?_)
      have h7:=aa pJ.out 0
      have h8:=aa pJ.out 1
      refine kY (w1:=?_) (by rfl) rfl ?_ ?_
      rotate_left
      ·go_simp
       rfl
      refine hK.out _ _ ?_
      clear hK K
      refine fV (by kernel_rfl) ?_
      clear h5 h6 h7 h8
      rw [<-HS2.out]
      have Qo:Aside0 (((w8.setCell ⟨g8,0,none⟩ (.int .i64 (sm T N n (r+1)).num)).setCell ⟨g8,1,none⟩ (.int .i64 ((sm T N n (r+1)).den:Int))).heap[g8]? =some (.cells #[.int .i64 (sm T N n (r+1)).num,.int .i64 ((sm T N n (r+1)).den:Int)] 26 (0,0))):=⟨aK (aK pJ.out 0 (.int .i64 (sm T N n (r+1)).num) (cs':= #[.int .i64 (sm T N n (r+1)).num,.int .i64 ((sm T N n r).den:Int)]) rfl) 1 (.int .i64 ((sm T N n (r+1)).den:Int)) (cs':= #[.int .i64 (sm T N n (r+1)).num,.int .i64 ((sm T N n (r+1)).den:Int)]) rfl⟩
      have HF0:Aside0 (((w8.setCell ⟨g8,0,none⟩ (.int .i64 (sm T N n (r+1)).num)).setCell ⟨g8,1,none⟩ (.int .i64 ((sm T N n (r+1)).den:Int))).heap[w.heap.size]? =some (.cells cs 62 (0,0))):=⟨bn (bn wS.out (by have:=FV.out;omega)) (by have:=FV.out;omega)⟩
      have zV:Aside0 (((w8.setCell ⟨g8,0,none⟩ (.int .i64 (sm T N n (r+1)).num)).setCell ⟨g8,1,none⟩ (.int .i64 ((sm T N n (r+1)).den:Int))).heap[w.heap.size+1]? =some (.cells #[.int .i64 0,.int .i64 0] 26 (0,0))):=⟨bn (bn WU.out (by have:=FV.out;omega)) (by have:=FV.out;omega)⟩
      have Nw:Aside0 (((w8.setCell ⟨g8,0,none⟩ (.int .i64 (sm T N n (r+1)).num)).setCell ⟨g8,1,none⟩ (.int .i64 ((sm T N n (r+1)).den:Int))).heap[w.heap.size+1+1]? =some (.cells AR 26 (0,0))):=⟨bn (bn vQ.out (by have:=FV.out;omega)) (by have:=FV.out;omega)⟩
      have FX:Aside0 (Below w.heap.size w ((w8.setCell ⟨g8,0,none⟩ (.int .i64 (sm T N n (r+1)).num)).setCell ⟨g8,1,none⟩ (.int .i64 ((sm T N n (r+1)).den:Int)))):=⟨bC (bC pK.out HZ3.out) HZ3.out⟩
      clear wS WU vQ pJ pK
      generalize ((w8.setCell ⟨g8,0,none⟩ (.int .i64 (sm T N n (r+1)).num)).setCell ⟨g8,1,none⟩ (.int .i64 ((sm T N n (r+1)).den:Int)))=w9 at*
      go_wp2
      go_roundw
      case rel=>exact ⟨r+1,AR,by first|(rw [nA.out];done)|rfl|(simp;done),nk.out,vP,HF0,zV,Nw,Qo,FX⟩
      case measure=>(try rw [nA.out]);have:=nk.out;simp [intOf];omega
     ·have g3:decide ((b:Int)<(n:Int))=false:=decide_eq_false (by omega)
      have Kq:decide (b<n)=false:=decide_eq_false CU
      have vP:Aside0 (tU ir n (fun j=>((xq T N (r+1) j).num,((xq T N (r+1) j).den:Int)))):=⟨HP.out.congr (fun j hj=>by rw [hq,if_neg (by omega)])⟩
      have HA4:Aside0 (wr.heap[g8]? =some (.cells #[.int .i64 (sm T N n (r+1)).num,.int .i64 ((sm T N n (r+1)).den:Int)] 26 (0,0))):=⟨by rw [hsm,if_neg CU];exact Kp.out⟩
      clear hlt hr hN hmK AV hq hsm a7R CU HP Kp
      go_wp2
      go_roundw
      case rel=>exact ⟨r+1,ir,by first|(rw [nA.out];done)|rfl|(simp;done),nk.out,vP,lG,dO,iq,HA4,cr⟩
      case measure=>(try rw [nA.out]);have:=nk.out;simp [intOf];omega
    ·have Kr:r=m:=by omega
     have g2:decide ((r:Int)<(m:Int))=false:=decide_eq_false (by omega)
     have zR:decide (r<m)=false:=decide_eq_false hlt
     rw [Kr] at HP Kp
     clear Kr hlt hr
     have h5:=(af Kp.out 0).trans rfl
     have h6:=(af Kp.out 1).trans rfl
     have h7:=(af dO.out 0).trans rfl
     have h8:=(af dO.out 1).trans rfl
     have h9:=aa dO.out 0
     have h10:=aa dO.out 1
     go_wp2
     have CV:=Aside0.mk (aj iq.out)
     have zU:=Aside0.mk (aj dO.out)
     have nB:=Aside0.mk (bB cr.out)
     refine eX (n:=4) (S:=fun w'=>w'.cell? ⟨g8,0,none⟩=some (.int .i64 (sm T N n m).num)/\w'.cell? ⟨g8,1,none⟩=some (.int .i64 ((sm T N n m).den:Int))) (ds:=[3]) #[false,false,false,false] (by kernel_rfl) rfl rfl ⟨h5,h6⟩ (fun hHeld=>?_)
     clear h5 h6 h7 h8 h9 h10 lG dO iq Kp cr
     generalize wr.drew=w5 at*
     refine aX (i:=0) (N:=some 57) ?_
     refine dy (i:=1) (N:=some 58) (v:=?_) (a':=?_) #[true,true,false,false] rfl rfl (by kernel_rfl) (fun _ _ _ h=>h) (Or.inl ⟨by rfl,?_⟩) hHeld ?_ ?_
     rotate_left
     ·rintro w' ⟨s0,s1⟩
      go_simp
      with_reducible rfl
     rotate_left
     ·exact eG
     refine aX (i:=2) (N:=some 4) ?_
     refine pP (i:=3) (N:=none) #[true,true,true,true] rfl rfl (by kernel_rfl) (by decide) (fun K hK=>?_)
     have h7:=(af zU.out 0).trans rfl
     have h8:=(af zU.out 1).trans rfl
     have h9:=aa zU.out 0
     have h10:=aa zU.out 1
     refine kY (w1:=?_) (by rfl) rfl ?_ ?_
     rotate_left
     ·go_simp
      rfl
     refine hK.out _ _ ?_
     clear hK K
     refine fV (by kernel_rfl) ?_
     have zV:Aside0 (((w5.setCell ⟨w.heap.size+1,0,none⟩ (.int .i64 (sm T N n m).num)).setCell ⟨w.heap.size+1,1,none⟩ (.int .i64 ((sm T N n m).den:Int))).heap[w.heap.size+1]? =some (.cells #[.int .i64 (sm T N n m).num,.int .i64 ((sm T N n m).den:Int)] 26 (0,0))):=⟨aK (aK zU.out 0 (.int .i64 (sm T N n m).num) (cs':= #[.int .i64 (sm T N n m).num,.int .i64 0]) rfl) 1 (.int .i64 ((sm T N n m).den:Int)) (cs':= #[.int .i64 (sm T N n m).num,.int .i64 ((sm T N n m).den:Int)]) rfl⟩
     have Nw:Aside0 (((w5.setCell ⟨w.heap.size+1,0,none⟩ (.int .i64 (sm T N n m).num)).setCell ⟨w.heap.size+1,1,none⟩ (.int .i64 ((sm T N n m).den:Int))).heap[w.heap.size+1+1]? =some (.cells ir 26 (0,0))):=⟨bn (bn CV.out (by omega)) (by omega)⟩
     have FX:Aside0 (Below w.heap.size w ((w5.setCell ⟨w.heap.size+1,0,none⟩ (.int .i64 (sm T N n m).num)).setCell ⟨w.heap.size+1,1,none⟩ (.int .i64 ((sm T N n m).den:Int)))):=⟨bC (bC nB.out (by omega)) (by omega)⟩
     clear zU CV nB h7 h8 h9 h10 hHeld
     generalize ((w5.setCell ⟨w.heap.size+1,0,none⟩ (.int .i64 (sm T N n m).num)).setCell ⟨w.heap.size+1,1,none⟩ (.int .i64 ((sm T N n m).den:Int)))=w6 at*
     have h7:=(af zV.out 0).trans rfl
     have h8:=(af zV.out 1).trans rfl
     go_wp2
     refine bodyPost_ret (v:= .tuple #[.slice (some ⟨w.heap.size+1+1,0,none⟩) n n,V (sm T N n m)]) (by simp [results,Try.results32,go_sem, *]) rfl ?_
     exact ⟨_,ir,rfl,Nw.out,HP.out,by omega,FX.out⟩
end Go.Proofs.Ytnhknojfpjheoaa.PT
namespace Go.Proofs.Ytnhknojfpjheoaa.P
open Go.RowKit Go.Proofs.YtnhknojfpjheoaaW.PrintWords Go.Proofs.YtnhknojfpjheoaaW.PrintLast Go.Proofs.YtnhknojfpjheoaaW.PrintMore
attribute [local go_sem] max2_int min2_int max_two min_two max_three min_three max_four min_four
set_option linter.all false
def bR.l0:Nat->Int->List (bM)->Int->Option ((List (bM)))
 |0,_,_,_=>none
 |k+1,x0,x3,x4=>if x4<x0 then (if x3.length<8796093022208 then (bR.l0 k x0 (x3++[(⟨0,1⟩:bM)]) (wrap64 (x4+1))) else (none)) else (some x3)
def bR.f (k:Nat) (a0:Int):Option ((List (bM))):=bR.l0 k a0 (([]:List (bM))) 0
theorem bR.cI:∀k,(∀y0 y1 y2,aT (bR.l0 k y0 y1 y2) (bR.l0 (k+1) y0 y1 y2))
 |0=>fun _ _ _ r h=>by simp [bR.l0] at h
 |k+1=>by
  have dL:=bR.cI k
  ·intro y0 y1 y2
   unfold bR.l0
   repeat' first
   |(with_reducible exact dL _ _ _)
   |(with_reducible exact aT.refl _)
   |(with_reducible exact aT.none _)
   |(with_reducible refine aT.ite ?_ ?_)
   |(with_reducible refine aT.bind ?_ (fun _=>?_))
theorem bR.mono:∀a0 k,aT (bR.f k a0) (bR.f (k+1) a0):=by
 intro a0 k
 have dL:=bR.cI k
 unfold bR.f
 repeat' first
  |(with_reducible exact dL _ _ _)
  |(with_reducible exact aT.refl _)
  |(with_reducible exact aT.none _)
  |(with_reducible refine aT.ite ?_ ?_)
  |(with_reducible refine aT.bind ?_ (fun _=>?_))
set_option maxHeartbeats 8000000 in
set_option maxRecDepth 100000 in
theorem bR.calls (k:Nat) (a0:Int) (r:List (bM)) (w:World) (h:bR.f k a0=some r):
 Calls Try.prog 24 #[.int .i64 a0] w fun e w'=>∃oZ:Value,e= .returned (oZ)/\Kd.R eY 26 w' w.heap.size (fun _=>True) oZ r/\Below w.heap.size w w':=by
 have mM:=Try.underlying26
 have HB:=Aside0.mk (Below.refl w.heap.size w)
 have H:(bR.l0 k a0 (([]:List (bM))) 0)=some r:=h
 clear h
 obtain ⟨a7S,FY⟩:∃y_:List (bM),y_=(([]:List (bM))):=⟨_,rfl⟩
 replace H:(bR.l0 k a0 a7S 0)=some r:=by first|(rw [FY];with_reducible exact H)|(have dZ:=(Option.bind_some _ _).symm.trans H;rw [FY];with_reducible exact dZ)|(have dZ:=(Option.bind_some _ _).symm.trans H;with_reducible exact dZ)|with_reducible exact H|(rw [FY];exact H)|exact H
 have a2q:=Aside0.mk FY
 clear FY
 have H':=Aside0.mk H
 clear H
 go_enter Try.func24,Try.ntmps24
 go_wp2_with (first|((with_reducible refine bp (N:=5) rfl ?_);refine Kd.BG eY _ 26 ?hg (N:=5) ?hd (xs:=([]:List (bM))) (inner:=[]) (ok:=fun _=>True) (fK:=fun _=>True) ?hr ?hp (fun _ hk=>hk) trivial (Below.refl _ _) (Nat.le_refl _) (by simp) ?_;(case hd=>rfl);(case hg=>rfl);(case hr=>first|(go_simp;done)|(go_simp;rfl));(case hp=>exact (cT.none _ _));intro v108 w2 vR hb uZ nH;clear uZ nH;(first|rw [<-a2q.out] at vR|(simp only [Int.reduceToNat] at vR;rw [<-a2q.out] at vR));have aA:=Aside0.mk (Kd.kL vR (av ax));have aC:=Aside0.mk (ah ax hb);clear HB;have b1m:=aA;have HB:=aC;clear aA aC;clear hb vR))
 go_loopg [3,4] k (fun kq v3 v4 w'=>∃(gL:List (bM)) (dN:Int),v4= .int .i64 dN/\Aside0 (bR.l0 kq a0 gL dN=some r)/\Aside0 (kq<=k)/\Aside0 (Kd.R eY 26 w' w.heap.size (fun _=>True) v3 gL)/\Aside0 (Below w.heap.size w w'))
 case atStart=>exact ⟨(a7S),(0),(by first|rfl|(simp;done)|(simp [*];done)),H',⟨Nat.le_refl _⟩,⟨by (with_reducible repeat (first|apply Kd.dz|apply Kd.dG|apply Kd.ez));exact b1m.out⟩,⟨ax⟩⟩
 case round=>
  clear H'
  try clear c2
  try clear p2
  obtain ⟨gL,dN,rfl,HA,fR,gM,HB⟩:=hrel
  cases gk with
  |zero=>exact absurd HA.out (by simp [bR.l0])
  |succ k1=>
   have H:=HA.out
   clear HA
   simp only [bR.l0] at H
   by_cases c4:dN<a0
   ·rw [if_pos c4] at H
    have kC:decide (dN<a0)=true:=decide_eq_true c4
    clear c4
    by_cases c5:gL.length<8796093022208
    ·rw [if_pos c5] at H
     have b5c:=Aside0.mk c5
     clear c5
     obtain ⟨a7T,FZ⟩:∃y_:List (bM),y_=(gL++[(⟨0,1⟩:bM)]):=⟨_,rfl⟩
     replace H:(bR.l0 k1 a0 a7T (wrap64 (dN+1)))=some r:=by first|(rw [FZ];with_reducible exact H)|(have dZ:=(Option.bind_some _ _).symm.trans H;rw [FZ];with_reducible exact dZ)|(have dZ:=(Option.bind_some _ _).symm.trans H;with_reducible exact dZ)|with_reducible exact H|(rw [FZ];exact H)|exact H
     have b1n:=Aside0.mk FZ
     clear FZ
     have H':=Aside0.mk H
     clear H
     go_wp2_with (first|((with_reducible refine gu (b:= .append) (xs:= #[.tmp 11,.tmp 13]) rfl ?_);at_builtin;refine Kd.nE eY (w0:=w) w.heap.size rfl (.tmp 11) (.tmp 13) 27 26 (.agg #[(.int .i64 0),(.int .i64 0)]) 16 rfl Try.underlying27 UA rfl (by decide) (by omega) u3 gL (⟨0,1⟩:bM) [.int .i64 0,.int .i64 1] (fun _=>True) (fun _=>False) rfl rfl ?aP (fun _ hk=>hk.elim) ?aF ?aO ?aB ?aS ?aL ?_;(case aP=>exact uQ _ _ _ (⟨0,1⟩:bM));(case aB=>exact ax);(case aF=>exact (fun _ _=>trivial));(case aO=>exact (by (with_reducible repeat (first|apply Kd.dz|apply Kd.dG|apply Kd.ez));exact gM.out));(case aS=>exact (av ax));(case aL=>have:=b5c.out;omega);intro v111 w6 ho hb hg hat;rw [<-b1n.out] at ho;have aA:=Aside0.mk (hb);have aC:=Aside0.mk (ho);clear HB;clear gM;have HB:=aA;have b1o:=aC;clear aA aC;clear ho hb hg hat))
     go_roundg k1
     case measure=>have:=fR.out;omega
     case rel=>exact ⟨(a7T),(wrap64 (dN+1)),(by first|rfl|(simp;done)|(simp [*];done)),H',⟨by have:=fR.out;omega⟩,⟨by (with_reducible repeat (first|apply Kd.dz|apply Kd.dG|apply Kd.ez));exact b1o.out⟩,⟨ax⟩⟩
    ·rw [if_neg c5] at H
     exact absurd H (by simp)
   ·rw [if_neg c4] at H
    have kC:decide (dN<a0)=false:=decide_eq_false c4
    clear c4
    obtain rfl:=Option.some.inj H
    go_wp2
    go_ret
    exact ⟨_,by first|rfl|(simp [aQ,aR]<;>rfl)|(simp [*,aQ,aR]<;>rfl),by (with_reducible repeat (first|apply Kd.dz|apply Kd.dG|apply Kd.ez));exact gM.out,ax⟩
end Go.Proofs.Ytnhknojfpjheoaa.P
namespace Go.Proofs.Ytnhknojfpjheoaa.PT
open Go.RowKit Go.Proofs.Ytnhknojfpjheoaa.P Go.Proofs.YtnhknojfpjheoaaW.PrintWords Go.Proofs.YtnhknojfpjheoaaW.PrintLast Go.Proofs.Ytnhknojfpjheoaa.EvKit Go.Proofs.Ytnhknojfpjheoaa.Num Go.Proofs.Ytnhknojfpjheoaa.Lp
set_option linter.all false
def iP (R:Nat->Nat->Rat) (c:Nat):Nat->Nat->Nat
 |p,0=>p
 |p,d+1=>if R p c=0 then iP R c (p+1) d else p
theorem Nx (R:Nat->Nat->Rat) (c:Nat):∀d p,p<=iP R c p d/\iP R c p d<=p+d
 |0,p=>⟨Nat.le_refl _,Nat.le_refl _⟩
 |d+1,p=>by
  simp only [iP]
  split
  ·have:=Nx R c d (p+1);omega
  ·omega
theorem Gc (R:Nat->Nat->Rat) (c:Nat):∀d p,iP R c p d<p+d->R (iP R c p d) c≠0
 |0,p=>by simp only [iP];omega
 |d+1,p=>by
  simp only [iP]
  split
  ·intro h;exact Gc R c d (p+1) (by omega)
  ·next h=>intro _;exact h
def fO (p c i:Nat):Nat:=if i=c then p else if i=p then c else i
def jE (R:Nat->Nat->Rat) (p c:Nat):Nat->Nat->Rat:=fun i j=>R (fO p c i) j
def eW (R:Nat->Nat->Rat) (c:Nat):Nat->Nat->Rat:=fun r j=>if r=c∨j<c then R r j else R r j - R r c/R c c*R c j
def fJ (n:Nat) (R0:Nat->Nat->Rat):Nat->Option (Nat->Nat->Rat)
 |0=>some R0
 |c+1=>(fJ n R0 c).bind fun R=>if iP R c c (n - c)<n then some (eW (jE R (iP R c c (n - c)) c) c) else none
theorem Ks {n:Nat} {R0:Nat->Nat->Rat}:∀{c d:Nat},fJ n R0 c=none->fJ n R0 (c+d)=none
 |c,0,h=>h
 |c,d+1,h=>by
  show (fJ n R0 (c+d)).bind _=none
  rw [Ks h];rfl
def gw (W:World) (g n:Nat) (q:Nat->Int×Int):Prop:=∃cs:Array Value,W.heap[g]? =some (.cells cs 26 (0,0))/\∀j,j<=n->cs[j*2]? =some (.int .i64 (q j).1)/\cs[j*2+1]? =some (.int .i64 (q j).2)
theorem gw.move {W W1:World} {g n:Nat} {q:Nat->Int×Int} (h:gw W g n q) (e:W1.heap[g]? =W.heap[g]?):gw W1 g n q:=by
 obtain ⟨cs,h1,h2⟩:=h;exact ⟨cs,e.trans h1,h2⟩
theorem gw.lt {W:World} {g n:Nat} {q:Nat->Int×Int} (h:gw W g n q):g<W.heap.size:=by
 obtain ⟨cs,h1,_⟩:=h;exact aZ h1
theorem gw.below {W W1:World} {g n:Nat} {q:Nat->Int×Int} (h:gw W g n q) (hb:Below W.heap.size W W1):gw W1 g n q:=h.move (hb.block _ h.lt)
theorem gw.at {W:World} {g n j:Nat} {q:Nat->Int×Int} (h:gw W g n q) (hj:j<=n):W.cell? ⟨g,j*2,none⟩=some (.int .i64 (q j).1)/\W.cell? ⟨g,j*2+1,none⟩=some (.int .i64 (q j).2):=by
 obtain ⟨cs,h1,h2⟩:=h;exact ⟨br h1 (h2 j hj).1,br h1 (h2 j hj).2⟩
theorem gw.frozen {W:World} {g n:Nat} {q:Nat->Int×Int} (h:gw W g n q) (k:Nat):W.frozen? ⟨g,k,none⟩=false:=by
 obtain ⟨cs,h1,_⟩:=h;exact aa h1 k
theorem gw.put {W:World} {g n j:Nat} {q:Nat->Int×Int} (h:gw W g n q) (hj:j<=n) (p:Int×Int):gw ((W.setCell ⟨g,j*2,none⟩ (.int .i64 p.1)).setCell ⟨g,j*2+1,none⟩ (.int .i64 p.2)) g n (fun k=>if k=j then p else q k):=by
 obtain ⟨cs,h1,h2⟩:=h
 have hs1:=(Array.getElem?_eq_some_iff.1 (h2 j hj).1).1
 have hs2:=(Array.getElem?_eq_some_iff.1 (h2 j hj).2).1
 refine ⟨_,heap_set (heap_set h1),fun k hk=>?_⟩
 by_cases e:k=j
 ·subst e
  refine ⟨?_,?_⟩
  ·rw [Array.getElem?_setIfInBounds_ne (by omega),Array.getElem?_setIfInBounds,if_pos rfl,if_pos hs1]
   show _=some (Value.int .i64 (if k=k then p else q k).1);rw [if_pos rfl]
  ·rw [Array.getElem?_setIfInBounds,if_pos rfl,if_pos (by simpa using hs2)]
   show _=some (Value.int .i64 (if k=k then p else q k).2);rw [if_pos rfl]
 ·refine ⟨?_,?_⟩
  ·rw [Array.getElem?_setIfInBounds_ne (by omega),Array.getElem?_setIfInBounds_ne (by omega),(h2 k hk).1]
   show _=some (Value.int .i64 (if k=j then p else q k).1);rw [if_neg e]
  ·rw [Array.getElem?_setIfInBounds_ne (by omega),Array.getElem?_setIfInBounds_ne (by omega),(h2 k hk).2]
   show _=some (Value.int .i64 (if k=j then p else q k).2);rw [if_neg e]
theorem gw.other {W:World} {g g' n k:Nat} {v:Value} {q:Nat->Int×Int} (h:gw W g n q) (hne:g≠g'):gw (W.setCell ⟨g',k,none⟩ v) g n q:=by
 obtain ⟨cs,h1,h2⟩:=h;exact ⟨cs,bn h1 hne,h2⟩
theorem gw.congr {W:World} {g n:Nat} {q q':Nat->Int×Int} (h:gw W g n q) (e:∀j,j<=n->q' j=q j):gw W g n q':=by
 obtain ⟨cs,h1,h2⟩:=h;exact ⟨cs,h1,fun j hj=>by rw [e j hj];exact h2 j hj⟩
theorem a4B {W:World} {base n:Nat} {v:Value} (h:Kd.R eY 26 W base (fun _=>True) v (List.replicate (n+1) ⟨0,1⟩)):∃g c,v= .slice (some ⟨g,0,none⟩) (n+1) c/\base<=g/\gw W g n (fun _=>(0,1)):=by
 obtain ⟨_,inner,ho,hr⟩:=h
 rw [List.length_replicate] at ho
 rcases ho.2 with ⟨_,h0⟩|⟨g,cap,cur,rfl,hb,hh,h1,h2,h3,h4⟩
 ·omega
 ·refine ⟨g,cap,rfl,hb,cur,hh,fun j hj=>?_⟩
  have Af:=hr.2 j ⟨0,1⟩ (by rw [List.getElem?_replicate,if_pos (by omega)])
  have hop:=oY Af
  have hsz:(eY).sz=2:=rfl
  rw [hsz] at hop h4
  have e:∀i,i<2->cur[j*2+i]? =([Value.int .i64 0,.int .i64 1]:List Value)[i]? :=by
   intro i hi
   rw [<-hop,List.getElem?_take,if_pos hi,List.getElem?_drop,<-h4,List.getElem?_take,if_pos (by omega)]
   simp
  exact ⟨e 0 (by omega),e 1 (by omega)⟩
abbrev uw:Kd (Nat×Nat×Nat):=Kd.scalar (fun x:Nat×Nat×Nat=>Value.slice (some ⟨x.1,0,none⟩) x.2.1 x.2.2) (fun _=>rfl)
def lV (W:World) (gR n:Nat) (g cp:Nat->Nat):Prop:=∃cs:Array Value,W.heap[gR]? =some (.cells cs 27 (0,0))/\∀i,i<n->cs[i]? =some (.slice (some ⟨g i,0,none⟩) (n+1) (cp i))
theorem a4C {W:World} {base n:Nat} {v:Value} {g cp:Nat->Nat} (hn:0<n) (h:Kd.R uw 27 W base (fun _=>True) v ((List.range n).map (fun i=>(g i,n+1,cp i)))):∃gR c,v= .slice (some ⟨gR,0,none⟩) n c/\base<=gR/\lV W gR n g cp:=by
 obtain ⟨_,inner,ho,hr⟩:=h
 rw [List.length_map,List.length_range] at ho
 rcases ho.2 with ⟨_,h0⟩|⟨gR,cap,cur,rfl,hb,hh,h1,h2,h3,h4⟩
 ·omega
 ·refine ⟨gR,cap,rfl,hb,cur,hh,fun i hi=>?_⟩
  have Af:=hr.2 i (g i,n+1,cp i) (by rw [List.getElem?_map,List.getElem?_range hi];rfl)
  have hop:(inner.drop (i*1)).take 1=[.slice (some ⟨g i,0,none⟩) (n+1) (cp i)]:=Af
  have hsz:(uw).sz=1:=rfl
  rw [hsz] at h4
  have e:(List.take 1 (List.drop (i*1) inner))[0]? =some (.slice (some ⟨g i,0,none⟩) (n+1) (cp i)):=by rw [hop];rfl
  rw [List.getElem?_take,if_pos (by omega),List.getElem?_drop,<-h4,List.getElem?_take,if_pos (by omega)] at e
  simpa using e
theorem lV.move {W W1:World} {gR n:Nat} {g cp:Nat->Nat} (h:lV W gR n g cp) (e:W1.heap[gR]? =W.heap[gR]?):lV W1 gR n g cp:=by
 obtain ⟨cs,h1,h2⟩:=h;exact ⟨cs,e.trans h1,h2⟩
theorem lV.lt {W:World} {gR n:Nat} {g cp:Nat->Nat} (h:lV W gR n g cp):gR<W.heap.size:=by
 obtain ⟨cs,h1,_⟩:=h;exact aZ h1
theorem lV.below {W W1:World} {gR n:Nat} {g cp:Nat->Nat} (h:lV W gR n g cp) (hb:Below W.heap.size W W1):lV W1 gR n g cp:=h.move (hb.block _ h.lt)
theorem lV.at {W:World} {gR n i:Nat} {g cp:Nat->Nat} (h:lV W gR n g cp) (hi:i<n):W.cell? ⟨gR,i,none⟩=some (.slice (some ⟨g i,0,none⟩) (n+1) (cp i)):=by
 obtain ⟨cs,h1,h2⟩:=h;exact br h1 (h2 i hi)
theorem lV.frozen {W:World} {gR n:Nat} {g cp:Nat->Nat} (h:lV W gR n g cp) (i:Nat):W.frozen? ⟨gR,i,none⟩=false:=by
 obtain ⟨cs,h1,_⟩:=h;exact aa h1 i
theorem lV.other {W:World} {gR g' n k:Nat} {v:Value} {g cp:Nat->Nat} (h:lV W gR n g cp) (hne:gR≠g'):lV (W.setCell ⟨g',k,none⟩ v) gR n g cp:=by
 obtain ⟨cs,h1,h2⟩:=h;exact ⟨cs,bn h1 hne,h2⟩
theorem lV.ne {W:World} {gR n k:Nat} {g cp:Nat->Nat} {q:Nat->Int×Int} (h:lV W gR n g cp) (hr:gw W k n q):k≠gR:=by
 obtain ⟨cs,h1,_⟩:=h;obtain ⟨cs',h2,_⟩:=hr
 exact Ue h2 h1 (by decide)
theorem lV.put {W:World} {gR n i:Nat} {g cp:Nat->Nat} (h:lV W gR n g cp) (hi:i<n) (a b:Nat):lV (W.setCell ⟨gR,i,none⟩ (.slice (some ⟨a,0,none⟩) (n+1) b)) gR n (fun k=>if k=i then a else g k) (fun k=>if k=i then b else cp k):=by
 obtain ⟨cs,h1,h2⟩:=h
 have hs1:=(Array.getElem?_eq_some_iff.1 (h2 i hi)).1
 refine ⟨_,heap_set h1,fun k hk=>?_⟩
 by_cases e:k=i
 ·subst e
  rw [Array.getElem?_setIfInBounds,if_pos rfl,if_pos hs1]
  show _=some (Value.slice (some ⟨if k=k then a else g k,0,none⟩) (n+1) (if k=k then b else cp k))
  rw [if_pos rfl,if_pos rfl]
 ·rw [Array.getElem?_setIfInBounds_ne (by omega),h2 k hk]
  show _=some (Value.slice (some ⟨if k=i then a else g k,0,none⟩) (n+1) (if k=i then b else cp k))
  rw [if_neg e,if_neg e]
section
variable {x y:Rat} {a b c d:Nat}
theorem Qp (w:World) (hx:Sz a b x) (hy:Sz c d y) (h1:a*d<=9223372036854775807) (h2:b*c<=9223372036854775807) (hy0:y≠0):
 Calls Try.prog 62 #[V x,V y] w fun e w'=>e= .returned (V (x/y))/\Below w.heap.size w w':=by
 obtain ⟨k,hk⟩:=Ev.rounds (a4y hx hy h1 h2 hy0)
 exact ku.calls k x.num x.den y.num y.den _ _ w hk
theorem ZQ (w:World) (hx:Sz a b x) (hy:Sz c d y) (h1:a*c<=9223372036854775807) (h2:b*d<=9223372036854775807):
 Calls Try.prog 64 #[V x,V y] w fun e w'=>e= .returned (V (x*y))/\Below w.heap.size w w':=by
 obtain ⟨k,hk⟩:=Ev.rounds (ZK hx hy h1 h2)
 exact jD.calls k x.num x.den y.num y.den _ _ w hk
theorem ZR (w:World) (hx:Sz a b x) (hy:Sz c d y) (h1:a*d+c*b<=9223372036854775807) (h2:b*d<=9223372036854775807):
 Calls Try.prog 63 #[V x,V y] w fun e w'=>e= .returned (V (x - y))/\Below w.heap.size w w':=by
 obtain ⟨k,hk⟩:=Ev.rounds (ZJ hx hy h1 h2)
 exact jC.calls k x.num x.den y.num y.den _ _ w hk
end
theorem Ny (n:Nat) (hn:n<=1048576):Ev (fun k=>bR.f k (n:Int)) (List.replicate n ⟨0,1⟩):=by
 unfold bR.f
 have key:∀d i,i+d=n->Ev (fun k=>bR.l0 k (n:Int) (List.replicate i ⟨0,1⟩) (i:Int)) (List.replicate n ⟨0,1⟩):=by
  intro d
  induction d with
  |zero=>
   intro i hi
   refine Ev.succ ?_
   simp only [bR.l0]
   rw [show i=n by omega]
   exact Ev.neg (by omega) (Ev.now _)
  |succ d ih=>
   intro i hi
   have ih:=ih (i+1) (by omega)
   refine Ev.succ ?_
   simp only [bR.l0,eR (show i<=9223372036854775806 by omega)]
   refine Ev.pos (by omega) (Ev.pos (by simp;omega) ?_)
   rw [List.replicate_succ'] at ih
   exact ih
 exact key n 0 (by omega)
theorem a4D (n:Nat) (hn:n<=1048575) (w:World):Calls Try.prog 24 #[.int .i64 ((n+1:Nat):Int)] w fun e w'=>∃g c,e= .returned (.slice (some ⟨g,0,none⟩) (n+1) c)/\w.heap.size<=g/\gw w' g n (fun _=>(0,1))/\Below w.heap.size w w':=by
 obtain ⟨k,hk⟩:=Ev.rounds (Ny (n+1) (by omega))
 refine (bR.calls k _ _ w hk).mono ?_
 rintro e w1 ⟨v,rfl,hr,hb⟩
 obtain ⟨g,c,rfl,hg,hB⟩:=a4B hr
 exact ⟨g,c,rfl,hg,hB,hb⟩
end Go.Proofs.Ytnhknojfpjheoaa.PT
