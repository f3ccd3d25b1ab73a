/-
  Part 12 of the proof of this: The law FnExactCoverOf answers true at every argument.
-/
import Derived.Test.YtnhknojfpjheoaaKCoverOf2
import Derived.Test.YtnhknojfpjheoaaKCoverOf4
import Derived.Test.YtnhknojfpjheoaaKCoverOf7
import Derived.Test.YtnhknojfpjheoaaKCoverOf10
import Derived.Test.YtnhknojfpjheoaaKCoverOf11
namespace Go.Proofs.Ytnhknojfpjheoaa.PT
open Go.RowKit Go.Proofs.Ytnhknojfpjheoaa.P Go.Proofs.YtnhknojfpjheoaaW.PrintWords Go.Proofs.YtnhknojfpjheoaaW.PrintLast Go.Proofs.Ytnhknojfpjheoaa.EvKit Go.Proofs.Ytnhknojfpjheoaa.Num Go.Proofs.Ytnhknojfpjheoaa.Lp
set_option linter.all false
theorem Rl (l:List Int) (x:Int) (hl:l.length<=1048576):Ev (fun k=>ct.f k l x) (decide (x∈l)):=by
 unfold ct.f
 have:=Ev.loop (g:=fun k i=>ct.l0 k x l (l.length:Int) (i:Int)) (n:=l.length) (R:=fun i=>decide (x∈l.drop i)) ?_ ?_ 0 (Nat.zero_le _)
 ·simpa using this
 ·refine Ev.succ ?_
  simp only [ct.l0]
  exact Ev.neg (by omega) (by simpa using Ev.now _)
 ·intro i hi ih
  refine Ev.succ ?_
  simp only [ct.l0,qy hi,eR (show i<=9223372036854775806 by omega)]
  refine Ev.pos (by omega) (Ev.pos (by omega) (Ev.pos (by omega) ?_))
  have e:decide (x∈l.drop i)=(decide (x=l[i])||decide (x∈l.drop (i+1))):=by
   rw [og hi];simp only [List.mem_cons,Bool.decide_or]
  show Ev _ (decide (x∈l.drop i))
  rw [e]
  by_cases h:x=l[i]
  ·refine Ev.pos h (Ev.to (Ev.now _) ?_)
   rw [decide_eq_true h];rfl
  ·refine Ev.neg h (Ev.to ih ?_)
   rw [decide_eq_false h];rfl
abbrev xF:=Bool×Int×Int×List bM×List bM
def qZ:xF:=(false,0,0,[],[])
def gA (au:List Int) (ag:List (List Int)) (i j:Nat):Bool:=decide (au.getD i 0∈ag.getD j [])
def jH (au:List Int) (ag:List (List Int)) (i j:Nat):Bool:=gA au ag j i
def jX (au:List Int) (ag:List (List Int)) (i:Nat):Bool:= !(places (jH au ag i) au.length).isEmpty
section
variable {au:List Int} {ag:List (List Int)}
theorem Et {l:List (List Int)} {i:Nat} (h:i<l.length):dH l (i:Int)=l.getD i []:=by
 show l.getD (i:Int).toNat _=_
 rw [Int.toNat_natCast]
theorem zH {l:List Int} {i:Nat} (h:i<l.length):l[i]=l.getD i 0:=by simp [List.getD_eq_getElem?_getD,h]
variable (hnb:au.length<=6) (hne:ag.length<=7) (hr:∀j,(ag.getD j []).length<=1048576)
include hnb hne hr
theorem a9l (x8 si:List cq) (i:Nat) (R:xF) (hx14:si.length<=100) (hi:i<ag.length)
 (hend:∀a0R,a0R=si++(if jX au ag i=true then [lH (jH au ag) au.length true i] else [])->Ev (fun k=>ay.l3 k au ag x8 a0R ag (ag.length:Int) ((i+1:Nat):Int)) R):
 ∀m j,j+m=au.length->Ev (fun k=>ay.l4 k au ag x8 si (ag.getD i []) ag (ag.length:Int) (i:Int) au (au.length:Int) (j:Int) (places (jH au ag i) j) true 1) R:=by
 intro m
 induction m with
 |zero=>
  intro j hj
  have e:j=au.length:=by omega
  subst e
  refine Ev.succ ?_
  simp only [ay.l4,eR (show i<=9223372036854775806 by omega)]
  refine Ev.neg (by omega) ?_
  by_cases h:(places (jH au ag i) au.length)=[]
  ·have h0:jX au ag i=false:=by unfold jX;rw [h];rfl
   have:=hend si (by rw [h0];simp)
   refine Ev.neg (by rw [h];simp) ?_
   exact this
  ·have h0:jX au ag i=true:=by
    unfold jX;cases hh:places (jH au ag i) au.length with
    |nil=>exact absurd hh h
    |cons a l=>rfl
   have:=hend (si++[lH (jH au ag) au.length true i]) (by rw [h0];simp)
   refine Ev.pos (by
    have:0<(places (jH au ag i) au.length).length:=List.length_pos_iff.2 h
    omega) (Ev.pos (by omega) ?_)
   exact this
 |succ m ih=>
  intro j hj
  have hlt:j<au.length:=by omega
  refine Ev.succ ?_
  simp only [ay.l4,qy hlt,eR (show j<=9223372036854775806 by omega)]
  refine Ev.pos (by omega) (Ev.pos (by omega) (Ev.pos (by omega) (Ev.bind (Rl _ _ (hr i)) ?_)))
  have ih:=ih (j+1) (by omega)
  rw [xz] at ih
  have hp:jH au ag i j=decide (au[j]∈ag.getD i []):=by unfold jH gA;rw [zH hlt]
  have hpl:=zE (jH au ag i) j
  by_cases h:au[j]∈ag.getD i []
  ·rw [hp,if_pos (decide_eq_true h)] at ih
   refine Ev.pos (decide_eq_true h) (Ev.pos (by omega) ih)
  ·rw [hp,if_neg (by rw [decide_eq_false h];decide)] at ih
   simp only [List.append_nil] at ih
   refine Ev.neg (by rw [decide_eq_false h];decide) ih
theorem a9m (R:xF) (hend:Ev (fun k=>ay.l5 k au ag (lW (gA au ag) ag.length au.length false (fun _=>true)) (((List.range ag.length).filter (jX au ag)).map (lH (jH au ag) au.length true)) (au.length:Int) (0:Int)) R):
 ∀m i,i+m=ag.length->Ev (fun k=>ay.l3 k au ag ((List.range au.length).map (lH (gA au ag) ag.length false)++(List.range i).map qX) (((List.range i).filter (jX au ag)).map (lH (jH au ag) au.length true)) ag (ag.length:Int) (i:Int)) R:=by
 intro m
 induction m with
 |zero=>
  intro i hi
  have e:i=ag.length:=by omega
  subst e
  refine Ev.succ ?_
  simp only [ay.l3]
  refine Ev.neg (by omega) ?_
  have e:lW (gA au ag) ag.length au.length false (fun _=>true)=(List.range au.length).map (lH (gA au ag) ag.length false)++(List.range ag.length).map qX:=by
   unfold lW
   rw [List.filter_eq_self.2 (fun _ _=>rfl)]
  rw [e] at hend
  exact hend
 |succ m ih=>
  intro i hi
  have hlt:i<ag.length:=by omega
  refine Ev.succ ?_
  simp only [ay.l3,Et hlt]
  have hl2:=List.length_filter_le (jX au ag) (List.range i)
  rw [List.length_range] at hl2
  refine Ev.pos (by omega) (Ev.pos (by omega) (Ev.pos (by omega) (Ev.pos (by simp only [List.length_append,List.length_map,List.length_range];omega) ?_)))
  refine a9l hnb hne hr _ _ i R (by rw [List.length_map];omega) hlt (fun a0R e=>?_) au.length 0 (by omega)
  subst e
  have ih:=ih (i+1) (by omega)
  have e1:(List.range (i+1)).map qX=(List.range i).map qX++[qX i]:=by rw [List.range_succ,List.map_append,List.map_singleton]
  have e2:((List.range (i+1)).filter (jX au ag)).map (lH (jH au ag) au.length true)=((List.range i).filter (jX au ag)).map (lH (jH au ag) au.length true)++(if jX au ag i=true then [lH (jH au ag) au.length true i] else []):=by
   rw [List.range_succ,List.filter_append,List.map_append]
   congr 1
   cases h:jX au ag i<;>simp [List.filter_cons,h]
  rw [e1,e2,<-List.append_assoc] at ih
  exact ih
theorem a9n (R:xF) (x8:List cq) (hend:Ev (fun k=>ay.l5 k au ag x8 (lW (jH au ag) au.length ag.length true (jX au ag)) (au.length:Int) (au.length:Int)) R):
 ∀m i,i+m=au.length->Ev (fun k=>ay.l5 k au ag x8 (((List.range ag.length).filter (jX au ag)).map (lH (jH au ag) au.length true)++(List.range i).map qX) (au.length:Int) (i:Int)) R:=by
 intro m
 induction m with
 |zero=>
  intro i hi
  have e:i=au.length:=by omega
  subst e
  exact hend
 |succ m ih=>
  intro i hi
  refine Ev.succ ?_
  simp only [ay.l5,eR (show i<=9223372036854775806 by omega)]
  have hl2:=List.length_filter_le (jX au ag) (List.range ag.length)
  rw [List.length_range] at hl2
  refine Ev.pos (by omega) (Ev.pos (by simp only [List.length_append,List.length_map,List.length_range];omega) ?_)
  have ih:=ih (i+1) (by omega)
  have e1:(List.range (i+1)).map qX=(List.range i).map qX++[qX i]:=by rw [List.range_succ,List.map_append,List.map_singleton]
  rw [e1,<-List.append_assoc] at ih
  exact ih
theorem a9o (x8:List cq) (i:Nat) (R:xF) (hx8:x8.length<=100) (hi:i<au.length)
 (hend:(places (gA au ag i) ag.length).isEmpty=false->Ev (fun k=>ay.l1 k au ag (x8++[lH (gA au ag) ag.length false i]) au (au.length:Int) ((i+1:Nat):Int)) R):
 ∀m j,j+m=ag.length->Ev (fun k=>ay.l2 k au ag x8 (au.getD i 0) au (au.length:Int) (i:Int) ag (ag.length:Int) (j:Int) (places (gA au ag i) j) false 1) (if (places (gA au ag i) ag.length).isEmpty=true then qZ else R):=by
 intro m
 induction m with
 |zero=>
  intro j hj
  have e:j=ag.length:=by omega
  subst e
  refine Ev.succ ?_
  simp only [ay.l2,eR (show i<=9223372036854775806 by omega)]
  refine Ev.neg (by omega) ?_
  cases h:places (gA au ag i) ag.length with
  |nil=>
   refine Ev.pos (by simp) ?_
   rw [if_pos (show ([]:List Int).isEmpty=true from rfl)];exact Ev.now _
  |cons a l=>
   rw [if_neg (show ¬(a::l).isEmpty=true by simp),<-h]
   refine Ev.neg (by rw [h];simp only [List.length_cons];omega) (Ev.pos (by omega) ?_)
   exact hend (by rw [h];rfl)
 |succ m ih=>
  intro j hj
  have hlt:j<ag.length:=by omega
  refine Ev.succ ?_
  simp only [ay.l2,Et hlt,eR (show j<=9223372036854775806 by omega)]
  refine Ev.pos (by omega) (Ev.pos (by omega) (Ev.pos (by omega) (Ev.bind (Rl _ _ (hr j)) ?_)))
  have ih:=ih (j+1) (by omega)
  rw [xz] at ih
  have hp:gA au ag i j=decide (au.getD i 0∈ag.getD j []):=rfl
  have hpl:=zE (gA au ag i) j
  by_cases h:au.getD i 0∈ag.getD j []
  ·rw [hp,if_pos (decide_eq_true h)] at ih
   refine Ev.pos (decide_eq_true h) (Ev.pos (by omega) ih)
  ·rw [hp,if_neg (by rw [decide_eq_false h];decide)] at ih
   simp only [List.append_nil] at ih
   refine Ev.neg (by rw [decide_eq_false h];decide) ih
def rf (au:List Int) (ag:List (List Int)) (i m:Nat):Bool:=(List.range m).all (fun k=> !(places (gA au ag (i+k)) ag.length).isEmpty)
omit hnb hne hr in
theorem XK (i m:Nat):rf au ag i (m+1)=(!(places (gA au ag i) ag.length).isEmpty&&rf au ag (i+1) m):=by
 unfold rf
 rw [List.range_succ_eq_map,List.all_cons,List.all_map]
 congr 2
 funext k
 show _= !(places (gA au ag (i+1+k)) ag.length).isEmpty
 have:i+1+k=i+(k+1):=by omega
 rw [this];rfl
theorem a9p (R:xF) (hend:rf au ag 0 au.length=true->Ev (fun k=>ay.l3 k au ag ((List.range au.length).map (lH (gA au ag) ag.length false)) [] ag (ag.length:Int) 0) R):
 ∀m i,i+m=au.length->(rf au ag 0 au.length=rf au ag i m)->Ev (fun k=>ay.l1 k au ag ((List.range i).map (lH (gA au ag) ag.length false)) au (au.length:Int) (i:Int)) (if rf au ag i m=true then R else qZ):=by
 intro m
 induction m with
 |zero=>
  intro i hi hc
  have e:i=au.length:=by omega
  subst e
  refine Ev.succ ?_
  simp only [ay.l1]
  refine Ev.neg (by omega) ?_
  have h1:rf au ag au.length 0=true:=rfl
  rw [if_pos h1]
  exact hend (hc.trans h1)
 |succ m ih=>
  intro i hi hc
  have hlt:i<au.length:=by omega
  refine Ev.succ ?_
  simp only [ay.l1,qy hlt]
  refine Ev.pos (by omega) (Ev.pos (by omega) (Ev.pos (by omega) ?_))
  rw [XK] at hc⊢
  have key:=a9o hnb hne hr ((List.range i).map (lH (gA au ag) ag.length false)) i (if rf au ag (i+1) m=true then R else qZ) (by rw [List.length_map,List.length_range];omega) hlt (fun h0=>by
   have hc2:rf au ag 0 au.length=rf au ag (i+1) m:=by rw [hc,h0];simp
   have ih:=ih (i+1) (by omega) hc2
   have e1:(List.range (i+1)).map (lH (gA au ag) ag.length false)=(List.range i).map (lH (gA au ag) ag.length false)++[lH (gA au ag) ag.length false i]:=by rw [List.range_succ,List.map_append,List.map_singleton]
   rw [e1] at ih
   exact ih) ag.length 0 (by omega)
  rw [zH hlt]
  refine Ev.to key ?_
  cases (places (gA au ag i) ag.length).isEmpty<;>simp
end
theorem a0S (au:List Int) (ag:List (List Int)) (hne:ag.length<=1048576) (hr:∀x,x∈ag->x.length<=1048576) (R:xF) (H:Prop) (hend:H->ag.all (kg (-1))=true->Ev (fun k=>ay.l1 k au ag [] au (au.length:Int) 0) R):
 ∀m i b,i+m=ag.length->(b=true->H/\(ag.take i).all (kg (-1))=true)->Ev (fun k=>ay.l0 k au ag b ag (ag.length:Int) (i:Int)) (if b&&(ag.drop i).all (kg (-1)) then R else qZ):=by
 intro m
 induction m with
 |zero=>
  intro i b hi hb
  have e:i=ag.length:=by omega
  subst e
  refine Ev.succ ?_
  simp only [ay.l0]
  refine Ev.neg (by omega) ?_
  rw [List.drop_length]
  cases b with
  |true=>
   refine Ev.pos rfl ?_
   have:=hb rfl
   rw [List.take_length] at this
   simpa using hend this.1 this.2
  |false=>exact Ev.neg (by decide) (Ev.to (Ev.now qZ) rfl)
 |succ m ih=>
  intro i b hi hb
  have hlt:i<ag.length:=by omega
  refine Ev.succ ?_
  have hge:ag.getD i []=ag[i]:=by simp [List.getD_eq_getElem?_getD,hlt]
  simp only [ay.l0,Et hlt,hge,eR (show i<=9223372036854775806 by omega)]
  refine Ev.pos (by omega) (Ev.pos (by omega) (Ev.pos (by omega) ?_))
  have hd:ag.drop i=ag[i]::ag.drop (i+1):=List.drop_eq_getElem_cons hlt
  cases b with
  |true=>
   refine Ev.pos rfl (Ev.bind (Fi _ (by have:=hr _ (List.getElem_mem hlt);omega)) ?_)
   refine Ev.to (ih (i+1) (kg (-1) ag[i]) (by omega) (fun h=>?_)) ?_
   ·refine ⟨(hb rfl).1,?_⟩
    rw [List.take_succ_eq_append_getElem hlt,List.all_append,(hb rfl).2];simp [h]
   ·rw [hd,List.all_cons,Bool.true_and]
  |false=>
   refine Ev.neg (by decide) ?_
   refine Ev.to (ih (i+1) false (by omega) (fun h=>absurd h (by decide))) ?_
   simp
def nT (au:List Int) (ag:List (List Int)):Bool:=kg (-1) au&&decide (ag.length<=7)&&ag.all (kg (-1))
theorem TJ (au:List Int) (ag:List (List Int)) (hb0:au.length<=1048576) (Rm:ag.length<=1048576) (hr:∀x,x∈ag->x.length<=1048576) (R:xF)
 (hend:nT au ag=true->Ev (fun k=>ay.l1 k au ag [] au (au.length:Int) 0) R):
 Ev (fun k=>ay.f k au ag) (if nT au ag=true then R else qZ):=by
 unfold ay.f
 refine Ev.bind (Fi au (by omega)) ?_
 have h0:∀b:Bool,(b=true->kg (-1) au=true/\ag.length<=7)->Ev (fun k=>ay.j0 k au ag b) (if b&&ag.all (kg (-1)) then R else qZ):=by
  intro b hb
  refine Ev.succ ?_
  simp only [ay.j0]
  have:=a0S au ag Rm hr R (b=true) (fun h1 h2=>by
   have:=hb h1
   exact hend (by unfold nT;rw [this.1,h2,decide_eq_true this.2];rfl)) ag.length 0 b (by omega) (fun h=>⟨h,rfl⟩)
  rw [List.drop_zero] at this
  exact this
 unfold nT
 cases hs:kg (-1) au with
 |true=>
  refine Ev.pos rfl (Ev.to (h0 _ (fun h=>⟨hs,by have:=of_decide_eq_true h;omega⟩)) ?_)
  have e:decide ((ag.length:Int)<=7)=decide (ag.length<=7):=by
   by_cases h:ag.length<=7
   ·rw [decide_eq_true h,decide_eq_true (by omega)]
   ·rw [decide_eq_false h,decide_eq_false (by omega)]
  rw [e];simp
 |false=>
  refine Ev.neg (by decide) (Ev.to (h0 false (fun h=>absurd h (by decide))) ?_)
  simp
abbrev Aa:Kd (List Int):=Kd.slice 3 (Kd.int .i64)
theorem GF {W:World} {A:Option Addr} {n:Nat} {xs:List (List Int)} (h:Kd.C Aa W A n xs) (i:Nat) (hi:i<xs.length):
 ∃ad A1 c1,A=some ad/\W.cell? (ad.add i)=some (.slice A1 (xs[i]).length c1)/\(xs[i]).length<=c1/\Kd.C (Kd.int .i64) W A1 (xs[i]).length xs[i]:=by
 have hn:=h.1
 obtain ⟨ad,e,hc⟩:=h.2.2 (by omega)
 obtain ⟨c,hs,⟨A1,c1,rfl,hl,hC⟩,hcell⟩:=hc i _ (List.getElem?_eq_getElem hi)
 have:=hcell 0 _ rfl
 rw [show (Aa).sz=1 from rfl,Nat.mul_one,Nat.add_zero] at this
 exact ⟨ad,A1,c1,e,this,hl,hC⟩
structure mQ (cs:Array Value) (f:Nat->Nat->Int×Int) (eO:Nat->Int) (m N K:Nat):Prop where
 size:cs.size=531
 one:cs.all (·.oneCell')=true
 num:∀i j,i<16->j<16->cs[i*32+j*2]? =some (.int .i64 (f i j).1)
 den:∀i j,i<16->j<16->cs[i*32+j*2+1]? =some (.int .i64 (f i j).2)
 eO:∀r,r<16->cs[512+r]? =some (.int .i64 (eO r))
 rows:cs[528]? =some (.int .i64 (m:Int))
 mO:cs[529]? =some (.int .i64 (N:Int))
 costs:cs[530]? =some (.int .i64 (K:Int))
theorem mQ.put {cs:Array Value} {f:Nat->Nat->Int×Int} {eO:Nat->Int} {m N K:Nat} (h:mQ cs f eO m N K) {i j:Nat} (hi:i<16) (hj:j<16) (p:Int×Int):
 mQ ((cs.setIfInBounds (i*32+j*2) (.int .i64 p.1)).setIfInBounds (i*32+j*2+1) (.int .i64 p.2)) (fun i' j'=>if i'=i/\j'=j then p else f i' j') eO m N K:=by
 have hs:=h.size
 have far:∀k,512<=k->((cs.setIfInBounds (i*32+j*2) (.int .i64 p.1)).setIfInBounds (i*32+j*2+1) (.int .i64 p.2))[k]? =cs[k]? :=by
  intro k hk
  rw [Array.getElem?_setIfInBounds_ne (by omega),Array.getElem?_setIfInBounds_ne (by omega)]
 refine ⟨by simp [hs],pX (pX h.one rfl) rfl,fun i' j' hi' hj'=>?_,fun i' j' hi' hj'=>?_,fun r hr=>?_,?_,?_,?_⟩
 ·by_cases e:i'=i/\j'=j
  ·obtain ⟨rfl,rfl⟩:=e
   rw [Array.getElem?_setIfInBounds_ne (by omega),Array.getElem?_setIfInBounds,if_pos rfl,if_pos (by omega),if_pos ⟨rfl,rfl⟩]
  ·rw [Array.getElem?_setIfInBounds_ne (by omega),Array.getElem?_setIfInBounds_ne (by omega),h.num i' j' hi' hj',if_neg e]
 ·by_cases e:i'=i/\j'=j
  ·obtain ⟨rfl,rfl⟩:=e
   rw [Array.getElem?_setIfInBounds,if_pos rfl,if_pos (by simp;omega),if_pos ⟨rfl,rfl⟩]
  ·rw [Array.getElem?_setIfInBounds_ne (by omega),Array.getElem?_setIfInBounds_ne (by omega),h.den i' j' hi' hj',if_neg e]
 ·rw [far _ (by omega)];exact h.eO r hr
 ·rw [far _ (by omega)];exact h.rows
 ·rw [far _ (by omega)];exact h.mO
 ·rw [far _ (by omega)];exact h.costs
theorem mQ.b5V {cs:Array Value} {f:Nat->Nat->Int×Int} {eO:Nat->Int} {m N K:Nat} (h:mQ cs f eO m N K) {i:Nat} (hi:i<16) (x:Int):
 mQ (cs.setIfInBounds (512+i) (.int .i64 x)) f (fun r=>if r=i then x else eO r) m N K:=by
 have hs:=h.size
 refine ⟨by simp [hs],pX h.one rfl,fun i' j' hi' hj'=>?_,fun i' j' hi' hj'=>?_,fun r hr=>?_,?_,?_,?_⟩
 ·rw [Array.getElem?_setIfInBounds_ne (by omega)];exact h.num i' j' hi' hj'
 ·rw [Array.getElem?_setIfInBounds_ne (by omega)];exact h.den i' j' hi' hj'
 ·by_cases e:r=i
  ·subst e
   rw [Array.getElem?_setIfInBounds,if_pos rfl,if_pos (by omega),if_pos rfl]
  ·rw [Array.getElem?_setIfInBounds_ne (by omega),if_neg e];exact h.eO r hr
 ·rw [Array.getElem?_setIfInBounds_ne (by omega)];exact h.rows
 ·rw [Array.getElem?_setIfInBounds_ne (by omega)];exact h.mO
 ·rw [Array.getElem?_setIfInBounds_ne (by omega)];exact h.costs
noncomputable abbrev bt (m N K:Int):Array Value:=((Try.zeroCells62.setIfInBounds 528 (.int .i64 m)).setIfInBounds 529 (.int .i64 N)).setIfInBounds 530 (.int .i64 K)
theorem TK:Try.zeroCells62=(List.replicate 531 (Value.int .i64 0)).toArray:=by kernel_rfl
theorem b2c (k:Nat) (h:k<531):(Try.zeroCells62)[k]? =some (.int .i64 0):=by
 rw [TK,List.getElem?_toArray,List.getElem?_replicate,if_pos h]
theorem a9q:(Try.zeroCells62).all (·.oneCell')=true:=by
 rw [TK,Array.all_eq_true_iff_forall_mem]
 intro x hx
 have:=List.eq_of_mem_replicate (List.mem_toArray.1 hx)
 rw [this];rfl
theorem a9r (m N K:Nat):mQ (bt m N K) (fun _ _=>(0,0)) (fun _=>0) m N K:=by
 have hs:(Try.zeroCells62).size=531:=by rw [TK,List.size_toArray,List.length_replicate]
 have at0:∀k,k<528->(bt m N K)[k]? =some (.int .i64 0):=by
  intro k hk
  rw [Array.getElem?_setIfInBounds_ne (by omega),Array.getElem?_setIfInBounds_ne (by omega),Array.getElem?_setIfInBounds_ne (by omega),b2c k (by omega)]
 refine ⟨by simp [hs],pX (pX (pX a9q rfl) rfl) rfl,fun i j hi hj=>at0 _ (by omega),fun i j hi hj=>at0 _ (by omega),fun r hr=>at0 _ (by omega),?_,?_,?_⟩
 ·rw [Array.getElem?_setIfInBounds_ne (by omega),Array.getElem?_setIfInBounds_ne (by omega),Array.getElem?_setIfInBounds,if_pos rfl,if_pos (by rw [hs];omega)]
 ·rw [Array.getElem?_setIfInBounds_ne (by omega),Array.getElem?_setIfInBounds,if_pos rfl,if_pos (by simp [hs])]
 ·rw [Array.getElem?_setIfInBounds,if_pos rfl,if_pos (by simp [hs])]
def zI (m:Nat) (sum:Int) (j i' j':Nat):Int×Int:=
 if i'=m/\j'<j then (sum,1) else if j'<j/\i'=m+1+j' then (1,1) else (0,1)
def Bv (rows:List (List Int)) (n m:Nat) (right:Int) (i j:Nat):Int×Int:=
 if j<n then ((rows.getD i []).getD j 0,1) else if j=n+m then (right,1) else if j=n+i then (1,1) else (0,1)
set_option maxHeartbeats 2000000 in
set_option maxRecDepth 100000 in
theorem Dd (n m:Nat) (rows:List (List Int)) (A:Option Addr) (c:Nat) (sum right:Int) (w:World) (hC:Kd.C Aa w A rows.length rows) (hc:rows.length<=c) (hm:rows.length=m) (hl:∀x,x∈rows->x.length=n) (hs:m+(n+1)<=16) (hN:n+m<16):
 Calls Try.prog 33 #[.slice A rows.length c,.int .i64 (n:Int),.int .i64 sum,.int .i64 right] w fun e w'=>∃cs',e= .returned (.agg cs')/\gf cs' m (n+m) (n+1) (init n m (fun i j=>(((rows.getD i []).getD j 0:Int):Rat)) (fun _=>(right:Rat)) (sum:Rat))/\Below w.heap.size w w':=by
 have hu:=Try.underlying62
 have HC:=Aside0.mk hC
 have HM:=Aside0.mk hm
 have HL:=Aside0.mk hl
 have HW:=Aside0.mk (fun x W=>uE.calls x x 1 W rfl)
 have hw1:IntKind.i64.wrap ((n:Int)+(rows.length:Int))=((n+m:Nat):Int):=by rw [hm,cZ,cO (by omega) (by omega)];rfl
 have hw2:IntKind.i64.wrap ((n:Int)+1)=((n+1:Nat):Int):=by rw [cZ,cO (by omega) (by omega)];rfl
 clear hC hl
 go_enter Try.func33,Try.ntmps33
 have dO:Aside0 (((w.alloc (.cells Try.zeroCells62 62)).alloc (.cells Try.zeroCells62 62)).heap[w.heap.size+1]? =some (.cells Try.zeroCells62 62 (0,0))):=⟨by have:=di (w.alloc (.cells Try.zeroCells62 62)) (.cells Try.zeroCells62 62);rw [oQ] at this;exact this⟩
 have lG:Aside0 (((w.alloc (.cells Try.zeroCells62 62)).alloc (.cells Try.zeroCells62 62)).heap[w.heap.size]? =some (.cells Try.zeroCells62 62 (0,0))):=⟨ak (di w _) _⟩
 have kO:Aside0 (Below w.heap.size w ((w.alloc (.cells Try.zeroCells62 62)).alloc (.cells Try.zeroCells62 62))):=⟨bA (bA (Below.refl _ _) _) _⟩
 have eE:=Aside0.mk (a9r m (n+m) (n+1))
 have HI:Aside0 ((Try.prog.info? 62).map (·.size)=some 531):=⟨by kernel_rfl⟩
 have HZ:Aside0 ((Try.zeroCells62).size=531):=⟨by kernel_rfl⟩
 go_wp2_with (first|((with_reducible refine iR (t:=62) (p:=9) rfl ?_);refine wpList_store_row rfl 62 (.tmp 9) (.tmp 25) rfl (w.heap.size+1) (bt m ((n+m:Nat):Int) ((n+1:Nat):Int)) rfl rfl 62 Try.zeroCells62 dO.out (by rw [eE.out.size];exact HI.out) (by rw [eE.out.size];exact HZ.out) eE.out.one ?_))
 have HA:Aside0 ((((w.alloc (.cells Try.zeroCells62 62)).alloc (.cells Try.zeroCells62 62)).setRow (w.heap.size+1) (bt m ((n+m:Nat):Int) ((n+1:Nat):Int))).heap[w.heap.size+1]? =some (.cells (bt m ((n+m:Nat):Int) ((n+1:Nat):Int)) 62 (0,0))):=⟨qV dO.out⟩
 have jt:Aside0 ((((w.alloc (.cells Try.zeroCells62 62)).alloc (.cells Try.zeroCells62 62)).setRow (w.heap.size+1) (bt m ((n+m:Nat):Int) ((n+1:Nat):Int))).heap[w.heap.size]? =some (.cells Try.zeroCells62 62 (0,0))):=⟨sM lG.out (by omega)⟩
 have cr:Aside0 (Below w.heap.size w (((w.alloc (.cells Try.zeroCells62 62)).alloc (.cells Try.zeroCells62 62)).setRow (w.heap.size+1) (bt m ((n+m:Nat):Int) ((n+1:Nat):Int)))):=⟨pH kO.out (by omega)⟩
 change Code.wp _ _ _ _ (((w.alloc (.cells Try.zeroCells62 62)).alloc (.cells Try.zeroCells62 62)).setRow (w.heap.size+1) (bt m ((n+m:Nat):Int) ((n+1:Nat):Int)))
 clear lG dO kO
 generalize ((w.alloc (.cells Try.zeroCells62 62)).alloc (.cells Try.zeroCells62 62)).setRow (w.heap.size+1) (bt m ((n+m:Nat):Int) ((n+1:Nat):Int))=w2 at*
 generalize bt m ((n+m:Nat):Int) ((n+1:Nat):Int)=cs0 at*
 go_loopw [26] (fun iv wr=>∃(i:Nat) (cs1:Array Value),iv= .int .i64 (i:Int)/\i<=16/\Aside0 (∃f,mQ cs1 f (fun _=>0) m (n+m) (n+1)/\∀i' j',i'<i->j'<16->f i' j'=(0,1))/\Aside0 (wr.heap[w.heap.size+1]? =some (.cells cs1 62 (0,0)))/\Aside0 (wr.heap[w.heap.size]? =some (.cells Try.zeroCells62 62 (0,0)))/\Aside0 (Below w.heap.size w wr)) (fun iv _=>16 -(intOf iv).toNat)
 case atStart=>exact ⟨0,cs0,rfl,by omega,⟨_,eE.out,fun i' j' h=>by omega⟩,HA,jt,cr⟩
 case round=>
  clear HA jt cr eE
  obtain ⟨i,cs1,rfl,hi,HF,HA,jt,cr⟩:=hrel
  by_cases a0T:i<16
  ·have mR:=Aside0.mk a0T
   have g1:(0:Int)<=(i:Int):=by omega
   have g2:(i:Int)<16:=by omega
   have XL:decide ((i:Int)<16)=true:=decide_eq_true g2
   have ru:Aside0 (wrap64 ((i:Int)+1)=((i+1:Nat):Int)):=⟨eR (by omega)⟩
   clear a0T hi
   go_wp2
   go_loopw [29] (fun jv wr=>∃(j:Nat) (cs1:Array Value),jv= .int .i64 (j:Int)/\j<=16/\Aside0 (∃f,mQ cs1 f (fun _=>0) m (n+m) (n+1)/\∀i' j',(i'<i∨(i'=i/\j'<j))->j'<16->f i' j'=(0,1))/\Aside0 (wr.heap[w.heap.size+1]? =some (.cells cs1 62 (0,0)))/\Aside0 (wr.heap[w.heap.size]? =some (.cells Try.zeroCells62 62 (0,0)))/\Aside0 (Below w.heap.size w wr)) (fun jv _=>16 -(intOf jv).toNat)
   case atStart=>exact ⟨0,cs1,rfl,by omega,⟨by obtain ⟨f,h1,h2⟩:=HF.out;exact ⟨f,h1,fun i' j' h hj=>h2 i' j' (by omega) hj⟩⟩,HA,jt,cr⟩
   case round=>
    clear HA jt cr HF
    obtain ⟨j,cs1,rfl,hj,HF,HA,jt,cr⟩:=hrel
    by_cases TL:j<16
    ·have oy:=Aside0.mk TL
     have g3:(0:Int)<=(j:Int):=by omega
     have g4:(j:Int)<16:=by omega
     have XM:decide ((j:Int)<16)=true:=decide_eq_true g4
     have rR:Aside0 (wrap64 ((j:Int)+1)=((j+1:Nat):Int)):=⟨eR (by omega)⟩
     obtain ⟨f,nY,hf2⟩:=HF.out
     have vP:Aside0 (∃f,mQ ((cs1.setIfInBounds (i*32+j*2) (.int .i64 0)).setIfInBounds (i*32+j*2+1) (.int .i64 1)) f (fun _=>0) m (n+m) (n+1)/\∀i' j',(i'<i∨(i'=i/\j'<j+1))->j'<16->f i' j'=(0,1)):=⟨_,nY.put mR.out TL (0,1),fun i' j' h hj'=>by
      show (if i'=i/\j'=j then _ else _)=_
      by_cases e:i'=i/\j'=j
      ·rw [if_pos e]
      ·rw [if_neg e];exact hf2 i' j' (by omega) hj'⟩
     have iJ:=Aside0.mk nY
     clear TL hj nY hf2 HF
     go_wp2
     have HD:=Aside0.mk (aj HA.out)
     have tZ:=Aside0.mk (aj jt.out)
     have nB:=Aside0.mk (bB cr.out)
     clear HA jt cr
     refine eX (n:=7) (S:=fun w_=>True) (ds:=[6]) #[false,false,false,false,false,false,false] (by kernel_rfl) rfl rfl trivial (fun hHeld=>?_)
     generalize wr.drew=w4 at*
     refine aX (i:=0) (N:=some 32) ?_
     refine aX (i:=1) (N:=some 33) ?_
     refine aX (i:=3) (N:=some 35) ?_
     refine aX (i:=4) (N:=some 36) ?_
     refine fA (i:=2) (N:=some 34) #[true,true,true,true,true,false,false] rfl rfl (by kernel_rfl) (by decide) (fun K hK=>?_)
     refine nG Try.func55 (by kernel_rfl) rfl #[.int .i64 0] (by rfl) rfl rfl (by (try simp only [List.map_toArray,List.map_cons,List.map_nil]);first|done|rfl) ?_
     refine (HW.out _ _).mono ?_
     rintro e w5 ⟨rfl,jg⟩
     have HE:=Aside0.mk (ai HD.out jg)
     have ua:=Aside0.mk (ai tZ.out jg)
     have pK:=Aside0.mk (ah nB.out jg)
     clear HD tZ nB jg
     refine ⟨_,rfl,?_⟩
     refine hK.out _ _ trivial (fun hHeld=>?_)
     clear hK K hHeld
     refine eF (a':=?_) ?_ ?_
     rotate_left
     ·show Act.put _ (some 34) _=_
      simp only [Act.put,List.setIfInBounds_toArray,List.set_cons_zero,List.set_cons_succ,cZ,dX]
      rfl
     refine aX (i:=5) (N:=some 37) ?_
     refine pP (i:=6) (N:=none) #[true,true,true,true,true,true,true] rfl rfl (by kernel_rfl) (by decide) (fun K hK=>?_)
     have h1:=br HE.out (iJ.out.num i j (by have:=mR.out;omega) (by have:=oy.out;omega))
     have h2:=br HE.out (iJ.out.den i j (by have:=mR.out;omega) (by have:=oy.out;omega))
     have h3:=aa HE.out (i*32+j*2)
     have h4:=aa HE.out (i*32+j*2+1)
     refine kY (w1:=?_) (by rfl) rfl ?_ ?_
     rotate_left
     ·go_simp
      rfl
     refine hK.out _ _ ?_
     clear hK K
     refine fV (by kernel_rfl) ?_
     have HA:Aside0 (((w5.setCell ⟨w.heap.size+1,i*32+j*2,none⟩ (.int .i64 0)).setCell ⟨w.heap.size+1,i*32+j*2+1,none⟩ (.int .i64 1)).heap[w.heap.size+1]? =some (.cells ((cs1.setIfInBounds (i*32+j*2) (.int .i64 0)).setIfInBounds (i*32+j*2+1) (.int .i64 1)) 62 (0,0))):=⟨heap_set (heap_set HE.out)⟩
     have jt:Aside0 (((w5.setCell ⟨w.heap.size+1,i*32+j*2,none⟩ (.int .i64 0)).setCell ⟨w.heap.size+1,i*32+j*2+1,none⟩ (.int .i64 1)).heap[w.heap.size]? =some (.cells Try.zeroCells62 62 (0,0))):=⟨bn (bn ua.out (by omega)) (by omega)⟩
     have cr:Aside0 (Below w.heap.size w ((w5.setCell ⟨w.heap.size+1,i*32+j*2,none⟩ (.int .i64 0)).setCell ⟨w.heap.size+1,i*32+j*2+1,none⟩ (.int .i64 1))):=⟨bC (bC pK.out (by omega)) (by omega)⟩
     clear HE ua pK h1 h2 h3 h4 iJ
     generalize ((w5.setCell ⟨w.heap.size+1,i*32+j*2,none⟩ (.int .i64 0)).setCell ⟨w.heap.size+1,i*32+j*2+1,none⟩ (.int .i64 1))=w6 at*
     generalize ((cs1.setIfInBounds (i*32+j*2) (.int .i64 0)).setIfInBounds (i*32+j*2+1) (.int .i64 1))=AR at*
     go_wp2
     go_roundw
     case rel=>exact ⟨j+1,AR,by first|(rw [rR.out];done)|rfl|(simp;done),oy.out,vP,HA,jt,cr⟩
     case measure=>(try rw [rR.out]);have:=oy.out;simp [intOf];omega
    ·have XM:decide ((j:Int)<16)=false:=decide_eq_false (by omega)
     have hj':j=16:=by omega
     have Nw:Aside0 (∃f,mQ cs1 f (fun _=>0) m (n+m) (n+1)/\∀i' j',i'<i+1->j'<16->f i' j'=(0,1)):=⟨by obtain ⟨f,h1,h2⟩:=HF.out;exact ⟨f,h1,fun i' j' h hj=>h2 i' j' (by omega) hj⟩⟩
     clear hj' TL hj HF
     go_wp2
     go_roundw
     case rel=>exact ⟨i+1,cs1,by first|(rw [ru.out];done)|rfl|(simp;done),mR.out,Nw,HA,jt,cr⟩
     case measure=>(try rw [ru.out]);have:=mR.out;simp [intOf];omega
  ·have XL:decide ((i:Int)<16)=false:=decide_eq_false (by omega)
   have zV:Aside0 (∃f,mQ cs1 f (fun _=>0) m (n+m) (n+1)/\∀i' j',i'<16->j'<16->f i' j'=(0,1)):=⟨by obtain ⟨f,h1,h2⟩:=HF.out;exact ⟨f,h1,fun i' j' h hj=>h2 i' j' (by omega) hj⟩⟩
   clear a0T hi HF
   go_wp2
   go_loopw [42] (fun iv wr=>∃(i:Nat) (cs1:Array Value),iv= .int .i64 (i:Int)/\i<=m/\Aside0 (∃f eO,mQ cs1 f eO m (n+m) (n+1)/\(∀i' j',i'<16->j'<16->f i' j'=if i'<i then Bv rows n m right i' j' else (0,1))/\∀i',i'<i->eO i'=(n:Int)+(i':Int))/\Aside0 (wr.heap[w.heap.size+1]? =some (.cells cs1 62 (0,0)))/\Aside0 (wr.heap[w.heap.size]? =some (.cells Try.zeroCells62 62 (0,0)))/\Aside0 (Below w.heap.size w wr)) (fun iv _=>m -(intOf iv).toNat)
   case atStart=>exact ⟨0,cs1,rfl,by omega,⟨by obtain ⟨f,h1,h2⟩:=zV.out;exact ⟨f,_,h1,fun i' j' h hj=>by rw [if_neg (by omega)];exact h2 i' j' h hj,fun i' h=>by omega⟩⟩,HA,jt,cr⟩
   case round=>
    clear HA jt cr zV XL
    obtain ⟨i,cs1,rfl,hi,HF,HA,jt,cr⟩:=hrel
    by_cases vO:i<m
    ·have XN:=Aside0.mk vO
     have uv:i<rows.length:=by omega
     obtain ⟨ad,A1,c1,e,hx,hlx,GG⟩:=GF HC.out i uv
     have hlen:=HL.out _ (List.getElem_mem uv)
     rw [hlen] at hx hlx GG
     cases e
     have HX:=Aside0.mk hx
     have HCx:=Aside0.mk GG
     have a9t:Aside0 (∀j,(rows.getD i []).getD j 0=(rows[i]).getD j 0):=⟨fun j=>by rw [List.getD_eq_getElem?_getD (l:=rows),List.getElem?_eq_getElem uv];rfl⟩
     have Rn:=Aside0.mk hlen
     generalize rows[i]=row at*
     have hx2:wr.cell? (ad.add i)=some (.slice A1 n c1):=(cr.out.cell (World.block_lt_of_cell? w _ hx)).trans hx
     have g1:(0:Int)<=(i:Int):=by omega
     have g2:(i:Int)<(m:Int):=by omega
     have XL:decide ((i:Int)<(m:Int))=true:=decide_eq_true g2
     have zR:decide (i<m)=true:=decide_eq_true vO
     have g16:(i:Int)<16:=by omega
     have ru:Aside0 (wrap64 ((i:Int)+1)=((i+1:Nat):Int)):=⟨eR (by omega)⟩
     have mR:Aside0 (i<16):=⟨by omega⟩
     clear vO hi uv hx hlx GG hlen
     go_wp2
     clear hx2
     go_loopw [49] (fun jv wr=>∃(j:Nat) (cs1:Array Value),jv= .int .i64 (j:Int)/\j<=n/\Aside0 (∃f eO,mQ cs1 f eO m (n+m) (n+1)/\(∀i' j',i'<16->j'<16->f i' j'=if i'<i then Bv rows n m right i' j' else if i'=i/\j'<j then (row.getD j' 0,1) else (0,1))/\∀i',i'<i->eO i'=(n:Int)+(i':Int))/\Aside0 (wr.heap[w.heap.size+1]? =some (.cells cs1 62 (0,0)))/\Aside0 (wr.heap[w.heap.size]? =some (.cells Try.zeroCells62 62 (0,0)))/\Aside0 (Below w.heap.size w wr)) (fun jv _=>n -(intOf jv).toNat)
     case atStart=>exact ⟨0,cs1,rfl,by omega,⟨by obtain ⟨f,eO,h1,h2,h3⟩:=HF.out;exact ⟨f,eO,h1,fun i' j' h hj=>by rw [h2 i' j' h hj,if_neg (show ¬(i'=i/\j'<0) by omega)],h3⟩⟩,HA,jt,cr⟩
     case round=>
      clear HA jt cr HF
      obtain ⟨j,cs1,rfl,hj,HF,HA,jt,cr⟩:=hrel
      by_cases hjn:j<n
      ·have Gf:=Aside0.mk hjn
       obtain ⟨WX,e,hy⟩:=Kd.gq HCx.out (j:Int) (by omega) (by omega)
       cases e
       have hjr:j<row.length:=by rw [Rn.out];exact hjn
       have hrd:rd row (j:Int)=row.getD j 0:=rfl
       rw [hrd] at hy
       have Qs:wr.cell? (WX.add j)=some (.int .i64 (row.getD j 0)):=by rw [Int.toNat_natCast] at hy;exact (cr.out.cell (World.block_lt_of_cell? w _ hy)).trans hy
       obtain ⟨f,eO,nY,hf2,hf3⟩:=HF.out
       have vP:Aside0 (∃f eO,mQ ((cs1.setIfInBounds (i*32+j*2) (.int .i64 (row.getD j 0))).setIfInBounds (i*32+j*2+1) (.int .i64 1)) f eO m (n+m) (n+1)/\(∀i' j',i'<16->j'<16->f i' j'=if i'<i then Bv rows n m right i' j' else if i'=i/\j'<j+1 then (row.getD j' 0,1) else (0,1))/\∀i',i'<i->eO i'=(n:Int)+(i':Int)):=⟨_,eO,nY.put mR.out (show j<16 by omega) (row.getD j 0,1),fun i' j' h hj'=>by
        show (if i'=i/\j'=j then _ else _)=_
        by_cases e:i'=i/\j'=j
        ·rw [if_pos e,if_neg (by omega),if_pos (by omega),e.2]
        ·rw [if_neg e,hf2 i' j' h hj']
         by_cases e1:i'<i
         ·rw [if_pos e1,if_pos e1]
         ·rw [if_neg e1,if_neg e1]
          by_cases e2:i'=i/\j'<j
          ·rw [if_pos e2,if_pos (by omega)]
          ·rw [if_neg e2,if_neg (by omega)],hf3⟩
       generalize row.getD j 0=vx at*
       have g3:(0:Int)<=(j:Int):=by omega
       have g4:(j:Int)<(n:Int):=by omega
       have XM:decide ((j:Int)<(n:Int))=true:=decide_eq_true g4
       have De:decide (j<n)=true:=decide_eq_true hjn
       have g5:(j:Int)<16:=by omega
       have rR:Aside0 (wrap64 ((j:Int)+1)=((j+1:Nat):Int)):=⟨eR (by omega)⟩
       have oy:Aside0 (j<16):=⟨by omega⟩
       have iJ:=Aside0.mk nY
       clear hjn hj nY hf2 hf3 HF hy hjr hrd
       go_wp2
       have HD:=Aside0.mk (aj HA.out)
       have tZ:=Aside0.mk (aj jt.out)
       have nB:=Aside0.mk (bB cr.out)
       clear HA jt cr
       refine eX (n:=8) (S:=fun w_=>True) (ds:=[7]) #[false,false,false,false,false,false,false,false] (by kernel_rfl) rfl rfl trivial (fun hHeld=>?_)
       generalize wr.drew=w4 at*
       refine aX (i:=0) (N:=some 54) ?_
       refine aX (i:=1) (N:=some 55) ?_
       refine aX (i:=2) (N:=some 56) ?_
       refine aX (i:=4) (N:=some 58) ?_
       refine aX (i:=5) (N:=some 59) ?_
       refine fA (i:=3) (N:=some 57) #[true,true,true,true,true,true,false,false] rfl rfl (by kernel_rfl) (by decide) (fun K hK=>?_)
       refine nG Try.func55 (by kernel_rfl) rfl #[.int .i64 vx] (by rfl) rfl rfl (by (try simp only [List.map_toArray,List.map_cons,List.map_nil]);first|done|rfl) ?_
       refine (HW.out _ _).mono ?_
       rintro e w5 ⟨rfl,jg⟩
       have HE:=Aside0.mk (ai HD.out jg)
       have ua:=Aside0.mk (ai tZ.out jg)
       have pK:=Aside0.mk (ah nB.out jg)
       clear HD tZ nB jg
       refine ⟨_,rfl,?_⟩
       refine hK.out _ _ trivial (fun hHeld=>?_)
       clear hK K hHeld
       refine eF (a':=?_) ?_ ?_
       rotate_left
       ·show Act.put _ (some 57) _=_
        simp only [Act.put,List.setIfInBounds_toArray,List.set_cons_zero,List.set_cons_succ,cZ,dX]
        rfl
       refine aX (i:=6) (N:=some 60) ?_
       refine pP (i:=7) (N:=none) #[true,true,true,true,true,true,true,true] rfl rfl (by kernel_rfl) (by decide) (fun K hK=>?_)
       have h1:=br HE.out (iJ.out.num i j (by exact mR.out) (by exact oy.out))
       have h2:=br HE.out (iJ.out.den i j (by exact mR.out) (by exact oy.out))
       have h3:=aa HE.out (i*32+j*2)
       have h4:=aa HE.out (i*32+j*2+1)
       refine kY (w1:=?_) (by rfl) rfl ?_ ?_
       rotate_left
       ·go_simp
        rfl
       refine hK.out _ _ ?_
       clear hK K
       refine fV (by kernel_rfl) ?_
       have HA:Aside0 (((w5.setCell ⟨w.heap.size+1,i*32+j*2,none⟩ (.int .i64 vx)).setCell ⟨w.heap.size+1,i*32+j*2+1,none⟩ (.int .i64 1)).heap[w.heap.size+1]? =some (.cells ((cs1.setIfInBounds (i*32+j*2) (.int .i64 vx)).setIfInBounds (i*32+j*2+1) (.int .i64 1)) 62 (0,0))):=⟨heap_set (heap_set HE.out)⟩
       have jt:Aside0 (((w5.setCell ⟨w.heap.size+1,i*32+j*2,none⟩ (.int .i64 vx)).setCell ⟨w.heap.size+1,i*32+j*2+1,none⟩ (.int .i64 1)).heap[w.heap.size]? =some (.cells Try.zeroCells62 62 (0,0))):=⟨bn (bn ua.out (by omega)) (by omega)⟩
       have cr:Aside0 (Below w.heap.size w ((w5.setCell ⟨w.heap.size+1,i*32+j*2,none⟩ (.int .i64 vx)).setCell ⟨w.heap.size+1,i*32+j*2+1,none⟩ (.int .i64 1))):=⟨bC (bC pK.out (by omega)) (by omega)⟩
       clear HE ua pK h1 h2 h3 h4 iJ
       generalize ((w5.setCell ⟨w.heap.size+1,i*32+j*2,none⟩ (.int .i64 vx)).setCell ⟨w.heap.size+1,i*32+j*2+1,none⟩ (.int .i64 1))=w6 at*
       generalize ((cs1.setIfInBounds (i*32+j*2) (.int .i64 vx)).setIfInBounds (i*32+j*2+1) (.int .i64 1))=AR at*
       go_wp2
       go_roundw
       case rel=>exact ⟨j+1,AR,by first|(rw [rR.out];done)|rfl|(simp;done),Gf.out,vP,HA,jt,cr⟩
       case measure=>(try rw [rR.out]);have:=Gf.out;simp [intOf];omega
      ·have XM:decide ((j:Int)<(n:Int))=false:=decide_eq_false (by omega)
       have De:decide (j<n)=false:=decide_eq_false hjn
       have hj':j=n:=by omega
       rw [hj'] at HF
       have h0c:∀f eO,mQ cs1 f eO m (n+m) (n+1)->True:=fun _ _ _=>trivial
       obtain ⟨k2,hk2⟩:∃k2,k2=n+i:=⟨_,rfl⟩
       have hw3:IntKind.i64.wrap ((n:Int)+(i:Int))=(k2:Int):=by rw [hk2,cZ,cO (by omega) (by omega)];rfl
       have qu:=Aside0.mk hk2
       obtain ⟨nm,hnm⟩:∃nm,nm=n+m:=⟨_,rfl⟩
       have HNM:=Aside0.mk hnm
       have g6:(0:Int)<=(k2:Int):=by omega
       have g7:(k2:Int)<16:=by have:=XN.out;omega
       have g8:(0:Int)<=(nm:Int):=by omega
       have g9:(nm:Int)<16:=by omega
       obtain ⟨f,eO,nY,hf2,hf3⟩:=HF.out
       have iJ:=Aside0.mk nY
       have oy:Aside0 (k2<16):=⟨by have:=XN.out;omega⟩
       have Eu:Aside0 (nm<16):=⟨by omega⟩
       have vW:=Aside0.mk (nY.put mR.out oy.out (1,1))
       have a9v:=Aside0.mk (vW.out.put mR.out Eu.out (right,1))
       have b5W:=Aside0.mk (a9v.out.b5V mR.out (k2:Int))
       have vP:Aside0 (∃f eO,mQ (((((cs1.setIfInBounds (i*32+k2*2) (.int .i64 1)).setIfInBounds (i*32+k2*2+1) (.int .i64 1)).setIfInBounds (i*32+nm*2) (.int .i64 right)).setIfInBounds (i*32+nm*2+1) (.int .i64 1)).setIfInBounds (512+i) (.int .i64 (k2:Int))) f eO m (n+m) (n+1)/\(∀i' j',i'<16->j'<16->f i' j'=if i'<i+1 then Bv rows n m right i' j' else (0,1))/\∀i',i'<i+1->eO i'=(n:Int)+(i':Int)):=⟨_,_,b5W.out,fun i' j' h hj'=>by
        show (if i'=i/\j'=nm then _ else if i'=i/\j'=k2 then _ else _)=_
        have hIm:=XN.out
        by_cases e1:i'=i
        ·subst e1
         rw [if_pos (show i'<i'+1 by omega)]
         unfold Bv
         by_cases e2:j'=nm
         ·rw [if_pos ⟨rfl,e2⟩,if_neg (by omega),if_pos (by omega)]
         ·rw [if_neg (by omega)]
          by_cases e3:j'=k2
          ·rw [if_pos ⟨rfl,e3⟩,if_neg (by omega),if_neg (by omega),if_pos (by omega)]
          ·rw [if_neg (by omega),hf2 i' j' h hj',if_neg (by omega)]
           by_cases e4:j'<n
           ·rw [if_pos ⟨rfl,e4⟩,if_pos e4,a9t.out]
           ·rw [if_neg (by omega),if_neg e4,if_neg (by omega),if_neg (by omega)]
        ·rw [if_neg (by omega),if_neg (by omega),hf2 i' j' h hj',if_neg (show ¬(i'=i/\j'<n) by omega)]
         by_cases e5:i'<i
         ·rw [if_pos e5,if_pos (by omega)]
         ·rw [if_neg e5,if_neg (by omega)],fun i' h=>by
        show (if i'=i then _ else _)=_
        by_cases e:i'=i
        ·rw [if_pos e,e,hk2];rfl
        ·rw [if_neg e];exact hf3 i' (by omega)⟩
       have a3i:∀(W:World) (cs:Array Value) (f:Nat->Nat->Int×Int) (eO:Nat->Int),W.heap[w.heap.size+1]? =some (.cells cs 62 (0,0))->mQ cs f eO m (n+m) (n+1)->W.cell? ⟨w.heap.size+1,529,none⟩=some (.int .i64 (nm:Int)):=fun W cs f eO h hr=>by rw [HNM.out];exact br h hr.mO
       have OH:=Aside0.mk a3i
       clear hj' hjn hj nY hf2 hf3 HF hk2 hnm a3i h0c a9t
       go_wp2
       have HD:=Aside0.mk (aj HA.out)
       have tZ:=Aside0.mk (aj jt.out)
       have nB:=Aside0.mk (bB cr.out)
       clear HA jt cr
       refine eX (n:=9) (S:=fun w_=>True) (ds:=[8]) #[false,false,false,false,false,false,false,false,false] (by kernel_rfl) rfl rfl trivial (fun hHeld=>?_)
       generalize wr.drew=w4 at*
       refine aX (i:=0) (N:=some 62) ?_
       refine aX (i:=1) (N:=some 63) ?_
       refine aX (i:=2) (N:=some 64) ?_
       refine aX (i:=3) (N:=some 65) ?_
       refine aX (i:=5) (N:=some 67) ?_
       refine aX (i:=6) (N:=some 68) ?_
       refine fA (i:=4) (N:=some 66) #[true,true,true,true,true,true,true,false,false] rfl rfl (by kernel_rfl) (by decide) (fun K hK=>?_)
       refine nG Try.func55 (by kernel_rfl) rfl #[.int .i64 1] (by rfl) rfl rfl (by (try simp only [List.map_toArray,List.map_cons,List.map_nil]);first|done|rfl) ?_
       refine (HW.out _ _).mono ?_
       rintro e w5 ⟨rfl,jg⟩
       have HE:=Aside0.mk (ai HD.out jg)
       have ua:=Aside0.mk (ai tZ.out jg)
       have pK:=Aside0.mk (ah nB.out jg)
       clear HD tZ nB jg
       refine ⟨_,rfl,?_⟩
       refine hK.out _ _ trivial (fun hHeld=>?_)
       clear hK K hHeld
       refine eF (a':=?_) ?_ ?_
       rotate_left
       ·show Act.put _ (some 66) _=_
        simp only [Act.put,List.setIfInBounds_toArray,List.set_cons_zero,List.set_cons_succ,cZ,dX]
        rfl
       refine aX (i:=7) (N:=some 69) ?_
       refine pP (i:=8) (N:=none) #[true,true,true,true,true,true,true,true,true] rfl rfl (by kernel_rfl) (by decide) (fun K hK=>?_)
       have h1:=br HE.out (iJ.out.num i k2 (by exact mR.out) (by exact oy.out))
       have h2:=br HE.out (iJ.out.den i k2 (by exact mR.out) (by exact oy.out))
       have h3:=aa HE.out (i*32+k2*2)
       have h4:=aa HE.out (i*32+k2*2+1)
       refine kY (w1:=?_) (by rfl) rfl ?_ ?_
       rotate_left
       ·go_simp
        rfl
       refine hK.out _ _ ?_
       clear hK K
       refine fV (by kernel_rfl) ?_
       have HA:Aside0 (((w5.setCell ⟨w.heap.size+1,i*32+k2*2,none⟩ (.int .i64 1)).setCell ⟨w.heap.size+1,i*32+k2*2+1,none⟩ (.int .i64 1)).heap[w.heap.size+1]? =some (.cells ((cs1.setIfInBounds (i*32+k2*2) (.int .i64 1)).setIfInBounds (i*32+k2*2+1) (.int .i64 1)) 62 (0,0))):=⟨heap_set (heap_set HE.out)⟩
       have jt:Aside0 (((w5.setCell ⟨w.heap.size+1,i*32+k2*2,none⟩ (.int .i64 1)).setCell ⟨w.heap.size+1,i*32+k2*2+1,none⟩ (.int .i64 1)).heap[w.heap.size]? =some (.cells Try.zeroCells62 62 (0,0))):=⟨bn (bn ua.out (by omega)) (by omega)⟩
       have cr:Aside0 (Below w.heap.size w ((w5.setCell ⟨w.heap.size+1,i*32+k2*2,none⟩ (.int .i64 1)).setCell ⟨w.heap.size+1,i*32+k2*2+1,none⟩ (.int .i64 1))):=⟨bC (bC pK.out (by omega)) (by omega)⟩
       clear HE ua pK h1 h2 h3 h4 iJ
       generalize ((w5.setCell ⟨w.heap.size+1,i*32+k2*2,none⟩ (.int .i64 1)).setCell ⟨w.heap.size+1,i*32+k2*2+1,none⟩ (.int .i64 1))=w6 at*
       generalize ((cs1.setIfInBounds (i*32+k2*2) (.int .i64 1)).setIfInBounds (i*32+k2*2+1) (.int .i64 1))=ir at*
       go_wp2
       have JS:=OH.out _ _ _ _ HA.out vW.out
       have HD:=Aside0.mk (aj HA.out)
       have tZ:=Aside0.mk (aj jt.out)
       have nB:=Aside0.mk (bB cr.out)
       clear HA jt cr
       refine eX (n:=9) (S:=fun w'=>w'.cell? ⟨w.heap.size+1,529,none⟩=some (.int .i64 (nm:Int))) (ds:=[8]) #[false,false,false,false,false,false,false,false,false] (by kernel_rfl) rfl rfl JS (fun hHeld=>?_)
       generalize wr.drew=w4 at*
       refine aX (i:=0) (N:=some 70) ?_
       refine aX (i:=1) (N:=some 71) ?_
       refine dy (i:=2) (N:=some 72) (v:=?_) (a':=?_) #[true,true,true,false,false,false,false,false,false] rfl rfl (by kernel_rfl) (fun _ _ _ h=>h) (Or.inl ⟨by rfl,?_⟩) hHeld ?_ ?_
       rotate_left
       ·intro w' s0
        go_simp
        with_reducible rfl
       rotate_left
       ·exact eG
       refine aX (i:=3) (N:=some 73) ?_
       refine aX (i:=5) (N:=some 75) ?_
       refine aX (i:=6) (N:=some 76) ?_
       refine fA (i:=4) (N:=some 74) #[true,true,true,true,true,true,true,false,false] rfl rfl (by kernel_rfl) (by decide) (fun K hK=>?_)
       refine nG Try.func55 (by kernel_rfl) rfl #[.int .i64 right] (by rfl) rfl rfl (by (try simp only [List.map_toArray,List.map_cons,List.map_nil]);first|done|rfl) ?_
       refine (HW.out _ _).mono ?_
       rintro e w5 ⟨rfl,jg⟩
       have HE:=Aside0.mk (ai HD.out jg)
       have ua:=Aside0.mk (ai tZ.out jg)
       have pK:=Aside0.mk (ah nB.out jg)
       clear HD tZ nB jg
       refine ⟨_,rfl,?_⟩
       refine hK.out _ _ (OH.out _ _ _ _ HE.out vW.out) (fun hHeld=>?_)
       clear hK K hHeld
       refine eF (a':=?_) ?_ ?_
       rotate_left
       ·show Act.put _ (some 74) _=_
        simp only [Act.put,List.setIfInBounds_toArray,List.set_cons_zero,List.set_cons_succ,cZ,dX]
        rfl
       refine aX (i:=7) (N:=some 77) ?_
       refine pP (i:=8) (N:=none) #[true,true,true,true,true,true,true,true,true] rfl rfl (by kernel_rfl) (by decide) (fun K hK=>?_)
       have h1:=br HE.out (vW.out.num i nm (by exact mR.out) (by exact Eu.out))
       have h2:=br HE.out (vW.out.den i nm (by exact mR.out) (by exact Eu.out))
       have h3:=aa HE.out (i*32+nm*2)
       have h4:=aa HE.out (i*32+nm*2+1)
       refine kY (w1:=?_) (by rfl) rfl ?_ ?_
       rotate_left
       ·go_simp
        rfl
       refine hK.out _ _ ?_
       clear hK K
       refine fV (by kernel_rfl) ?_
       have HA:Aside0 (((w5.setCell ⟨w.heap.size+1,i*32+nm*2,none⟩ (.int .i64 right)).setCell ⟨w.heap.size+1,i*32+nm*2+1,none⟩ (.int .i64 1)).heap[w.heap.size+1]? =some (.cells ((ir.setIfInBounds (i*32+nm*2) (.int .i64 right)).setIfInBounds (i*32+nm*2+1) (.int .i64 1)) 62 (0,0))):=⟨heap_set (heap_set HE.out)⟩
       have jt:Aside0 (((w5.setCell ⟨w.heap.size+1,i*32+nm*2,none⟩ (.int .i64 right)).setCell ⟨w.heap.size+1,i*32+nm*2+1,none⟩ (.int .i64 1)).heap[w.heap.size]? =some (.cells Try.zeroCells62 62 (0,0))):=⟨bn (bn ua.out (by omega)) (by omega)⟩
       have cr:Aside0 (Below w.heap.size w ((w5.setCell ⟨w.heap.size+1,i*32+nm*2,none⟩ (.int .i64 right)).setCell ⟨w.heap.size+1,i*32+nm*2+1,none⟩ (.int .i64 1))):=⟨bC (bC pK.out (by omega)) (by omega)⟩
       clear HE ua pK h1 h2 h3 h4
       generalize ((w5.setCell ⟨w.heap.size+1,i*32+nm*2,none⟩ (.int .i64 right)).setCell ⟨w.heap.size+1,i*32+nm*2+1,none⟩ (.int .i64 1))=w6 at*
       generalize ((ir.setIfInBounds (i*32+nm*2) (.int .i64 right)).setIfInBounds (i*32+nm*2+1) (.int .i64 1))=CO at*
       have hb1:=br HA.out (a9v.out.eO i mR.out)
       have hb2:=aa HA.out (512+i)
       go_wp2
       have fG:=Aside0.mk (heap_set (k:=512+i) (v:= .int .i64 (k2:Int)) HA.out)
       go_roundw
       case rel=>exact ⟨i+1,_,by first|(rw [ru.out];done)|rfl|(simp;done),XN.out,vP,fG,⟨bn jt.out (by omega)⟩,⟨bC cr.out (by omega)⟩⟩
       case measure=>(try rw [ru.out]);have:=XN.out;simp [intOf];omega
    ·have JD:i=m:=by omega
     have XL:decide ((i:Int)<(m:Int))=false:=decide_eq_false (by omega)
     have zR:decide (i<m)=false:=decide_eq_false vO
     rw [JD] at HF
     clear JD vO hi
     go_wp2
     go_loopw [86] (fun jv wr=>∃(j:Nat) (cs1:Array Value),jv= .int .i64 (j:Int)/\j<=n/\Aside0 (∃f eO,mQ cs1 f eO m (n+m) (n+1)/\(∀i' j',i'<16->j'<16->f i' j'=if i'<m then Bv rows n m right i' j' else zI m sum j i' j')/\∀i',i'<m->eO i'=(n:Int)+(i':Int))/\Aside0 (wr.heap[w.heap.size+1]? =some (.cells cs1 62 (0,0)))/\Aside0 (wr.heap[w.heap.size]? =some (.cells Try.zeroCells62 62 (0,0)))/\Aside0 (Below w.heap.size w wr)) (fun jv _=>n -(intOf jv).toNat)
     case atStart=>exact ⟨0,cs1,rfl,by omega,⟨by obtain ⟨f,eO,h1,h2,h3⟩:=HF.out;exact ⟨f,eO,h1,fun i' j' h hj=>by rw [h2 i' j' h hj];unfold zI;rw [if_neg (show ¬((i'=m/\j'<0)) by omega),if_neg (show ¬(j'<0/\i'=m+1+j') by omega)],h3⟩⟩,HA,jt,cr⟩
     case round=>
      clear HA jt cr HF XL zR
      obtain ⟨j,cs1,rfl,hj,HF,HA,jt,cr⟩:=hrel
      by_cases hjn:j<n
      ·have Gf:=Aside0.mk hjn
       obtain ⟨f,eO,nY,hf2,hf3⟩:=HF.out
       obtain ⟨m1,MQ⟩:∃m1,m1=m+1:=⟨_,rfl⟩
       obtain ⟨k2,hk2⟩:∃k2,k2=m1+j:=⟨_,rfl⟩
       have hw3:IntKind.i64.wrap ((m:Int)+1)=(m1:Int):=by rw [MQ,cZ,cO (by omega) (by omega)];rfl
       have hw4:IntKind.i64.wrap ((m1:Int)+(j:Int))=(k2:Int):=by rw [hk2,cZ,cO (by omega) (by omega)];rfl
       have g3:(0:Int)<=(j:Int):=by omega
       have g4:(j:Int)<(n:Int):=by omega
       have XM:decide ((j:Int)<(n:Int))=true:=decide_eq_true g4
       have De:decide (j<n)=true:=decide_eq_true hjn
       have g5:(j:Int)<16:=by omega
       have g6:(0:Int)<=(m:Int):=by omega
       have g7:(m:Int)<16:=by omega
       have g8:(0:Int)<=(k2:Int):=by omega
       have g9:(k2:Int)<16:=by omega
       have rR:Aside0 (wrap64 ((j:Int)+1)=((j+1:Nat):Int)):=⟨eR (by omega)⟩
       have oy:Aside0 (j<16):=⟨by omega⟩
       have mR:Aside0 (m<16):=⟨by omega⟩
       have Eu:Aside0 (k2<16):=⟨by omega⟩
       have iJ:=Aside0.mk nY
       have vW:=Aside0.mk (nY.put mR.out oy.out (sum,1))
       have vP:Aside0 (∃f eO,mQ ((((cs1.setIfInBounds (m*32+j*2) (.int .i64 sum)).setIfInBounds (m*32+j*2+1) (.int .i64 1)).setIfInBounds (k2*32+j*2) (.int .i64 1)).setIfInBounds (k2*32+j*2+1) (.int .i64 1)) f eO m (n+m) (n+1)/\(∀i' j',i'<16->j'<16->f i' j'=if i'<m then Bv rows n m right i' j' else zI m sum (j+1) i' j')/\∀i',i'<m->eO i'=(n:Int)+(i':Int)):=⟨_,eO,vW.out.put Eu.out oy.out (1,1),fun i' j' h hj'=>by
        show (if i'=k2/\j'=j then _ else if i'=m/\j'=j then _ else _)=_
        by_cases e1:i'=k2/\j'=j
        ·rw [if_pos e1,if_neg (by omega)]
         unfold zI
         rw [if_neg (by omega),if_pos (by omega)]
        ·rw [if_neg e1]
         by_cases e2:i'=m/\j'=j
         ·rw [if_pos e2,if_neg (by omega)]
          unfold zI
          rw [if_pos (by omega)]
         ·rw [if_neg e2,hf2 i' j' h hj']
          by_cases e3:i'<m
          ·rw [if_pos e3,if_pos e3]
          ·rw [if_neg e3,if_neg e3]
           unfold zI
           by_cases e4:i'=m/\j'<j
           ·rw [if_pos e4,if_pos (by omega)]
           ·rw [if_neg e4,if_neg (show ¬(i'=m/\j'<j+1) by omega)]
            by_cases e5:j'<j/\i'=m+1+j'
            ·rw [if_pos e5,if_pos (by omega)]
            ·rw [if_neg e5,if_neg (by omega)],hf3⟩
       have hro:∀(W:World) (cs:Array Value) (f:Nat->Nat->Int×Int) (eO:Nat->Int),W.heap[w.heap.size+1]? =some (.cells cs 62 (0,0))->mQ cs f eO m (n+m) (n+1)->W.cell? ⟨w.heap.size+1,528,none⟩=some (.int .i64 (m:Int)):=fun W cs f eO h hr=>br h hr.rows
       have OH:=Aside0.mk hro
       clear hjn hj nY hf2 hf3 HF MQ hk2 hro
       go_wp2
       have JS:=OH.out _ _ _ _ HA.out iJ.out
       have HD:=Aside0.mk (aj HA.out)
       have tZ:=Aside0.mk (aj jt.out)
       have nB:=Aside0.mk (bB cr.out)
       clear HA jt cr
       refine eX (n:=9) (S:=fun w'=>w'.cell? ⟨w.heap.size+1,528,none⟩=some (.int .i64 (m:Int))) (ds:=[8]) #[false,false,false,false,false,false,false,false,false] (by kernel_rfl) rfl rfl JS (fun hHeld=>?_)
       generalize wr.drew=w4 at*
       refine aX (i:=0) (N:=some 89) ?_
       refine dy (i:=1) (N:=some 90) (v:=?_) (a':=?_) #[true,true,false,false,false,false,false,false,false] rfl rfl (by kernel_rfl) (fun _ _ _ h=>h) (Or.inl ⟨by rfl,?_⟩) hHeld ?_ ?_
       rotate_left
       ·intro w' s0
        go_simp
        with_reducible rfl
       rotate_left
       ·exact eG
       refine aX (i:=2) (N:=some 91) ?_
       refine aX (i:=3) (N:=some 92) ?_
       refine aX (i:=5) (N:=some 94) ?_
       refine aX (i:=6) (N:=some 95) ?_
       refine fA (i:=4) (N:=some 93) #[true,true,true,true,true,true,true,false,false] rfl rfl (by kernel_rfl) (by decide) (fun K hK=>?_)
       refine nG Try.func55 (by kernel_rfl) rfl #[.int .i64 sum] (by rfl) rfl rfl (by (try simp only [List.map_toArray,List.map_cons,List.map_nil]);first|done|rfl) ?_
       refine (HW.out _ _).mono ?_
       rintro e w5 ⟨rfl,jg⟩
       have HE:=Aside0.mk (ai HD.out jg)
       have ua:=Aside0.mk (ai tZ.out jg)
       have pK:=Aside0.mk (ah nB.out jg)
       clear HD tZ nB jg
       refine ⟨_,rfl,?_⟩
       refine hK.out _ _ (OH.out _ _ _ _ HE.out iJ.out) (fun hHeld=>?_)
       clear hK K hHeld
       refine eF (a':=?_) ?_ ?_
       rotate_left
       ·show Act.put _ (some 93) _=_
        simp only [Act.put,List.setIfInBounds_toArray,List.set_cons_zero,List.set_cons_succ,cZ,dX]
        rfl
       refine aX (i:=7) (N:=some 96) ?_
       refine pP (i:=8) (N:=none) #[true,true,true,true,true,true,true,true,true] rfl rfl (by kernel_rfl) (by decide) (fun K hK=>?_)
       have h1:=br HE.out (iJ.out.num m j (by exact mR.out) (by exact oy.out))
       have h2:=br HE.out (iJ.out.den m j (by exact mR.out) (by exact oy.out))
       have h3:=aa HE.out (m*32+j*2)
       have h4:=aa HE.out (m*32+j*2+1)
       refine kY (w1:=?_) (by rfl) rfl ?_ ?_
       rotate_left
       ·go_simp
        rfl
       refine hK.out _ _ ?_
       clear hK K
       refine fV (by kernel_rfl) ?_
       have HA:Aside0 (((w5.setCell ⟨w.heap.size+1,m*32+j*2,none⟩ (.int .i64 sum)).setCell ⟨w.heap.size+1,m*32+j*2+1,none⟩ (.int .i64 1)).heap[w.heap.size+1]? =some (.cells ((cs1.setIfInBounds (m*32+j*2) (.int .i64 sum)).setIfInBounds (m*32+j*2+1) (.int .i64 1)) 62 (0,0))):=⟨heap_set (heap_set HE.out)⟩
       have jt:Aside0 (((w5.setCell ⟨w.heap.size+1,m*32+j*2,none⟩ (.int .i64 sum)).setCell ⟨w.heap.size+1,m*32+j*2+1,none⟩ (.int .i64 1)).heap[w.heap.size]? =some (.cells Try.zeroCells62 62 (0,0))):=⟨bn (bn ua.out (by omega)) (by omega)⟩
       have cr:Aside0 (Below w.heap.size w ((w5.setCell ⟨w.heap.size+1,m*32+j*2,none⟩ (.int .i64 sum)).setCell ⟨w.heap.size+1,m*32+j*2+1,none⟩ (.int .i64 1))):=⟨bC (bC pK.out (by omega)) (by omega)⟩
       clear HE ua pK h1 h2 h3 h4 iJ
       generalize ((w5.setCell ⟨w.heap.size+1,m*32+j*2,none⟩ (.int .i64 sum)).setCell ⟨w.heap.size+1,m*32+j*2+1,none⟩ (.int .i64 1))=w6 at*
       generalize ((cs1.setIfInBounds (m*32+j*2) (.int .i64 sum)).setIfInBounds (m*32+j*2+1) (.int .i64 1))=ir at*
       go_wp2
       have JS:=OH.out _ _ _ _ HA.out vW.out
       have HD:=Aside0.mk (aj HA.out)
       have tZ:=Aside0.mk (aj jt.out)
       have nB:=Aside0.mk (bB cr.out)
       clear HA jt cr
       refine eX (n:=11) (S:=fun w'=>w'.cell? ⟨w.heap.size+1,528,none⟩=some (.int .i64 (m:Int))) (ds:=[10]) #[false,false,false,false,false,false,false,false,false,false,false] (by kernel_rfl) rfl rfl JS (fun hHeld=>?_)
       generalize wr.drew=w4 at*
       refine aX (i:=0) (N:=some 97) ?_
       refine dy (i:=1) (N:=some 98) (v:=?_) (a':=?_) #[true,true,false,false,false,false,false,false,false,false,false] rfl rfl (by kernel_rfl) (fun _ _ _ h=>h) (Or.inl ⟨by rfl,?_⟩) hHeld ?_ ?_
       rotate_left
       ·intro w' s0
        go_simp
        with_reducible rfl
       rotate_left
       ·exact eG
       refine aX (i:=2) (N:=some 99) ?_
       refine aX (i:=3) (N:=some 100) ?_
       refine aX (i:=4) (N:=some 101) ?_
       refine aX (i:=5) (N:=some 102) ?_
       refine aX (i:=7) (N:=some 104) ?_
       refine aX (i:=8) (N:=some 105) ?_
       refine fA (i:=6) (N:=some 103) #[true,true,true,true,true,true,true,true,true,false,false] rfl rfl (by kernel_rfl) (by decide) (fun K hK=>?_)
       refine nG Try.func55 (by kernel_rfl) rfl #[.int .i64 1] (by rfl) rfl rfl (by (try simp only [List.map_toArray,List.map_cons,List.map_nil]);first|done|rfl) ?_
       refine (HW.out _ _).mono ?_
       rintro e w5 ⟨rfl,jg⟩
       have HE:=Aside0.mk (ai HD.out jg)
       have ua:=Aside0.mk (ai tZ.out jg)
       have pK:=Aside0.mk (ah nB.out jg)
       clear HD tZ nB jg
       refine ⟨_,rfl,?_⟩
       refine hK.out _ _ (OH.out _ _ _ _ HE.out vW.out) (fun hHeld=>?_)
       clear hK K hHeld
       refine eF (a':=?_) ?_ ?_
       rotate_left
       ·show Act.put _ (some 103) _=_
        simp only [Act.put,List.setIfInBounds_toArray,List.set_cons_zero,List.set_cons_succ,cZ,dX]
        rfl
       refine aX (i:=9) (N:=some 106) ?_
       refine pP (i:=10) (N:=none) #[true,true,true,true,true,true,true,true,true,true,true] rfl rfl (by kernel_rfl) (by decide) (fun K hK=>?_)
       have h1:=br HE.out (vW.out.num k2 j (by exact Eu.out) (by exact oy.out))
       have h2:=br HE.out (vW.out.den k2 j (by exact Eu.out) (by exact oy.out))
       have h3:=aa HE.out (k2*32+j*2)
       have h4:=aa HE.out (k2*32+j*2+1)
       refine kY (w1:=?_) (by rfl) rfl ?_ ?_
       rotate_left
       ·go_simp
        rfl
       refine hK.out _ _ ?_
       clear hK K
       refine fV (by kernel_rfl) ?_
       have HA:Aside0 (((w5.setCell ⟨w.heap.size+1,k2*32+j*2,none⟩ (.int .i64 1)).setCell ⟨w.heap.size+1,k2*32+j*2+1,none⟩ (.int .i64 1)).heap[w.heap.size+1]? =some (.cells ((ir.setIfInBounds (k2*32+j*2) (.int .i64 1)).setIfInBounds (k2*32+j*2+1) (.int .i64 1)) 62 (0,0))):=⟨heap_set (heap_set HE.out)⟩
       have jt:Aside0 (((w5.setCell ⟨w.heap.size+1,k2*32+j*2,none⟩ (.int .i64 1)).setCell ⟨w.heap.size+1,k2*32+j*2+1,none⟩ (.int .i64 1)).heap[w.heap.size]? =some (.cells Try.zeroCells62 62 (0,0))):=⟨bn (bn ua.out (by omega)) (by omega)⟩
       have cr:Aside0 (Below w.heap.size w ((w5.setCell ⟨w.heap.size+1,k2*32+j*2,none⟩ (.int .i64 1)).setCell ⟨w.heap.size+1,k2*32+j*2+1,none⟩ (.int .i64 1))):=⟨bC (bC pK.out (by omega)) (by omega)⟩
       clear HE ua pK h1 h2 h3 h4
       generalize ((w5.setCell ⟨w.heap.size+1,k2*32+j*2,none⟩ (.int .i64 1)).setCell ⟨w.heap.size+1,k2*32+j*2+1,none⟩ (.int .i64 1))=w6 at*
       generalize ((ir.setIfInBounds (k2*32+j*2) (.int .i64 1)).setIfInBounds (k2*32+j*2+1) (.int .i64 1))=CO at*
       go_wp2
       go_roundw
       case rel=>exact ⟨j+1,CO,by first|(rw [rR.out];done)|rfl|(simp;done),Gf.out,vP,HA,jt,cr⟩
       case measure=>(try rw [rR.out]);have:=Gf.out;simp [intOf];omega
      ·have XM:decide ((j:Int)<(n:Int))=false:=decide_eq_false (by omega)
       have De:decide (j<n)=false:=decide_eq_false hjn
       have hj':j=n:=by omega
       rw [hj'] at HF
       have TM:Aside0 (gf cs1 m (n+m) (n+1) (init n m (fun i j=>(((rows.getD i []).getD j 0:Int):Rat)) (fun _=>(right:Rat)) (sum:Rat))):=⟨by
        obtain ⟨f,eO,h1,h2,h3⟩:=HF.out
        have key:∀i' j',i'<m+(n+1)->j'<=n+m->f i' j'=(((init n m (fun i j=>(((rows.getD i []).getD j 0:Int):Rat)) (fun _=>(right:Rat)) (sum:Rat)).cell i' j').num,(((init n m (fun i j=>(((rows.getD i []).getD j 0:Int):Rat)) (fun _=>(right:Rat)) (sum:Rat)).cell i' j').den:Int)):=by
         intro i' j' hi' hj'
         rw [h2 i' j' (by omega) (by omega)]
         simp only [init,Bv,zI]
         by_cases e:i'<m
         ·rw [if_pos e,if_pos e]
          by_cases e1:j'<n
          ·rw [if_pos e1,if_pos e1];rfl
          ·rw [if_neg e1,if_neg e1]
           by_cases e2:j'=n+m
           ·rw [if_pos e2,if_pos e2];rfl
           ·rw [if_neg e2,if_neg e2]
            by_cases e3:j'=n+i'
            ·rw [if_pos e3,if_pos e3];rfl
            ·rw [if_neg e3,if_neg e3];rfl
         ·rw [if_neg e,if_neg e]
          by_cases e1:i'=m
          ·rw [if_pos e1]
           by_cases e2:j'<n
           ·rw [if_pos ⟨e1,e2⟩,if_pos e2];rfl
           ·rw [if_neg (by omega),if_neg (by omega),if_neg e2];rfl
          ·rw [if_neg e1,if_neg (by omega)]
           by_cases e2:j'<n/\i'=m+1+j'
           ·rw [if_pos e2,if_pos (by omega)];rfl
           ·rw [if_neg e2,if_neg (by omega)];rfl
        refine ⟨h1.size,h1.one,fun i' j' hi' hj'=>?_,fun i' j' hi' hj'=>?_,fun r hr=>?_,h1.rows,h1.mO,h1.costs,hs,hN⟩
        ·rw [h1.num i' j' (by omega) (by omega),key i' j' hi' hj']
        ·rw [h1.den i' j' (by omega) (by omega),key i' j' hi' hj']
        ·rw [h1.eO r (by omega),h3 r hr];rfl⟩
       have QO:Aside0 ((Try.prog.info? 62).map (·.size)=some cs1.size):=⟨by rw [TM.out.size];exact HI.out⟩
       have zQ:Aside0 ((Try.zeroCells62).size=cs1.size):=⟨by rw [TM.out.size];exact HZ.out⟩
       clear hj' hjn hj HF
       go_wp2_with (first|((with_reducible refine bp (N:=108) rfl ?_);refine wpList_load_row rfl 62 (.tmp 9) rfl (w.heap.size+1) rfl 62 cs1 (0,0) _ HA.out hu (by rfl) QO.out ?_)|((with_reducible refine iR (t:=62) (p:=8) rfl ?_);refine wpList_store_row rfl 62 (.tmp 8) (.tmp 108) rfl w.heap.size cs1 rfl rfl 62 Try.zeroCells62 jt.out QO.out zQ.out TM.out.one ?_))
       refine bodyPost_ret (results_cell_row rfl _ _ w.heap.size 62 cs1 (0,0) _ rfl (qV jt.out) hu (by rfl) QO.out) rfl ?_
       exact ⟨cs1,rfl,TM.out,pH cr.out (Nat.le_refl _)⟩
end Go.Proofs.Ytnhknojfpjheoaa.PT
namespace Go.Proofs.Ytnhknojfpjheoaa.P
open Go.RowKit Go.Proofs.YtnhknojfpjheoaaW.PrintWords Go.Proofs.YtnhknojfpjheoaaW.PrintLast Go.Proofs.YtnhknojfpjheoaaW.PrintMore
attribute [local go_sem] max2_int min2_int max_two min_two max_three min_three max_four min_four
set_option linter.all false
def iW.f (k:Nat) (l0:List Int):Option (Bool):=(cS.f k l0).bind fun JE=>(some (!JE))
theorem iW.mono:∀a0 k,aT (iW.f k a0) (iW.f (k+1) a0):=by
 intro a0 k
 unfold iW.f
 repeat' first
  |(with_reducible exact cS.mono _ _)
  |(with_reducible exact aT.refl _)
  |(with_reducible exact aT.none _)
  |(with_reducible refine aT.ite ?_ ?_)
  |(with_reducible refine aT.bind ?_ (fun _=>?_))
set_option maxHeartbeats 8000000 in
set_option maxRecDepth 100000 in
theorem iW.calls (k:Nat) (A0:Option Addr) (c0:Nat) (l0:List Int) (r:Bool) (w:World) (fy:Kd.C (Kd.int .i64) w A0 l0.length l0) (hc0:l0.length<=c0) (h:iW.f k l0=some r):
 Calls Try.prog 52 #[.slice A0 l0.length c0] w fun e w'=>e= .returned (.bool r)/\bg w w':=by
 have eE:=Aside0.mk fy
 have lR:=Aside0.mk hc0
 clear fy hc0
 have H:((cS.f k l0).bind fun JE=>(some (!JE)))=some r:=h
 clear h
 replace H:=Option.bind_eq_some_iff.mp H
 obtain ⟨JE,VD,H⟩:=H
 replace H:(some (!JE))=some r:=H
 have A2:=Aside0.mk VD
 clear VD
 obtain rfl:=Option.some.inj H
 go_enter Try.func52,Try.ntmps52
 go_wp2_with (first|((with_reducible refine aY (f:=27) rfl ?_);refine bP (some 4) rfl rfl Try.func27 (by kernel_rfl) rfl #[.slice A0 l0.length c0] rfl (by (try simp only [List.map_toArray,List.map_cons,List.map_nil]);first|done|rfl|(simp only [List.length_drop,List.length_take];rfl)) ?_;(with_reducible refine (cS.calls k _ _ l0 JE _ ?cy ?cA A2.out).mono ?_);(case cy=>repeat (first|exact eE.out|(with_reducible refine Kd.cX ?_ _)|(with_reducible refine Kd.cY ?_ _)|(with_reducible refine Kd.dB ?_)));(case cA=>exact lR.out);rintro e w' ⟨rfl,⟨nd,rfl⟩⟩;refine ⟨_,rfl,?_⟩))
 go_ret
 exact ⟨by first|rfl|(simp;done)|(simp [*];done),by repeat (first|exact bg.refl _|apply bg.step)⟩
def bF.l0:Nat->List Int->Int->Int->Int->Option (Int)
 |0,_,_,_,_=>none
 |k+1,x0,x1,x7,x8=>if x8<x7 then (if 0<=x8 then (if x8<(x0.length:Int) then (if x1=(rd x0 x8) then (some x8) else (bF.l0 k x0 x1 x7 (wrap64 (x8+1)))) else (none)) else (none)) else (some (-1))
def bF.f (k:Nat) (l0:List Int) (a1:Int):Option (Int):=bF.l0 k l0 a1 (l0.length:Int) 0
theorem bF.cI:∀k,(∀y0 y1 y2 y3,aT (bF.l0 k y0 y1 y2 y3) (bF.l0 (k+1) y0 y1 y2 y3))
 |0=>fun _ _ _ _ r h=>by simp [bF.l0] at h
 |k+1=>by
  have dL:=bF.cI k
  ·intro y0 y1 y2 y3
   unfold bF.l0
   repeat' first
   |(with_reducible exact dL _ _ _ _)
   |(with_reducible exact aT.refl _)
   |(with_reducible exact aT.none _)
   |(with_reducible refine aT.ite ?_ ?_)
   |(with_reducible refine aT.bind ?_ (fun _=>?_))
theorem bF.mono:∀a0 a1 k,aT (bF.f k a0 a1) (bF.f (k+1) a0 a1):=by
 intro a0 a1 k
 have dL:=bF.cI k
 unfold bF.f
 repeat' first
  |(with_reducible exact dL _ _ _ _)
  |(with_reducible exact aT.refl _)
  |(with_reducible exact aT.none _)
  |(with_reducible refine aT.ite ?_ ?_)
  |(with_reducible refine aT.bind ?_ (fun _=>?_))
set_option maxHeartbeats 8000000 in
set_option maxRecDepth 100000 in
theorem bF.calls (k:Nat) (A0:Option Addr) (c0:Nat) (l0:List Int) (a1:Int) (r:Int) (w:World) (fy:Kd.C (Kd.int .i64) w A0 l0.length l0) (hc0:l0.length<=c0) (h:bF.f k l0 a1=some r):
 Calls Try.prog 54 #[.slice A0 l0.length c0,.int .i64 a1] w fun e w'=>e= .returned (.int .i64 r)/\bg w w':=by
 have eE:=Aside0.mk fy
 have lR:=Aside0.mk hc0
 clear fy hc0
 have H:(bF.l0 k l0 a1 (l0.length:Int) 0)=some r:=h
 clear h
 have H':=Aside0.mk H
 clear H
 go_enter Try.func54,Try.ntmps54
 go_wp2
 go_loopg [8] k (fun kq v8 w'=>∃(eT:Int),v8= .int .i64 eT/\Aside0 (bF.l0 kq l0 a1 (l0.length:Int) eT=some r)/\Aside0 (kq<=k)/\bg w w')
 case atStart=>exact ⟨(0),(by first|rfl|(simp;done)|(simp [*];done)),H',⟨Nat.le_refl _⟩,by repeat (first|exact bg.refl _|apply bg.step)⟩
 case round=>
  clear H'
  try clear p2
  obtain ⟨eT,rfl,HA,fR,⟨m1,rfl⟩⟩:=hrel
  cases gk with
  |zero=>exact absurd HA.out (by simp [bF.l0])
  |succ k1=>
   have H:=HA.out
   clear HA
   simp only [bF.l0] at H
   by_cases c3:eT<(l0.length:Int)
   ·rw [if_pos c3] at H
    have gv:decide (eT<(l0.length:Int))=true:=decide_eq_true c3
    clear c3
    by_cases c4:0<=eT
    ·rw [if_pos c4] at H
     have kC:decide (0<=eT)=true:=decide_eq_true c4
     clear c4
     by_cases c5:eT<(l0.length:Int)
     ·rw [if_pos c5] at H
      have uY:decide (eT<(l0.length:Int))=true:=decide_eq_true c5
      clear c5
      by_cases c6:a1=(rd l0 eT)
      ·rw [if_pos c6] at H
       have ov:(a1==(rd l0 eT))=true:=beq_iff_eq.mpr c6
       have MD:(a1 !=(rd l0 eT))=false:=bne_eq_false_iff_eq.mpr c6
       clear c6
       obtain rfl:=Option.some.inj H
       have Ew:0<=(eT:Int):=of_decide_eq_true (by first|(with_reducible assumption)|assumption)
       have Ex:eT<(l0.length:Int):=of_decide_eq_true (by first|(with_reducible assumption)|assumption)
       obtain ⟨b2d,a0U,a5u⟩:=Kd.gq eE.out eT Ew Ex
       cases a0U
       replace Ew:=eq_true Ew
       replace Ex:=eq_true Ex
       go_wp2
       go_ret
       exact ⟨by first|rfl|(simp;done)|(simp [*];done),by repeat (first|exact bg.refl _|apply bg.step)⟩
      ·rw [if_neg c6] at H
       have ov:(a1==(rd l0 eT))=false:=beq_eq_false_iff_ne.mpr c6
       have MD:(a1 !=(rd l0 eT))=true:=bne_iff_ne.mpr c6
       have H':=Aside0.mk H
       clear H
       have Ew:0<=(eT:Int):=of_decide_eq_true (by first|(with_reducible assumption)|assumption)
       have Ex:eT<(l0.length:Int):=of_decide_eq_true (by first|(with_reducible assumption)|assumption)
       obtain ⟨b2d,a0U,a5u⟩:=Kd.gq eE.out eT Ew Ex
       cases a0U
       replace Ew:=eq_true Ew
       replace Ex:=eq_true Ex
       go_wp2
       go_roundg k1
       case measure=>have:=fR.out;omega
       case rel=>exact ⟨(wrap64 (eT+1)),(by first|rfl|(simp;done)|(simp [*];done)),H',⟨by have:=fR.out;omega⟩,by repeat (first|exact bg.refl _|apply bg.step)⟩
     ·rw [if_neg c5] at H
      exact absurd H (by simp)
    ·rw [if_neg c4] at H
     exact absurd H (by simp)
   ·rw [if_neg c3] at H
    have gv:decide (eT<(l0.length:Int))=false:=decide_eq_false c3
    clear c3
    obtain rfl:=Option.some.inj H
    go_wp2
    go_ret
    exact ⟨by first|rfl|(simp;done)|(simp [*];done),by repeat (first|exact bg.refl _|apply bg.step)⟩
def dM.f (k:Nat) (l0:List Int) (a1:Int):Option (Bool):=(bF.f k l0 a1).bind fun JF=>(some (decide (JF>=0)))
theorem dM.mono:∀a0 a1 k,aT (dM.f k a0 a1) (dM.f (k+1) a0 a1):=by
 intro a0 a1 k
 unfold dM.f
 repeat' first
  |(with_reducible exact bF.mono _ _ _)
  |(with_reducible exact aT.refl _)
  |(with_reducible exact aT.none _)
  |(with_reducible refine aT.ite ?_ ?_)
  |(with_reducible refine aT.bind ?_ (fun _=>?_))
set_option maxHeartbeats 8000000 in
set_option maxRecDepth 100000 in
theorem dM.calls (k:Nat) (A0:Option Addr) (c0:Nat) (l0:List Int) (a1:Int) (r:Bool) (w:World) (fy:Kd.C (Kd.int .i64) w A0 l0.length l0) (hc0:l0.length<=c0) (h:dM.f k l0 a1=some r):
 Calls Try.prog 31 #[.slice A0 l0.length c0,.int .i64 a1] w fun e w'=>e= .returned (.bool r)/\bg w w':=by
 have eE:=Aside0.mk fy
 have lR:=Aside0.mk hc0
 clear fy hc0
 have H:((bF.f k l0 a1).bind fun JF=>(some (decide (JF>=0))))=some r:=h
 clear h
 replace H:=Option.bind_eq_some_iff.mp H
 obtain ⟨JF,jc,H⟩:=H
 replace H:(some (decide (JF>=0)))=some r:=H
 have A3:=Aside0.mk jc
 clear jc
 obtain rfl:=Option.some.inj H
 go_enter Try.func31,Try.ntmps31
 go_wp2_with (first|((with_reducible refine aY (f:=54) rfl ?_);refine bP (some 7) rfl rfl Try.func54 (by kernel_rfl) rfl #[.slice A0 l0.length c0,.int .i64 a1] rfl (by (try simp only [List.map_toArray,List.map_cons,List.map_nil]);first|done|rfl|(simp only [List.length_drop,List.length_take];rfl)) ?_;(with_reducible refine (bF.calls k _ _ l0 a1 JF _ ?cy ?cA A3.out).mono ?_);(case cy=>repeat (first|exact eE.out|(with_reducible refine Kd.cX ?_ _)|(with_reducible refine Kd.cY ?_ _)|(with_reducible refine Kd.dB ?_)));(case cA=>exact lR.out);rintro e w' ⟨rfl,⟨nd,rfl⟩⟩;refine ⟨_,rfl,?_⟩))
 go_ret
 exact ⟨by first|rfl|(simp;done)|(simp [*];done),by repeat (first|exact bg.refl _|apply bg.step)⟩
end Go.Proofs.Ytnhknojfpjheoaa.P
namespace Go.Proofs.Ytnhknojfpjheoaa.PT
open Go.RowKit Go.Proofs.Ytnhknojfpjheoaa.P Go.Proofs.YtnhknojfpjheoaaW.PrintWords Go.Proofs.YtnhknojfpjheoaaW.PrintLast Go.Proofs.Ytnhknojfpjheoaa.EvKit
set_option linter.all false
def Ey (v:Int):List Int->Nat->Int
 | [],_=> -1
 |x::r,i=>if v=x then i else Ey v r (i+1)
theorem OI (v:Int):∀(l:List Int) (i:Nat),0<=Ey v l i↔v∈l
 | [],i=>by simp [Ey]
 |x::r,i=>by
  simp only [Ey]
  by_cases h:v=x
  ·rw [if_pos h];subst h;simp
  ·rw [if_neg h,OI v r (i+1)];simp [h]
theorem Pj (l:List Int) (v:Int) (hl:l.length<=1048576):Ev (fun k=>bF.f k l v) (Ey v l 0):=by
 unfold bF.f
 have:=Ev.loop (g:=fun k i=>bF.l0 k l v (l.length:Int) (i:Int)) (n:=l.length) (R:=fun i=>Ey v (l.drop i) i) ?_ ?_ 0 (Nat.zero_le _)
 ·simpa using this
 ·refine Ev.succ ?_
  simp only [bF.l0]
  rw [List.drop_of_length_le (l:=l) (Nat.le_refl _)]
  exact Ev.neg (by omega) (Ev.now _)
 ·intro i hi ih
  refine Ev.succ ?_
  simp only [bF.l0,qy hi,eR (show i<=9223372036854775806 by omega)]
  rw [og hi]
  refine Ev.pos (by omega) (Ev.pos (by omega) (Ev.pos (by omega) ?_))
  simp only [Ey]
  by_cases c:v=l[i]
  ·rw [if_pos c];exact Ev.pos c (Ev.now _)
  ·rw [if_neg c];exact Ev.neg c ih
theorem yS (l:List Int) (v:Int) (hl:l.length<=1048576):Ev (fun k=>dM.f k l v) (decide (v∈l)):=by
 unfold dM.f
 refine Ev.bind (Pj l v hl) (Ev.to (Ev.now _) ?_)
 rw [decide_eq_decide]
 exact OI v l 0
def fU (p:List Int->Bool):List (List Int)->Nat->Int
 | [],_=> -1
 |x::r,i=>if p x=true then i else fU p r (i+1)
theorem zJ (p:List Int->Bool):∀(l:List (List Int)) (i:Nat),decide (fU p l i>=0)=l.any p
 | [],i=>rfl
 |x::r,i=>by
  by_cases h:p x=true
  ·have e:fU p (x::r) i=(i:Int):=if_pos h
   rw [e,List.any_cons,h,Bool.true_or];exact decide_eq_true (by omega)
  ·have e:fU p (x::r) i=fU p r (i+1):=if_neg h
   rw [e,zJ p r (i+1),List.any_cons,Bool.eq_false_iff.mpr h,Bool.false_or]
theorem ju {w w':World} (h:bg w w'):Below w.heap.size w w':=by
 obtain ⟨n,rfl⟩:=h
 exact fP (Below.refl _ _) n
set_option maxHeartbeats 2000000 in
set_option maxRecDepth 100000 in
theorem Pk (p:List Int->Bool) (A:Option Addr) (c:Nat) (l:List (List Int)) (w:World) (hr:Kd.C Aa w A l.length l) (hc:l.length<=c)
 (hF:∀row,row∈l->∀A1 c1 W,Below w.heap.size w W->Kd.C (Kd.int .i64) W A1 row.length row->row.length<=c1->Calls Try.prog 52 #[.slice A1 row.length c1] W fun e w'=>e= .returned (.bool (p row))/\Below W.heap.size W w'):
 Calls Try.prog 53 #[.slice A l.length c,.func (.func 52) #[] #[]] w fun e w'=>e= .returned (.int .i64 (fU p l 0))/\Below w.heap.size w w':=by
 have HR:=Aside0.mk hr
 have hlen:l.length<=9223372036854775807:=hr.2.1
 have HF:=Aside0.mk hF
 clear hr hF
 go_enter Try.func53,Try.ntmps53
 go_wp2
 go_loopw [8] (fun iv wr=>∃i:Nat,iv= .int .i64 (i:Int)/\i<=l.length/\Aside0 (fU p l 0=fU p (l.drop i) i)/\Aside0 (Below w.heap.size w wr)) (fun iv _=>l.length -(intOf iv).toNat)
 case atStart=>exact ⟨0,rfl,by omega,⟨by simp⟩,⟨by repeat (first|exact Below.refl _ _|apply bB)⟩⟩
 case round=>
  obtain ⟨i,rfl,hi,HE,HB⟩:=hrel
  by_cases hlt:i<l.length
  ·obtain ⟨ad,A1,c1,e,hx,hlx,GG⟩:=GF HR.out i hlt
   have uL:=Aside0.mk (HF.out l[i] (List.getElem_mem hlt) A1 c1 wr HB.out (Kd.bX GG HB.out) hlx)
   have vQ:Aside0 (fU p l 0=if p l[i]=true then (i:Int) else fU p (l.drop (i+1)) (i+1)):=⟨by rw [HE.out,List.drop_eq_getElem_cons hlt];rfl⟩
   cases e
   have hx2:wr.cell? (ad.add i)=some (.slice A1 (l[i]).length c1):=(HB.out.cell (World.block_lt_of_cell? w _ hx)).trans hx
   have HI:=Aside0.mk hlt
   have ru:Aside0 (wrap64 ((i:Int)+1)=((i+1:Nat):Int)):=⟨eR (by omega)⟩
   have g0:(0:Int)<=(i:Int):=by omega
   have g1:(i:Int)<(l.length:Int):=by omega
   have Ge:decide ((i:Int)<(l.length:Int))=true:=decide_eq_true g1
   have yy:decide (i<l.length)=true:=decide_eq_true hlt
   clear hx hlx GG hi HE
   generalize l[i]=row at*
   generalize p row=y at*
   clear hlt
   cases y with
   |true=>
    have pJ:Aside0 (fU p l 0=(i:Int)):=⟨by rw [vQ.out,if_pos rfl]⟩
    clear vQ
    go_wp2_with (first|(go_at_call 52;(with_reducible refine uL.out.mono ?_);rintro e w1 ⟨rfl,hb1⟩;have eL:=Aside0.mk (ah HB.out hb1);clear hb1 uL))
    go_ret
    exact ⟨by rw [pJ.out];first|done|rfl,eL.out⟩
   |false=>
    have pJ:Aside0 (fU p l 0=fU p (l.drop (i+1)) (i+1)):=⟨by rw [vQ.out,if_neg (by decide)]⟩
    clear vQ
    go_wp2_with (first|(go_at_call 52;(with_reducible refine uL.out.mono ?_);rintro e w1 ⟨rfl,hb1⟩;have eL:=Aside0.mk (ah HB.out hb1);clear hb1 uL))
    go_roundw
    case rel=>exact ⟨i+1,by first|(rw [ru.out];done)|rfl|(simp;done),HI.out,pJ,eL⟩
    case measure=>(try rw [ru.out]);have:=HI.out;simp [intOf];omega
  ·have hil:i=l.length:=by omega
   have pJ:Aside0 (fU p l 0= -1):=⟨by rw [HE.out,hil,List.drop_length];rfl⟩
   have Ge:decide ((i:Int)<(l.length:Int))=false:=decide_eq_false (by omega)
   have yy:decide (i<l.length)=false:=decide_eq_false hlt
   clear hil hlt hi HE
   go_wp2
   go_ret
   exact ⟨by rw [pJ.out];first|done|rfl,HB.out⟩
set_option maxHeartbeats 2000000 in
set_option maxRecDepth 100000 in
theorem JG (p:List Int->Bool) (A:Option Addr) (c:Nat) (l:List (List Int)) (w:World) (hr:Kd.C Aa w A l.length l) (hc:l.length<=c)
 (hF:∀row,row∈l->∀A1 c1 W,Below w.heap.size w W->Kd.C (Kd.int .i64) W A1 row.length row->row.length<=c1->Calls Try.prog 52 #[.slice A1 row.length c1] W fun e w'=>e= .returned (.bool (p row))/\Below W.heap.size W w'):
 Calls Try.prog 29 #[.slice A l.length c,.func (.func 52) #[] #[]] w fun e w'=>e= .returned (.bool (l.any p))/\Below w.heap.size w w':=by
 have HI:=Aside0.mk (Pk p A c l w hr hc hF)
 have HA:Aside0 (decide (fU p l 0>=0)=l.any p):=⟨zJ p l 0⟩
 clear hr hc hF
 generalize fU p l 0=x at*
 go_enter Try.func29,Try.ntmps29
 go_wp2_with (first|(go_at_call 53;(with_reducible refine HI.out.mono ?_);rintro e w1 ⟨rfl,hb1⟩;have eL:=Aside0.mk hb1;clear hb1))
 go_ret
 exact ⟨by rw [<-HA.out];first|done|rfl,eL.out⟩
set_option maxHeartbeats 2000000 in
set_option maxRecDepth 100000 in
theorem Pm (p:List Int->Bool) (A:Option Addr) (c:Nat) (l:List (List Int)) (g:Nat) (w:World) (hr:Kd.C Aa w A l.length l) (hc:l.length<=c)
 (hF:∀row,row∈l->∀A1 c1 W,Below w.heap.size w W->Kd.C (Kd.int .i64) W A1 row.length row->row.length<=c1->Calls Try.prog 30 #[.slice A1 row.length c1,.pointer (some ⟨g,0,none⟩)] W fun e w'=>e= .returned (.bool (p row))/\Below W.heap.size W w'):
 Calls Try.prog 53 #[.slice A l.length c,.func (.func 30) #[] #[.pointer (some ⟨g,0,none⟩)]] w fun e w'=>e= .returned (.int .i64 (fU p l 0))/\Below w.heap.size w w':=by
 have HR:=Aside0.mk hr
 have hlen:l.length<=9223372036854775807:=hr.2.1
 have HF:=Aside0.mk hF
 clear hr hF
 go_enter Try.func53,Try.ntmps53
 go_wp2
 go_loopw [8] (fun iv wr=>∃i:Nat,iv= .int .i64 (i:Int)/\i<=l.length/\Aside0 (fU p l 0=fU p (l.drop i) i)/\Aside0 (Below w.heap.size w wr)) (fun iv _=>l.length -(intOf iv).toNat)
 case atStart=>exact ⟨0,rfl,by omega,⟨by simp⟩,⟨by repeat (first|exact Below.refl _ _|apply bB)⟩⟩
 case round=>
  obtain ⟨i,rfl,hi,HE,HB⟩:=hrel
  by_cases hlt:i<l.length
  ·obtain ⟨ad,A1,c1,e,hx,hlx,GG⟩:=GF HR.out i hlt
   have uL:=Aside0.mk (HF.out l[i] (List.getElem_mem hlt) A1 c1 wr HB.out (Kd.bX GG HB.out) hlx)
   have vQ:Aside0 (fU p l 0=if p l[i]=true then (i:Int) else fU p (l.drop (i+1)) (i+1)):=⟨by rw [HE.out,List.drop_eq_getElem_cons hlt];rfl⟩
   cases e
   have hx2:wr.cell? (ad.add i)=some (.slice A1 (l[i]).length c1):=(HB.out.cell (World.block_lt_of_cell? w _ hx)).trans hx
   have HI:=Aside0.mk hlt
   have ru:Aside0 (wrap64 ((i:Int)+1)=((i+1:Nat):Int)):=⟨eR (by omega)⟩
   have g0:(0:Int)<=(i:Int):=by omega
   have g1:(i:Int)<(l.length:Int):=by omega
   have Ge:decide ((i:Int)<(l.length:Int))=true:=decide_eq_true g1
   have yy:decide (i<l.length)=true:=decide_eq_true hlt
   clear hx hlx GG hi HE
   generalize l[i]=row at*
   generalize p row=y at*
   clear hlt
   cases y with
   |true=>
    have pJ:Aside0 (fU p l 0=(i:Int)):=⟨by rw [vQ.out,if_pos rfl]⟩
    clear vQ
    go_wp2_with (first|(go_at_call 30;(with_reducible refine uL.out.mono ?_);rintro e w1 ⟨rfl,hb1⟩;have eL:=Aside0.mk (ah HB.out hb1);clear hb1 uL))
    go_ret
    exact ⟨by rw [pJ.out];first|done|rfl,eL.out⟩
   |false=>
    have pJ:Aside0 (fU p l 0=fU p (l.drop (i+1)) (i+1)):=⟨by rw [vQ.out,if_neg (by decide)]⟩
    clear vQ
    go_wp2_with (first|(go_at_call 30;(with_reducible refine uL.out.mono ?_);rintro e w1 ⟨rfl,hb1⟩;have eL:=Aside0.mk (ah HB.out hb1);clear hb1 uL))
    go_roundw
    case rel=>exact ⟨i+1,by first|(rw [ru.out];done)|rfl|(simp;done),HI.out,pJ,eL⟩
    case measure=>(try rw [ru.out]);have:=HI.out;simp [intOf];omega
  ·have hil:i=l.length:=by omega
   have pJ:Aside0 (fU p l 0= -1):=⟨by rw [HE.out,hil,List.drop_length];rfl⟩
   have Ge:decide ((i:Int)<(l.length:Int))=false:=decide_eq_false (by omega)
   have yy:decide (i<l.length)=false:=decide_eq_false hlt
   clear hil hlt hi HE
   go_wp2
   go_ret
   exact ⟨by rw [pJ.out];first|done|rfl,HB.out⟩
set_option maxHeartbeats 2000000 in
set_option maxRecDepth 100000 in
theorem JH (p:List Int->Bool) (A:Option Addr) (c:Nat) (l:List (List Int)) (g:Nat) (w:World) (hr:Kd.C Aa w A l.length l) (hc:l.length<=c)
 (hF:∀row,row∈l->∀A1 c1 W,Below w.heap.size w W->Kd.C (Kd.int .i64) W A1 row.length row->row.length<=c1->Calls Try.prog 30 #[.slice A1 row.length c1,.pointer (some ⟨g,0,none⟩)] W fun e w'=>e= .returned (.bool (p row))/\Below W.heap.size W w'):
 Calls Try.prog 29 #[.slice A l.length c,.func (.func 30) #[] #[.pointer (some ⟨g,0,none⟩)]] w fun e w'=>e= .returned (.bool (l.any p))/\Below w.heap.size w w':=by
 have HI:=Aside0.mk (Pm p A c l g w hr hc hF)
 have HA:Aside0 (decide (fU p l 0>=0)=l.any p):=⟨zJ p l 0⟩
 clear hr hc hF
 generalize fU p l 0=x at*
 go_enter Try.func29,Try.ntmps29
 go_wp2_with (first|(go_at_call 53;(with_reducible refine HI.out.mono ?_);rintro e w1 ⟨rfl,hb1⟩;have eL:=Aside0.mk hb1;clear hb1))
 go_ret
 exact ⟨by rw [<-HA.out];first|done|rfl,eL.out⟩
set_option maxHeartbeats 1000000 in
theorem TN (A:Option Addr) (c:Nat) (l:List Int) (w:World) (hr:Kd.C (Kd.int .i64) w A l.length l) (hc:l.length<=c) (hl:l.length<=1048576):
 Calls Try.prog 52 #[.slice A l.length c] w fun e w'=>e= .returned (.bool (!kg (-1) l))/\Below w.heap.size w w':=by
 have hev:Ev (fun k=>iW.f k l) (!kg (-1) l):=by
  unfold iW.f
  exact Ev.bind (zl l (by omega)) (Ev.now _)
 obtain ⟨k,hk⟩:=Ev.rounds hev
 refine (iW.calls k A c l _ w hr hc hk).mono ?_
 rintro e w1 ⟨rfl,h⟩
 exact ⟨rfl,ju h⟩
set_option maxHeartbeats 1000000 in
theorem XO (A:Option Addr) (c:Nat) (l:List Int) (g:Nat) (v:Int) (w:World) (hr:Kd.C (Kd.int .i64) w A l.length l) (hc:l.length<=c) (hl:l.length<=1048576) (hv:w.cell? ⟨g,0,none⟩=some (.int .i64 v)):
 Calls Try.prog 30 #[.slice A l.length c,.pointer (some ⟨g,0,none⟩)] w fun e w'=>e= .returned (.bool (decide (v∈l)))/\Below w.heap.size w w':=by
 obtain ⟨k,hk⟩:=Ev.rounds (yS l v hl)
 have HC:=Aside0.mk (dM.calls k A c l v _ w hr hc hk)
 clear hr hk
 generalize decide (v∈l)=y at*
 go_enter Try.func30,Try.ntmps30
 go_wp2_with (first|(go_at_call 31;(with_reducible refine HC.out.mono ?_);rintro e w1 ⟨rfl,hb1⟩;have eL:=Aside0.mk (ju hb1);clear hb1))
 go_ret
 exact ⟨rfl,eL.out⟩
set_option maxHeartbeats 1000000 in
theorem Df (A:Option Addr) (c:Nat) (l:List (List Int)) (w:World) (hr:Kd.C Aa w A l.length l) (hc:l.length<=c) (hl:∀x,x∈l->x.length<=1048576):
 Calls Try.prog 28 #[.slice A l.length c] w fun e w'=>e= .returned (.bool (decide (l.length<=7)&&l.all (kg (-1))))/\Below w.heap.size w w':=by
 have HC:=Aside0.mk (JG (fun l=> !kg (-1) l) A c l w hr hc (fun row hrow A1 c1 W hb hC hc1=>TN A1 c1 row W hC hc1 (hl row hrow)))
 have HE:Aside0 ((!l.any (fun l=> !kg (-1) l))=l.all (kg (-1))):=⟨by
  rw [List.all_eq_not_any_not]⟩
 clear hr hl
 generalize l.any (fun l=> !kg (-1) l)=y at*
 by_cases h7:l.length<=7
 ·have g1:decide ((l.length:Int)<=7)=true:=decide_eq_true (by omega)
  have HD:Aside0 (decide (l.length<=7)=true):=⟨decide_eq_true h7⟩
  have yy:decide (l.length<=7)=true:=HD.out
  clear h7
  go_enter Try.func28,Try.ntmps28
  go_wp2_with (first|(go_at_call 29;(with_reducible refine HC.out.mono ?_);rintro e w1 ⟨rfl,hb1⟩;have eL:=Aside0.mk hb1;clear hb1))
  go_ret
  exact ⟨by rw [HD.out,<-HE.out];first|done|rfl|simp,eL.out⟩
 ·have g1:decide ((l.length:Int)<=7)=false:=decide_eq_false (by omega)
  have HD:Aside0 (decide (l.length<=7)=false):=⟨decide_eq_false h7⟩
  have yy:decide (l.length<=7)=false:=HD.out
  clear h7
  go_enter Try.func28,Try.ntmps28
  go_wp2_with (first|(go_at_call 29;(with_reducible refine HC.out.mono ?_);rintro e w1 ⟨rfl,hb1⟩;have eL:=Aside0.mk hb1;clear hb1))
  go_ret
  exact ⟨by rw [HD.out];first|done|rfl|simp,Below.refl _ _⟩
structure rA (W:World) (base n:Nat) (vs:Nat->Value) (rows:Nat->List Int):Prop where
 own:∀i,i<n->Kd.R (Kd.int .i64) 3 W base (fun _=>True) (vs i) (rows i)
 apart:∀i j,i<n->j<n->i≠j->∀k,(vs i).ownBlock=some k->(vs j).ownBlock≠some k
theorem LY {W W1:World} {base:Nat} {v:Value} {xs:List Int} (h:Kd.R (Kd.int .i64) 3 W base (fun _=>True) v xs) (hm:∀k,v.ownBlock=some k->W1.heap[k]? =W.heap[k]?):Kd.R (Kd.int .i64) 3 W1 base (fun _=>True) v xs:=by
 have h':Kd.R (Kd.int .i64) 3 W base (fun k=>v.ownBlock=some k) v xs:=⟨fun k hk=>hk,h.2.oW (fun _ _ hp=>hp)⟩
 exact Kd.dD (Kd.uX h' hm) (fun _ _=>trivial)
theorem yT {W:World} {base:Nat} {v:Value} {xs:List Int} (h:Kd.R (Kd.int .i64) 3 W base (fun _=>True) v xs) {k:Nat} (hk:v.ownBlock=some k):base<=k/\k<W.heap.size/\∃cells,W.heap[k]? =some (.cells cells 3 (0,0)):=by
 obtain ⟨_,inner,ho,_⟩:=h
 exact ⟨sk ho k hk,LU ho k hk,oX ho k hk⟩
theorem rA.move {W W1:World} {base n:Nat} {vs:Nat->Value} {rows:Nat->List Int} (h:rA W base n vs rows) (hm:∀k,base<=k->k<W.heap.size->(∃cells,W.heap[k]? =some (.cells cells 3 (0,0)))->W1.heap[k]? =W.heap[k]?):rA W1 base n vs rows:=
 ⟨fun i hi=>LY (h.own i hi) (fun k hk=>by obtain ⟨h1,h2,h3⟩:=yT (h.own i hi) hk;exact hm k h1 h2 h3),h.apart⟩
theorem rA.below {W W1:World} {base n:Nat} {vs:Nat->Value} {rows:Nat->List Int} (h:rA W base n vs rows) (hb:Below W.heap.size W W1):rA W1 base n vs rows:=
 h.move (fun k _ hk _=>hb.block k hk)
theorem rA.put {W:World} {base n:Nat} {vs:Nat->Value} {rows:Nat->List Int} (h:rA W base n vs rows) {g:Nat} {cs:Array Value} {t:TypeId} (hg:W.heap[g]? =some (.cells cs t (0,0))) (ht:t≠3) (i:Nat) (v:Value):rA (W.setCell ⟨g,i,none⟩ v) base n vs rows:=
 h.move (fun k _ _ ⟨cells,hk⟩=>by
  have hne:k≠g:=by
   intro e;rw [e,hg] at hk;simp only [Option.some.injEq,Obj.cells.injEq] at hk;exact ht hk.2.1
  exact (bn (W:=W) (o:= .cells cells 3 (0,0)) hk hne).trans hk.symm)
theorem rA.app {W w1:World} {base n:Nat} {vs:Nat->Value} {rows:Nat->List Int} (h:rA W base n vs rows) {i:Nat} (hi:i<n) {v1:Value} {xs:List Int} (ho:Kd.R (Kd.int .i64) 3 w1 base (fun _=>True) v1 xs) (hg:W.grownBy w1 (vs i).ownBlock) (hat:v1.ownBlock=(vs i).ownBlock∨∃b,v1.ownBlock=some b/\W.heap.size<=b):
 rA w1 base n (fun k=>if k=i then v1 else vs k) (fun k=>if k=i then xs else rows k):=by
 have hlt:∀j,j<n->∀k,(vs j).ownBlock=some k->k<W.heap.size:=fun j hj k hk=>(yT (h.own j hj) hk).2.1
 refine ⟨fun j hj=>?_,fun j l hj hl hne k hk=>?_⟩
 ·by_cases e:j=i
  ·subst e;rw [if_pos rfl,if_pos rfl];exact ho
  ·rw [if_neg e,if_neg e]
   exact LY (h.own j hj) (fun k hk=>hg.block k (hlt j hj k hk) (fun e2=>h.apart j i hj hi e k hk e2.symm))
 ·by_cases e:j=i
  ·subst e
   rw [if_pos rfl] at hk
   rw [if_neg (fun e=>hne e.symm)]
   rcases hat with hat|⟨b,hb,hsz⟩
   ·rw [hat] at hk;exact h.apart j l hj hl hne k hk
   ·rw [hb] at hk
    intro h2
    have:=hlt l hl k h2
    have:b=k:=Option.some.inj hk
    omega
  ·rw [if_neg e] at hk
   by_cases e2:l=i
   ·subst e2
    rw [if_pos rfl]
    rcases hat with hat|⟨b,hb,hsz⟩
    ·rw [hat];exact h.apart j l hj hl hne k hk
    ·rw [hb]
     intro h2
     have:=hlt j hj k hk
     have:b=k:=Option.some.inj h2
     omega
   ·rw [if_neg e2];exact h.apart j l hj hl hne k hk
def kW (W:World) (g n off:Nat) (vs:Nat->Value):Prop:=∃cs:Array Value,W.heap[g]? =some (.cells cs 22 (0,0))/\cs.size=n/\∀i,i<n->cs[i]? =some (vs (off+i))
theorem kW.move {W W1:World} {g n off:Nat} {vs:Nat->Value} (h:kW W g n off vs) (e:W1.heap[g]? =W.heap[g]?):kW W1 g n off vs:=by
 obtain ⟨cs,h1,h2⟩:=h;exact ⟨cs,e.trans h1,h2⟩
theorem kW.lt {W:World} {g n off:Nat} {vs:Nat->Value} (h:kW W g n off vs):g<W.heap.size:=by
 obtain ⟨cs,h1,_⟩:=h;exact aZ h1
theorem kW.below {W W1:World} {g n off:Nat} {vs:Nat->Value} (h:kW W g n off vs) (hb:Below W.heap.size W W1):kW W1 g n off vs:=h.move (hb.block _ h.lt)
theorem kW.grown {W W1:World} {g n off:Nat} {vs:Nat->Value} (h:kW W g n off vs) {v:Value} {base:Nat} {xs:List Int} (hR:Kd.R (Kd.int .i64) 3 W base (fun _=>True) v xs) (hg:W.grownBy W1 v.ownBlock):kW W1 g n off vs:=
 h.move (hg.block g h.lt (fun e=>by
  obtain ⟨cs,h1,_⟩:=h
  obtain ⟨_,_,cells,hk⟩:=yT hR e.symm
  rw [h1] at hk;simp only [Option.some.injEq,Obj.cells.injEq] at hk
  exact absurd hk.2.1 (by decide)))
theorem kW.at {W:World} {g n off:Nat} {vs:Nat->Value} (h:kW W g n off vs) {i:Nat} (hi:i<n):W.cell? ⟨g,i,none⟩=some (vs (off+i)):=by
 obtain ⟨cs,h1,_,h2⟩:=h;exact br h1 (h2 i hi)
theorem kW.frozen {W:World} {g n off:Nat} {vs:Nat->Value} (h:kW W g n off vs) (i:Nat):W.frozen? ⟨g,i,none⟩=false:=by
 obtain ⟨cs,h1,_⟩:=h;exact aa h1 i
theorem kW.put {W:World} {g n off:Nat} {vs:Nat->Value} (h:kW W g n off vs) {i:Nat} (hi:i<n) (v:Value):kW (W.setCell ⟨g,i,none⟩ v) g n off (fun k=>if k=off+i then v else vs k):=by
 obtain ⟨cs,h1,h2,h3⟩:=h
 refine ⟨_,heap_set h1,by simp [h2],fun j hj=>?_⟩
 by_cases e:j=i
 ·subst e;rw [Array.getElem?_setIfInBounds,if_pos rfl,if_pos (by omega)]
  show some v=some (if off+j=off+j then v else vs (off+j))
  rw [if_pos rfl]
 ·rw [Array.getElem?_setIfInBounds_ne (by omega),h3 j hj]
  show some (vs (off+j))=some (if off+j=off+i then v else vs (off+j))
  rw [if_neg (by omega)]
theorem kW.other {W:World} {g g' n off i:Nat} {vs:Nat->Value} {v:Value} (h:kW W g n off vs) (hne:g≠g'):kW (W.setCell ⟨g',i,none⟩ v) g n off vs:=by
 obtain ⟨cs,h1,h2⟩:=h;exact ⟨cs,bn h1 hne,h2⟩
theorem kW.congr {W:World} {g n off:Nat} {vs vs':Nat->Value} (h:kW W g n off vs) (e:∀i,i<n->vs' (off+i)=vs (off+i)):kW W g n off vs':=by
 obtain ⟨cs,h1,h2,h3⟩:=h;exact ⟨cs,h1,h2,fun i hi=>by rw [e i hi];exact h3 i hi⟩
theorem KS {W:World} {base N g n off:Nat} {vs:Nat->Value} {rows:Nat->List Int} (hF:rA W base N vs rows) (hC:kW W g n off vs) (hN:off+n<=N) (hn:n<=1048576):Kd.C Aa W (some ⟨g,0,none⟩) n ((List.range n).map (fun i=>rows (off+i))):=by
 obtain ⟨cs,h1,h2,h3⟩:=hC
 refine ⟨by simp,by omega,fun _=>⟨_,rfl,fun j p hp=>?_⟩⟩
 have hj:j<n:=by
  have:=(List.getElem?_eq_some_iff.1 hp).1;simpa using this
 have Pv:p=rows (off+j):=by simpa [hj] using hp.symm
 obtain ⟨A,c,he,hl,hc⟩:=Kd.oa (hF.own (off+j) (by omega))
 refine ⟨[vs (off+j)],rfl,⟨A,c,by rw [he,Pv],by rw [Pv];exact hl,by rw [Pv];exact hc⟩,fun i u hu=>?_⟩
 have hi:i=0:=by
  have:=(List.getElem?_eq_some_iff.1 hu).1;simp at this;exact this
 subst hi
 have hu':u=vs (off+j):=by simpa using hu.symm
 rw [hu',show (Aa).sz=1 from rfl,Nat.mul_one,Nat.add_zero,add_plain]
 exact br h1 (h3 j hj)
def lq (n:Nat):Array Value:=(List.replicate n (Value.slice none 0 0)).toArray
theorem XP (n:Nat) (h:n<=1048576) (w:World):(Instr.makeSlice 23 (.int .i64 (n:Int)) (.int .i64 (n:Int))).run Try.prog w= .ok (.slice (some ⟨w.heap.size,0,none⟩) n n) (w.alloc (.cells (lq n) 22)):=by
 obtain ⟨i,hi,hz,hs,hb⟩:=info_parts (show (Try.prog.info? 22).map (fun i=>(i.zero,i.size,i.bytes))=some (some (.slice none 0 0),1,24) by kernel_rfl)
 have hr:=run_make (P:=Try.prog) w 23 22 i (.slice none 0 0) Try.underlying23 hi hz .i64 .i64 n n (by omega) (by omega) (by rw [hb];omega) (by omega)
 have e:(Value.slice none 0 0).cells= #[.slice none 0 0]:=rfl
 have e2:madeCells #[Value.slice none 0 0] n=lq n:=by
  apply Array.ext
  ·rw [size_madeCells];simp [lq]
  ·intro i h1 h2
   simp [madeCells,lq]
   rw [Nat.mod_one];rfl
 rw [e] at hr
 simpa [hs,e2] using hr
theorem OJ {W:World} {g n off:Nat} (h:W.heap[g]? =some (.cells (lq n) 22 (0,0))):kW W g n off (fun _=> .slice none 0 0):=
 ⟨_,h,by simp [lq],fun i hi=>by unfold lq;rw [List.getElem?_toArray,List.getElem?_replicate,if_pos hi]⟩
theorem a0V (W:World) (base n:Nat):rA W base n (fun _=> .slice none 0 0) (fun _=>[]):=
 ⟨fun i hi=>Kd.rB _ _ _ _ _,fun i j _ _ _ k hk=>by simp [Value.ownBlock] at hk⟩
end Go.Proofs.Ytnhknojfpjheoaa.PT
namespace Go.Proofs.Ytnhknojfpjheoaa.PT
open Go.RowKit Go.Proofs.Ytnhknojfpjheoaa.P Go.Proofs.YtnhknojfpjheoaaW.PrintWords Go.Proofs.YtnhknojfpjheoaaW.PrintLast Go.Proofs.Ytnhknojfpjheoaa.EvKit Go.Proofs.Ytnhknojfpjheoaa.Num Go.Proofs.Ytnhknojfpjheoaa.Lp
set_option linter.all false
theorem b2e {B m N K r b c:Nat} {T:bq} {cs:Array Value} (HR:gf cs m N K T) (hr:r<m+K) (hb:b<m+K) (hc:c<=N) (w':World) (h:w'.heap[B]? =some (.cells cs 62 (0,0))):w'.cell? ⟨B,529,none⟩=some (.int .i64 (N:Int))/\w'.cell? ⟨B,r*32+N*2,none⟩=some (.int .i64 (T.cell r N).num)/\w'.cell? ⟨B,r*32+N*2+1,none⟩=some (.int .i64 ((T.cell r N).den:Int))/\w'.cell? ⟨B,r*32+c*2,none⟩=some (.int .i64 (T.cell r c).num)/\w'.cell? ⟨B,r*32+c*2+1,none⟩=some (.int .i64 ((T.cell r c).den:Int))/\w'.cell? ⟨B,b*32+N*2,none⟩=some (.int .i64 (T.cell b N).num)/\w'.cell? ⟨B,b*32+N*2+1,none⟩=some (.int .i64 ((T.cell b N).den:Int))/\w'.cell? ⟨B,b*32+c*2,none⟩=some (.int .i64 (T.cell b c).num)/\w'.cell? ⟨B,b*32+c*2+1,none⟩=some (.int .i64 ((T.cell b c).den:Int)):=
 ⟨br h HR.mO,br h (HR.num r N hr (Nat.le_refl _)),br h (HR.den r N hr (Nat.le_refl _)),br h (HR.num r c hr hc),br h (HR.den r c hr hc),br h (HR.num b N hb (Nat.le_refl _)),br h (HR.den b N hb (Nat.le_refl _)),br h (HR.num b c hb hc),br h (HR.den b c hb hc)⟩
theorem JI {q:Rat}:0<jr q↔0<q:=by
 unfold jr
 by_cases h1:q<0
 ·rw [if_pos h1];constructor
  ·intro h;omega
  ·intro h;grind
 ·rw [if_neg h1]
  by_cases h2:0<q
  ·rw [if_pos h2];exact ⟨fun _=>h2,fun _=>by omega⟩
  ·rw [if_neg h2];exact ⟨fun h=>by omega,fun h=>absurd h h2⟩
theorem kZ.diff {D C m N K:Nat} {T:bq} (h:kZ D C m N K T) (hp:∀r,r<m->0<=T.cell r N) {r b c:Nat} (hr:r<m) (hb:b<m) (hc:c<=N) (hrc:0<T.cell r c) (hbc:0<T.cell b c):Ok (T.cell r N/T.cell r c - T.cell b N/T.cell b c):=by
 obtain ⟨x,y,hy,e,hx,hyb⟩:=h.quot hr (Nat.le_refl N) hc (fun h0=>by rw [h0] at hrc;grind)
 obtain ⟨x',y',hy',e',hx',b5X⟩:=h.quot hb (Nat.le_refl N) hc (fun h0=>by rw [h0] at hbc;grind)
 have h1:0<=T.cell r N/T.cell r c:=uD (hp r hr) hrc
 have h2:0<=T.cell b N/T.cell b c:=uD (hp b hb) hbc
 generalize T.cell r N/T.cell r c=p at*
 generalize T.cell b N/T.cell b c=q at*
 have NG:p.num.natAbs<=D/\p.den<=D:=Qu.num ⟨x,y,hy,e,hx,hyb⟩
 have hqn:q.num.natAbs<=D/\q.den<=D:=Qu.num ⟨x',y',hy',e',hx',b5X⟩
 have hp0:0<=p.num:=Rat.num_nonneg.2 h1
 have WW:0<=q.num:=Rat.num_nonneg.2 h2
 have b5Y:=Eb p
 have b2f:=Eb q
 refine Qu.ok (a:=D*D) (b:=D*D) ⟨p.num*q.den - q.num*p.den,p.den*q.den,by have:=Int.mul_pos b5Y b2f;omega,sub_mul p q,?_,?_⟩ h.dd h.dd
 ·have k1:0<=p.num*(q.den:Int):=Int.mul_nonneg hp0 (by omega)
  have k2:0<=q.num*(p.den:Int):=Int.mul_nonneg WW (by omega)
  have k3:(p.num*(q.den:Int)).natAbs<=D*D:=nj NG.1 (by rw [kQ];exact hqn.2)
  have k4:(q.num*(p.den:Int)).natAbs<=D*D:=nj hqn.1 (by rw [kQ];exact NG.2)
  omega
 ·rw [Int.natAbs_mul,kQ,kQ];exact Nat.mul_le_mul NG.2 hqn.2
set_option maxHeartbeats 2000000 in
set_option maxRecDepth 100000 in
theorem TP (D C L m N K:Nat) (T0:bq) (Inv:bq->Prop) (cs:Array Value) (w:World) (hR:gf cs m N K T0) (GH:Road D C L m N K (fun T T'=>Nonempty (lM m N K T T')) Inv T0) (hpos:∀T,Inv T->∀r,r<m->0<=T.cell r N) (a9y:∀T,Inv T->∀c,c<N->eD K (T.cost m c)->∃r,r<m/\0<T.cell r c):
 Calls Try.prog 35 #[.agg cs] w fun e w'=>∃cs' T,e= .returned (.agg cs')/\gf cs' m N K T/\Inv T/\(∀c,c<N->¬eD K (T.cost m c))/\Below w.heap.size w w':=by
 have hu:=Try.underlying62
 have HR:=Aside0.mk hR
 have rX:=Aside0.mk GH
 have b5Z:=Aside0.mk hpos
 have HUb:=Aside0.mk a9y
 clear hR GH hpos a9y
 go_enter Try.func35,Try.ntmps35
 go_wp2
 have lG:Aside0 (((w.alloc (.cells cs 62)).alloc (.cells Try.zeroCells62 62)).heap[w.heap.size]? =some (.cells cs 62 (0,0))):=⟨ak (di w _) _⟩
 have OL:Aside0 (((w.alloc (.cells cs 62)).alloc (.cells Try.zeroCells62 62)).heap[w.heap.size+1]? =some (.cells Try.zeroCells62 62 (0,0))):=⟨by have:=di (w.alloc (.cells cs 62)) (.cells Try.zeroCells62 62);rw [oQ] at this;exact this⟩
 have kO:Aside0 (Below w.heap.size w ((w.alloc (.cells cs 62)).alloc (.cells Try.zeroCells62 62))):=⟨bA (bA (Below.refl _ _) _) _⟩
 go_loopg [3] L (fun G s3 wr=>∃(n:Nat) (T:bq) (cs1:Array Value),L - n<=G/\Aside0 (Reach (fun T T'=>Nonempty (lM m N K T T')) T0 n T)/\Aside0 (Inv T)/\Aside0 (gf cs1 m N K T)/\Aside0 (wr.heap[w.heap.size]? =some (.cells cs1 62 (0,0)))/\Aside0 (wr.heap[w.heap.size+1]? =some (.cells Try.zeroCells62 62 (0,0)))/\Aside0 (Below w.heap.size w wr))
 case atStart=>exact ⟨0,T0,cs,by omega,⟨Reach.zero _ _⟩,⟨rX.out.start⟩,HR,lG,OL,kO⟩
 case round=>
  clear lG OL kO HR
  obtain ⟨n,T,cs1,hG,XQ,xG,HR,HA,dO,cr⟩:=hrel
  have HnL:=Aside0.mk (rX.out.few XQ.out)
  have HF:=Aside0.mk (rX.out.fine T xG.out)
  go_wp2
  go_loopw [3] (fun cv wr=>∃c:Nat,cv= .int .i64 (c:Int)/\c<=N/\Aside0 (∀j,j<c->¬eD K (T.cost m j))/\Aside0 (wr.heap[w.heap.size]? =some (.cells cs1 62 (0,0)))/\Aside0 (wr.heap[w.heap.size+1]? =some (.cells Try.zeroCells62 62 (0,0)))/\Aside0 (Below w.heap.size w wr)) (fun cv _=>N -(intOf cv).toNat)
  case atStart=>exact ⟨0,rfl,Nat.zero_le _,⟨fun j hj=>by omega⟩,HA,dO,cr⟩
  case round=>
   clear HA dO cr
   obtain ⟨c,rfl,hcN,HQ,HA,dO,cr⟩:=hrel
   have h0:=br HA.out HR.out.mO
   by_cases hc:c<N
   ·have g1:decide ((c:Int)<(N:Int))=true:=decide_eq_true (by omega)
    have yy:decide (c<N)=true:=decide_eq_true hc
    have g2:((c:Int)==(N:Int))=false:=beq_eq_false_iff_ne.mpr (by omega)
    have zR:(c==N)=false:=beq_eq_false_iff_ne.mpr (by omega)
    have HC:=Aside0.mk (Le w.heap.size m N K c T wr ⟨cs1,HA.out,HR.out⟩ (by omega))
    have nA:Aside0 (wrap64 ((c:Int)+1)=((c+1:Nat):Int)):=⟨eR (by have:=HR.out.hN;omega)⟩
    have uz:=Aside0.mk hc
    by_cases hneg:eD K (T.cost m c)
    ·have hz:lO T m c 0 K<0:=Kn.2 hneg
     obtain ⟨z,hz'⟩:∃z,z=lO T m c 0 K:=⟨_,rfl⟩
     rw [<-hz'] at hz HC
     have g3:decide (z>=0)=false:=decide_eq_false (by omega)
     have Kq:decide (0<=z)=false:=decide_eq_false (by omega)
     have a9B:=Aside0.mk hneg
     clear hz hz' hneg hc hcN
     go_wp2_with (first|(go_at_call 58;(with_reducible refine HC.out.mono ?_);rintro e w1 ⟨rfl,hb1⟩;have fG:=Aside0.mk (ai HA.out hb1);have fN:=Aside0.mk (ai dO.out hb1);have fe:=Aside0.mk (ah cr.out hb1);have h0':=br fG.out HR.out.mO;have h0r:=br fG.out HR.out.rows;clear hb1 HC))
     clear HA dO cr h0 h0' g3 Kq
     go_loopw [4,25] (fun bv rv wr=>∃(x:Int) (r:Nat),bv= .int .i64 x/\rv= .int .i64 (r:Int)/\r<=m/\Aside0 (jo T N c r x)/\Aside0 (wr.heap[w.heap.size]? =some (.cells cs1 62 (0,0)))/\Aside0 (wr.heap[w.heap.size+1]? =some (.cells Try.zeroCells62 62 (0,0)))/\Aside0 (Below w.heap.size w wr)) (fun _ rv _=>m -(intOf rv).toNat)
     case atStart=>exact ⟨-1,0,rfl,rfl,Nat.zero_le _,⟨jo.zero _ _ _⟩,fG,fN,fe⟩
     case round=>
      clear fG fN fe h0r
      obtain ⟨x,r,rfl,rfl,Kr,tA,HA,dO,cr⟩:=hrel
      by_cases hr:r<m
      ·have nk:=Aside0.mk hr
       have AV:r<m+K:=by omega
       have uk:c<=N:=Nat.le_of_lt uz.out
       have h1:=br HA.out (HR.out.num r c AV uk)
       have h2:=br HA.out (HR.out.den r c AV uk)
       have b0:(0:Int)<=(r:Int):=by omega
       have b1:(r:Int)<16:=by have:=HR.out.hm;omega
       have b2:(0:Int)<=(c:Int):=by omega
       have b3:(c:Int)<16:=by have:=HR.out.hN;have:=uz.out;omega
       have mS:Aside0 (wrap64 ((r:Int)+1)=((r+1:Nat):Int)):=⟨eR (by have:=HR.out.hm;omega)⟩
       have hm:=yw
       have js:=Aside0.mk (fun W=>vL (T.cell r c) W)
       have g4:decide ((r:Int)<(m:Int))=true:=decide_eq_true (by omega)
       have De:decide (r<m)=true:=decide_eq_true hr
       by_cases hp:0<T.cell r c
       ·have hz:0<jr (T.cell r c):=JI.2 hp
        have HP:=Aside0.mk hp
        obtain ⟨z,hz'⟩:∃z,z=jr (T.cell r c):=⟨_,rfl⟩
        rw [<-hz'] at hz js
        have g5:decide (z<=0)=false:=decide_eq_false (by omega)
        clear hz hz' hp hr
        by_cases hx:x= -1
        ·have g6:decide (x>=0)=false:=decide_eq_false (by omega)
         have g6n:decide (0<=x)=false:=decide_eq_false (by omega)
         have pO:Aside0 (jo T N c (r+1) (r:Int)):=⟨jo.first (hx ▸ tA.out) HP.out⟩
         clear hx
         go_wp2_with (first|(go_at_call 87;(with_reducible refine (js.out _).mono ?_);rintro e w1 ⟨rfl,hb1⟩;have fG:=Aside0.mk (ai HA.out hb1);have fN:=Aside0.mk (ai dO.out hb1);have fe:=Aside0.mk (ah cr.out hb1);clear hb1))
         go_roundw
         case rel=>exact ⟨r,r+1,rfl,by first|(rw [mS.out];done)|rfl|(simp;done),nk.out,pO,fG,fN,fe⟩
         case measure=>(try rw [mS.out]);have:=nk.out;simp [intOf];omega
        ·obtain ⟨b,rfl,hbr,sj⟩:=tA.out.index hx
         clear hx
         have hbK:b<m+K:=by omega
         have HBP:=Aside0.mk sj
         have HbR:=Aside0.mk hbr
         have g6:decide ((b:Int)>=0)=true:=decide_eq_true (by omega)
         have g6n:decide (0<=(b:Int))=true:=decide_eq_true (by omega)
         have b4:(0:Int)<=(b:Int):=by omega
         have b5:(b:Int)<16:=by have:=HR.out.hm;omega
         have b6:(0:Int)<=(N:Int):=by omega
         have b7:(N:Int)<16:=by have:=HR.out.hN;omega
         have Bw:T.cell r c≠0:=fun h0=>by have:=HP.out;rw [h0] at this;grind
         have Bx:T.cell b c≠0:=fun h0=>by have:=HBP.out;rw [h0] at this;grind
         have hdd:=HF.out.dd
         have hd1:=HF.out.d1
         have nW:=Aside0.mk (fun W=>AP W (Qu.sz (HF.out.row nk.out (Nat.le_refl N))) (Qu.sz (HF.out.row nk.out uk)) (by omega) (by omega) Bw (Qu.ok (HF.out.quot nk.out (Nat.le_refl N) uk Bw) (by omega) (by omega)))
         have tT:=Aside0.mk (fun W=>AP W (Qu.sz (HF.out.row (show b<m by omega) (Nat.le_refl N))) (Qu.sz (HF.out.row (show b<m by omega) uk)) (by omega) (by omega) Bx (Qu.ok (HF.out.quot (show b<m by omega) (Nat.le_refl N) uk Bx) (by omega) (by omega)))
         have zT:=Aside0.mk (fun W=>Jb W (Qu.sz (HF.out.quot nk.out (Nat.le_refl N) uk Bw)) (Qu.sz (HF.out.quot (show b<m by omega) (Nat.le_refl N) uk Bx)) (by omega) (by omega) (HF.out.diff (b5Z.out T xG.out) nk.out (by omega) uk HP.out HBP.out))
         have WO:=Aside0.mk (fun W=>vL (T.cell r N/T.cell r c - T.cell b N/T.cell b c) W)
         have HS:=Aside0.mk (b2e (B:=w.heap.size) HR.out AV hbK uk)
         have hm2:=Np
         have hm3:=Jc
         clear Bw Bx hdd hd1 sj
         go_wp2_with (first|(go_at_call 87;(with_reducible refine (js.out _).mono ?_);rintro e w1 ⟨rfl,hb1⟩;have fG:=Aside0.mk (ai HA.out hb1);have fN:=Aside0.mk (ai dO.out hb1);have fe:=Aside0.mk (ah cr.out hb1);clear hb1))
         clear HA dO cr js h1 h2
         go_cut [6] from 39 to 72 (fun s_ wx=>s_= .int .i64 (jr (T.cell r N/T.cell r c - T.cell b N/T.cell b c))/\Aside0 (Below w1.heap.size w1 wx))
         case first=>
          have qw:=Aside0.mk (Below.refl w1.heap.size w1)
          go_region_held3 (fun w'=>w'.cell? ⟨w.heap.size,529,none⟩=some (.int .i64 (N:Int))/\w'.cell? ⟨w.heap.size,r*32+N*2,none⟩=some (.int .i64 (T.cell r N).num)/\w'.cell? ⟨w.heap.size,r*32+N*2+1,none⟩=some (.int .i64 ((T.cell r N).den:Int))/\w'.cell? ⟨w.heap.size,r*32+c*2,none⟩=some (.int .i64 (T.cell r c).num)/\w'.cell? ⟨w.heap.size,r*32+c*2+1,none⟩=some (.int .i64 ((T.cell r c).den:Int))/\w'.cell? ⟨w.heap.size,b*32+N*2,none⟩=some (.int .i64 (T.cell b N).num)/\w'.cell? ⟨w.heap.size,b*32+N*2+1,none⟩=some (.int .i64 ((T.cell b N).den:Int))/\w'.cell? ⟨w.heap.size,b*32+c*2,none⟩=some (.int .i64 (T.cell b c).num)/\w'.cell? ⟨w.heap.size,b*32+c*2+1,none⟩=some (.int .i64 ((T.cell b c).den:Int))) (first|(with_reducible exact CR.out)|exact HS.out _ (aj fG.out)) (first
           |(go_at_call 86;(with_reducible refine (nW.out _).mono ?_);rintro e wz ⟨rfl,hb⟩;have lI:=ah (by first|exact qw.out|exact bB qw.out) hb;clear qw;have qw:=Aside0.mk lI;have CR:=Aside0.mk (HS.out _ (ai fG.out qw.out));clear hb lI)
           |(go_at_call 86;(with_reducible refine (tT.out _).mono ?_);rintro e wz ⟨rfl,hb⟩;have lI:=ah (by first|exact qw.out|exact bB qw.out) hb;clear qw;have qw:=Aside0.mk lI;have CR:=Aside0.mk (HS.out _ (ai fG.out qw.out));clear hb lI)
           |(go_at_call 85;(with_reducible refine (zT.out _).mono ?_);rintro e wz ⟨rfl,hb⟩;have lI:=ah (by first|exact qw.out|exact bB qw.out) hb;clear qw;have qw:=Aside0.mk lI;have CR:=Aside0.mk (HS.out _ (ai fG.out qw.out));clear hb lI)
           |(go_at_call 87;(with_reducible refine (WO.out _).mono ?_);rintro e wz ⟨rfl,hb⟩;have lI:=ah (by first|exact qw.out|exact bB qw.out) hb;clear qw;have qw:=Aside0.mk lI;have CR:=Aside0.mk (HS.out _ (ai fG.out qw.out));clear hb lI))
          all_goals
           go_wp2_with fail
           go_meet
           case rel=>exact ⟨rfl,qw⟩
         case rest=>
         obtain ⟨rfl,lT⟩:=hcut
         have iq:=Aside0.mk (ai fG.out lT.out)
         have qj:=Aside0.mk (ai fN.out lT.out)
         have Bz:=Aside0.mk (ah fe.out lT.out)
         clear fG fN fe lT nW tT zT WO HS
         generalize wc=w2 at*
         have h3:=br iq.out (HR.out.eO r nk.out)
         have h4:=br iq.out (HR.out.eO b (by omega))
         generalize hx3:(T.basis r:Int)=xr at h3
         generalize FR:(T.basis b:Int)=xb at h4
         obtain ⟨zd,hzd⟩:∃zd,zd=jr (T.cell r N/T.cell r c - T.cell b N/T.cell b c):=⟨_,rfl⟩
         rw [<-hzd]
         by_cases hgt:T.cell b N/T.cell b c<T.cell r N/T.cell r c
         ·have hz:0<zd:=by rw [hzd];exact JI.2 (by grind)
          have e1:decide (zd>0)=true:=decide_eq_true hz
          have Xz:decide (0<zd)=true:=decide_eq_true hz
          have pO:=Aside0.mk (jo.keep tA.out (.inl hgt))
          clear hz hzd hgt hx3 FR
          go_wp2
          repeat (go_quiet (fail);try go_wp2)
          go_roundw
          case rel=>exact ⟨(b:Int),r+1,rfl,by first|(rw [mS.out];done)|rfl|(simp;done),nk.out,pO,⟨by first|exact iq.out|exact aq iq.out _|exact aj iq.out⟩,⟨by first|exact qj.out|exact aq qj.out _|exact aj qj.out⟩,⟨by repeat (first|exact Bz.out|apply bB|apply fP)⟩⟩
          case measure=>(try rw [mS.out]);have:=nk.out;simp [intOf];omega
         ·by_cases heq:T.cell b N/T.cell b c=T.cell r N/T.cell r c
          ·have hz:zd=0:=by rw [hzd];exact qU.2 (by grind)
           have e1:decide (zd>0)=false:=decide_eq_false (by omega)
           have Xz:decide (0<zd)=false:=decide_eq_false (by omega)
           have e2:(zd==0)=true:=by rw [hz];rfl
           clear hz hzd
           by_cases vk:T.basis b<T.basis r
           ·have e3:decide (xr>xb)=true:=decide_eq_true (by omega)
            have e3n:decide (xb<xr)=true:=decide_eq_true (by omega)
            have pO:=Aside0.mk (jo.keep tA.out (.inr ⟨heq,Nat.le_of_lt vk⟩))
            clear heq vk hgt hx3 FR
            go_wp2
            repeat (go_quiet (fail);try go_wp2)
            go_roundw
            case rel=>exact ⟨(b:Int),r+1,rfl,by first|(rw [mS.out];done)|rfl|(simp;done),nk.out,pO,⟨by first|exact iq.out|exact aq iq.out _|exact aj iq.out⟩,⟨by first|exact qj.out|exact aq qj.out _|exact aj qj.out⟩,⟨by repeat (first|exact Bz.out|apply bB|apply fP)⟩⟩
            case measure=>(try rw [mS.out]);have:=nk.out;simp [intOf];omega
           ·have e3:decide (xr>xb)=false:=decide_eq_false (by omega)
            have e3n:decide (xb<xr)=false:=decide_eq_false (by omega)
            have pO:=Aside0.mk (jo.take tA.out HP.out (.inr ⟨heq.symm,by omega⟩))
            clear heq vk hgt hx3 FR
            go_wp2
            repeat (go_quiet (fail);try go_wp2)
            go_roundw
            case rel=>exact ⟨(r:Int),r+1,rfl,by first|(rw [mS.out];done)|rfl|(simp;done),nk.out,pO,⟨by first|exact iq.out|exact aq iq.out _|exact aj iq.out⟩,⟨by first|exact qj.out|exact aq qj.out _|exact aj qj.out⟩,⟨by repeat (first|exact Bz.out|apply bB|apply fP)⟩⟩
            case measure=>(try rw [mS.out]);have:=nk.out;simp [intOf];omega
          ·have hlt':T.cell r N/T.cell r c<T.cell b N/T.cell b c:=by grind
           have hz:zd<0:=by rw [hzd];unfold jr;rw [if_pos (by grind)];omega
           have e1:decide (zd>0)=false:=decide_eq_false (by omega)
           have Xz:decide (0<zd)=false:=decide_eq_false (by omega)
           have e2:(zd==0)=false:=beq_eq_false_iff_ne.mpr (by omega)
           have pO:=Aside0.mk (jo.take tA.out HP.out (.inl hlt'))
           clear hz hzd hgt heq hlt' hx3 FR
           go_wp2
           repeat (go_quiet (fail);try go_wp2)
           go_roundw
           case rel=>exact ⟨(r:Int),r+1,rfl,by first|(rw [mS.out];done)|rfl|(simp;done),nk.out,pO,⟨by first|exact iq.out|exact aq iq.out _|exact aj iq.out⟩,⟨by first|exact qj.out|exact aq qj.out _|exact aj qj.out⟩,⟨by repeat (first|exact Bz.out|apply bB|apply fP)⟩⟩
           case measure=>(try rw [mS.out]);have:=nk.out;simp [intOf];omega
       ·have hz:¬0<jr (T.cell r c):=fun h=>hp (JI.1 h)
        obtain ⟨z,hz'⟩:∃z,z=jr (T.cell r c):=⟨_,rfl⟩
        rw [<-hz'] at hz js
        have g5:decide (z<=0)=true:=decide_eq_true (by omega)
        have pO:=Aside0.mk (tA.out.skip hp)
        clear hz hz' hp hr
        go_wp2_with (first|(go_at_call 87;(with_reducible refine (js.out _).mono ?_);rintro e w1 ⟨rfl,hb1⟩;have fG:=Aside0.mk (ai HA.out hb1);have fN:=Aside0.mk (ai dO.out hb1);have fe:=Aside0.mk (ah cr.out hb1);clear hb1))
        go_roundw
        case rel=>exact ⟨x,r+1,rfl,by first|(rw [mS.out];done)|rfl|(simp;done),nk.out,pO,fG,fN,fe⟩
        case measure=>(try rw [mS.out]);have:=nk.out;simp [intOf];omega
      ·have g4:decide ((r:Int)<(m:Int))=false:=decide_eq_false (by omega)
       have De:decide (r<m)=false:=decide_eq_false hr
       have b6a:r=m:=by omega
       obtain ⟨i,hi,hip⟩:=HUb.out T xG.out c uz.out a9B.out
       have hx:x≠ -1:=by
        intro hx
        rcases tA.out with ⟨_,h⟩|⟨b,e,_⟩
        ·exact h i (by omega) hip
        ·omega
       obtain ⟨b,rfl,hbr,sj⟩:=tA.out.index hx
       have g6:decide ((b:Int)<0)=false:=decide_eq_false (by omega)
       have hbm:b<m:=by omega
       have hne:T.cell b c≠0:=fun h0=>by rw [h0] at sj;grind
       have hst:Nonempty (lM m N K T (T.pivot b c)):=⟨⟨b,c,hbm,uz.out,a9B.out,HQ.out,sj,fun i hi pI=>by
        rcases tA.out with ⟨e,_⟩|⟨b',e,_,_,h⟩
        ·omega
        ·have e2:b'=b:=by omega
         subst e2
         exact h i (by omega) pI,rfl⟩⟩
       have KP:=Aside0.mk (rX.out.step T _ xG.out hst)
       have a0W:=Aside0.mk (XQ.out.next hst)
       have HP:=Aside0.mk (fun W=>FP D C m N K b c T cs1 W HR.out hbm uz.out hne HF.out (rX.out.fine _ KP.out))
       have HI:Aside0 ((Try.prog.info? 62).map (·.size)=some cs1.size):=⟨by rw [HR.out.size];kernel_rfl⟩
       clear hx sj hst hne hip hi b6a hbr
       go_wp2_with (first|((with_reducible refine bp (N:=95) rfl ?_);refine wpList_load_row rfl 62 (.tmp 1) rfl w.heap.size rfl 62 cs1 (0,0) _ HA.out hu (by rfl) HI.out ?_)|(go_at_call 57;(with_reducible refine (HP.out _).mono ?_);rintro e w1 ⟨ir,rfl,Oa,hb1⟩;have GI:=Aside0.mk Oa;have fG:=Aside0.mk (ai HA.out hb1);have fN:=Aside0.mk (ai dO.out hb1);have fe:=Aside0.mk (ah cr.out hb1);have a0X:Aside0 ((Try.prog.info? 62).map (·.size)=some ir.size):=⟨by rw [GI.out.size];kernel_rfl⟩;have HZs:Aside0 (cs1.size=ir.size):=⟨by rw [HR.out.size,GI.out.size]⟩;clear hb1 Oa)|((with_reducible refine iR (t:=62) (p:=1) rfl ?_);refine wpList_store_row rfl 62 (.tmp 1) (.tmp 98) rfl w.heap.size ir rfl rfl 62 cs1 fG.out a0X.out HZs.out GI.out.one ?_))
       go_roundg (L -(n+1))
       case measure=>have:=HnL.out;omega
       case rel=>exact ⟨n+1,T.pivot b c,ir,Nat.le_refl _,a0W,KP,GI,⟨qV fG.out⟩,⟨sM fN.out (by omega)⟩,⟨pH fe.out (Nat.le_refl _)⟩⟩
    ·have hz:¬lO T m c 0 K<0:=fun h=>hneg (Kn.1 h)
     obtain ⟨z,hz'⟩:∃z,z=lO T m c 0 K:=⟨_,rfl⟩
     rw [<-hz'] at hz HC
     have g3:decide (z>=0)=true:=decide_eq_true (by omega)
     have Kq:decide (0<=z)=true:=decide_eq_true (by omega)
     have HQ':Aside0 (∀j,j<c+1->¬eD K (T.cost m j)):=⟨fun j hj=>by
      by_cases e:j=c
      ·rw [e];exact hneg
      ·exact HQ.out j (by omega)⟩
     clear hz hz' hneg hc
     go_wp2_with (first|(go_at_call 58;(with_reducible refine HC.out.mono ?_);rintro e w1 ⟨rfl,hb1⟩;have fG:=Aside0.mk (ai HA.out hb1);have fN:=Aside0.mk (ai dO.out hb1);have fe:=Aside0.mk (ah cr.out hb1);clear hb1 HC))
     go_roundw
     case rel=>exact ⟨c+1,by first|(rw [nA.out];done)|rfl|(simp;done),uz.out,HQ',fG,fN,fe⟩
     case measure=>(try rw [nA.out]);have:=uz.out;simp [intOf];omega
   ·have g1:decide ((c:Int)<(N:Int))=false:=decide_eq_false (by omega)
    have yy:decide (c<N)=false:=decide_eq_false hc
    have g2:((c:Int)==(N:Int))=true:=by rw [show c=N by omega];simp
    have zR:(c==N)=true:=by rw [show c=N by omega];simp
    have Ql:Aside0 (∀c,c<N->¬eD K (T.cost m c)):=⟨fun j hj=>HQ.out j (by omega)⟩
    clear HQ
    have HQ:=Ql
    clear hc hcN Ql
    have HI:Aside0 ((Try.prog.info? 62).map (·.size)=some cs1.size):=⟨by rw [HR.out.size];kernel_rfl⟩
    have HZ:Aside0 ((Try.zeroCells62).size=cs1.size):=⟨by rw [HR.out.size];kernel_rfl⟩
    go_wp2_with (first|((with_reducible refine bp (N:=22) rfl ?_);refine wpList_load_row rfl 62 (.tmp 1) rfl w.heap.size rfl 62 cs1 (0,0) _ HA.out hu (by rfl) HI.out ?_)|((with_reducible refine iR (t:=62) (p:=2) rfl ?_);refine wpList_store_row rfl 62 (.tmp 2) (.tmp 22) rfl (w.heap.size+1) cs1 rfl rfl 62 Try.zeroCells62 dO.out HI.out HZ.out HR.out.one ?_))
    refine bodyPost_ret (results_cell_row rfl _ _ (w.heap.size+1) 62 cs1 (0,0) _ rfl (qV dO.out) hu (by rfl) HI.out) rfl ?_
    exact ⟨cs1,T,rfl,HR.out,xG.out,HQ.out,pH cr.out (by omega)⟩
end Go.Proofs.Ytnhknojfpjheoaa.PT
