/-
  Part 14 of the proof of this: The law FnCover answers true at every argument.
-/
import Derived.Test.YtnhknojfpjheoaaKCover2
import Derived.Test.YtnhknojfpjheoaaKCover3
import Derived.Test.YtnhknojfpjheoaaKCover4
import Derived.Test.YtnhknojfpjheoaaKCover5
import Derived.Test.YtnhknojfpjheoaaKCover11
import Derived.Test.YtnhknojfpjheoaaKCover12
import Derived.Test.YtnhknojfpjheoaaKCover13
namespace Go.Proofs.Ytnhknojfpjheoaa.PT
open Go.RowKit Go.Proofs.Ytnhknojfpjheoaa.P Go.Proofs.YtnhknojfpjheoaaW.PrintWords Go.Proofs.YtnhknojfpjheoaaW.PrintLast Go.Proofs.Ytnhknojfpjheoaa.EvKit Go.Proofs.Ytnhknojfpjheoaa.Num Go.Proofs.Ytnhknojfpjheoaa.Lp
set_option linter.all false
abbrev yB:=Bool×Int×Int×List bV×List bV
def qB:yB:=(false,0,0,[],[])
section
variable {aj:List Int} {af:List (List Int)}
variable (hnb:aj.length<=6) (hne:af.length<=7) (hr:∀j,(af.getD j []).length<=1048576)
include hnb hne hr
theorem b1w (x8 sU:List cC) (i:Nat) (R:yB) (hx14:sU.length<=100) (hi:i<af.length)
 (hend:∀a2w,a2w=sU++(if kA aj af i=true then [lZ (je aj af) aj.length true i] else [])->Ev (fun k=>aC.l3 k aj af x8 a2w af (af.length:Int) ((i+1:Nat):Int)) R):
 ∀m j,j+m=aj.length->Ev (fun k=>aC.l4 k aj af x8 sU (af.getD i []) af (af.length:Int) (i:Int) aj (aj.length:Int) (j:Int) (places (je aj af i) j) true 1) R:=by
 intro m
 induction m with
 |zero=>
  intro j hj
  have e:j=aj.length:=by omega
  subst e
  refine Ev.succ ?_
  simp only [aC.l4,eD (show i<=9223372036854775806 by omega)]
  refine Ev.neg (by omega) ?_
  by_cases h:(places (je aj af i) aj.length)=[]
  ·have h0:kA aj af i=false:=by unfold kA;rw [h];rfl
   have:=hend sU (by rw [h0];simp)
   refine Ev.neg (by rw [h];simp) ?_
   exact this
  ·have h0:kA aj af i=true:=by
    unfold kA;cases hh:places (je aj af i) aj.length with
    |nil=>exact absurd hh h
    |cons a l=>rfl
   have:=hend (sU++[lZ (je aj af) aj.length true i]) (by rw [h0];simp)
   refine Ev.pos (by
    have:0<(places (je aj af i) aj.length).length:=List.length_pos_iff.2 h
    omega) (Ev.pos (by omega) ?_)
   exact this
 |succ m ih=>
  intro j hj
  have hlt:j<aj.length:=by omega
  refine Ev.succ ?_
  simp only [aC.l4,qa hlt,eD (show j<=9223372036854775806 by omega)]
  refine Ev.pos (by omega) (Ev.pos (by omega) (Ev.pos (by omega) (Ev.bind (Tj _ _ (hr i)) ?_)))
  have ih:=ih (j+1) (by omega)
  rw [yt] at ih
  have hp:je aj af i j=decide (aj[j]∈af.getD i []):=by unfold je dM;rw [AR hlt]
  have hpl:=AL (je aj af i) j
  by_cases h:aj[j]∈af.getD i []
  ·rw [hp,if_pos (decide_eq_true h)] at ih
   refine Ev.pos (decide_eq_true h) (Ev.pos (by omega) ih)
  ·rw [hp,if_neg (by rw [decide_eq_false h];decide)] at ih
   simp only [List.append_nil] at ih
   refine Ev.neg (by rw [decide_eq_false h];decide) ih
theorem b1x (R:yB) (hend:Ev (fun k=>aC.l5 k aj af (mB (dM aj af) af.length aj.length false (fun _=>true)) (((List.range af.length).filter (kA aj af)).map (lZ (je aj af) aj.length true)) (aj.length:Int) (0:Int)) R):
 ∀m i,i+m=af.length->Ev (fun k=>aC.l3 k aj af ((List.range aj.length).map (lZ (dM aj af) af.length false)++(List.range i).map rG) (((List.range i).filter (kA aj af)).map (lZ (je aj af) aj.length true)) af (af.length:Int) (i:Int)) R:=by
 intro m
 induction m with
 |zero=>
  intro i hi
  have e:i=af.length:=by omega
  subst e
  refine Ev.succ ?_
  simp only [aC.l3]
  refine Ev.neg (by omega) ?_
  have e:mB (dM aj af) af.length aj.length false (fun _=>true)=(List.range aj.length).map (lZ (dM aj af) af.length false)++(List.range af.length).map rG:=by
   unfold mB
   rw [List.filter_eq_self.2 (fun _ _=>rfl)]
  rw [e] at hend
  exact hend
 |succ m ih=>
  intro i hi
  have hlt:i<af.length:=by omega
  refine Ev.succ ?_
  simp only [aC.l3,Gj hlt]
  have hl2:=List.length_filter_le (kA aj af) (List.range i)
  rw [List.length_range] at hl2
  refine Ev.pos (by omega) (Ev.pos (by omega) (Ev.pos (by omega) (Ev.pos (by simp only [List.length_append,List.length_map,List.length_range];omega) ?_)))
  refine b1w hnb hne hr _ _ i R (by rw [List.length_map];omega) hlt (fun a2w e=>?_) aj.length 0 (by omega)
  subst e
  have ih:=ih (i+1) (by omega)
  have e1:(List.range (i+1)).map rG=(List.range i).map rG++[rG i]:=by rw [List.range_succ,List.map_append,List.map_singleton]
  have e2:((List.range (i+1)).filter (kA aj af)).map (lZ (je aj af) aj.length true)=((List.range i).filter (kA aj af)).map (lZ (je aj af) aj.length true)++(if kA aj af i=true then [lZ (je aj af) aj.length true i] else []):=by
   rw [List.range_succ,List.filter_append,List.map_append]
   congr 1
   cases h:kA aj af i<;>simp [List.filter_cons,h]
  rw [e1,e2,<-List.append_assoc] at ih
  exact ih
theorem b1y (R:yB) (x8:List cC) (hend:Ev (fun k=>aC.l5 k aj af x8 (mB (je aj af) aj.length af.length true (kA aj af)) (aj.length:Int) (aj.length:Int)) R):
 ∀m i,i+m=aj.length->Ev (fun k=>aC.l5 k aj af x8 (((List.range af.length).filter (kA aj af)).map (lZ (je aj af) aj.length true)++(List.range i).map rG) (aj.length:Int) (i:Int)) R:=by
 intro m
 induction m with
 |zero=>
  intro i hi
  have e:i=aj.length:=by omega
  subst e
  exact hend
 |succ m ih=>
  intro i hi
  refine Ev.succ ?_
  simp only [aC.l5,eD (show i<=9223372036854775806 by omega)]
  have hl2:=List.length_filter_le (kA aj af) (List.range af.length)
  rw [List.length_range] at hl2
  refine Ev.pos (by omega) (Ev.pos (by simp only [List.length_append,List.length_map,List.length_range];omega) ?_)
  have ih:=ih (i+1) (by omega)
  have e1:(List.range (i+1)).map rG=(List.range i).map rG++[rG i]:=by rw [List.range_succ,List.map_append,List.map_singleton]
  rw [e1,<-List.append_assoc] at ih
  exact ih
theorem b1z (x8:List cC) (i:Nat) (R:yB) (hx8:x8.length<=100) (hi:i<aj.length)
 (hend:(places (dM aj af i) af.length).isEmpty=false->Ev (fun k=>aC.l1 k aj af (x8++[lZ (dM aj af) af.length false i]) aj (aj.length:Int) ((i+1:Nat):Int)) R):
 ∀m j,j+m=af.length->Ev (fun k=>aC.l2 k aj af x8 (aj.getD i 0) aj (aj.length:Int) (i:Int) af (af.length:Int) (j:Int) (places (dM aj af i) j) false 1) (if (places (dM aj af i) af.length).isEmpty=true then qB else R):=by
 intro m
 induction m with
 |zero=>
  intro j hj
  have e:j=af.length:=by omega
  subst e
  refine Ev.succ ?_
  simp only [aC.l2,eD (show i<=9223372036854775806 by omega)]
  refine Ev.neg (by omega) ?_
  cases h:places (dM aj af i) af.length with
  |nil=>
   refine Ev.pos (by simp) ?_
   rw [if_pos (show ([]:List Int).isEmpty=true from rfl)];exact Ev.now _
  |cons a l=>
   rw [if_neg (show ¬(a::l).isEmpty=true by simp),<-h]
   refine Ev.neg (by rw [h];simp only [List.length_cons];omega) (Ev.pos (by omega) ?_)
   exact hend (by rw [h];rfl)
 |succ m ih=>
  intro j hj
  have hlt:j<af.length:=by omega
  refine Ev.succ ?_
  simp only [aC.l2,Gj hlt,eD (show j<=9223372036854775806 by omega)]
  refine Ev.pos (by omega) (Ev.pos (by omega) (Ev.pos (by omega) (Ev.bind (Tj _ _ (hr j)) ?_)))
  have ih:=ih (j+1) (by omega)
  rw [yt] at ih
  have hp:dM aj af i j=decide (aj.getD i 0∈af.getD j []):=rfl
  have hpl:=AL (dM aj af i) j
  by_cases h:aj.getD i 0∈af.getD j []
  ·rw [hp,if_pos (decide_eq_true h)] at ih
   refine Ev.pos (decide_eq_true h) (Ev.pos (by omega) ih)
  ·rw [hp,if_neg (by rw [decide_eq_false h];decide)] at ih
   simp only [List.append_nil] at ih
   refine Ev.neg (by rw [decide_eq_false h];decide) ih
def rJ (aj:List Int) (af:List (List Int)) (i m:Nat):Bool:=(List.range m).all (fun k=> !(places (dM aj af (i+k)) af.length).isEmpty)
omit hnb hne hr in
theorem Zl (i m:Nat):rJ aj af i (m+1)=(!(places (dM aj af i) af.length).isEmpty&&rJ aj af (i+1) m):=by
 unfold rJ
 rw [List.range_succ_eq_map,List.all_cons,List.all_map]
 congr 2
 funext k
 show _= !(places (dM aj af (i+1+k)) af.length).isEmpty
 have:i+1+k=i+(k+1):=by omega
 rw [this];rfl
theorem b1A (R:yB) (hend:rJ aj af 0 aj.length=true->Ev (fun k=>aC.l3 k aj af ((List.range aj.length).map (lZ (dM aj af) af.length false)) [] af (af.length:Int) 0) R):
 ∀m i,i+m=aj.length->(rJ aj af 0 aj.length=rJ aj af i m)->Ev (fun k=>aC.l1 k aj af ((List.range i).map (lZ (dM aj af) af.length false)) aj (aj.length:Int) (i:Int)) (if rJ aj af i m=true then R else qB):=by
 intro m
 induction m with
 |zero=>
  intro i hi hc
  have e:i=aj.length:=by omega
  subst e
  refine Ev.succ ?_
  simp only [aC.l1]
  refine Ev.neg (by omega) ?_
  have h1:rJ aj af aj.length 0=true:=rfl
  rw [if_pos h1]
  exact hend (hc.trans h1)
 |succ m ih=>
  intro i hi hc
  have hlt:i<aj.length:=by omega
  refine Ev.succ ?_
  simp only [aC.l1,qa hlt]
  refine Ev.pos (by omega) (Ev.pos (by omega) (Ev.pos (by omega) ?_))
  rw [Zl] at hc⊢
  have key:=b1z hnb hne hr ((List.range i).map (lZ (dM aj af) af.length false)) i (if rJ aj af (i+1) m=true then R else qB) (by rw [List.length_map,List.length_range];omega) hlt (fun h0=>by
   have hc2:rJ aj af 0 aj.length=rJ aj af (i+1) m:=by rw [hc,h0];simp
   have ih:=ih (i+1) (by omega) hc2
   have e1:(List.range (i+1)).map (lZ (dM aj af) af.length false)=(List.range i).map (lZ (dM aj af) af.length false)++[lZ (dM aj af) af.length false i]:=by rw [List.range_succ,List.map_append,List.map_singleton]
   rw [e1] at ih
   exact ih) af.length 0 (by omega)
  rw [AR hlt]
  refine Ev.to key ?_
  cases (places (dM aj af i) af.length).isEmpty<;>simp
end
theorem a2x (aj:List Int) (af:List (List Int)) (hne:af.length<=1048576) (hr:∀x,x∈af->x.length<=1048576) (R:yB) (H:Prop) (hend:H->af.all (jY (-1))=true->Ev (fun k=>aC.l1 k aj af [] aj (aj.length:Int) 0) R):
 ∀m i b,i+m=af.length->(b=true->H/\(af.take i).all (jY (-1))=true)->Ev (fun k=>aC.l0 k aj af b af (af.length:Int) (i:Int)) (if b&&(af.drop i).all (jY (-1)) then R else qB):=by
 intro m
 induction m with
 |zero=>
  intro i b hi hb
  have e:i=af.length:=by omega
  subst e
  refine Ev.succ ?_
  simp only [aC.l0]
  refine Ev.neg (by omega) ?_
  rw [List.drop_length]
  cases b with
  |true=>
   refine Ev.pos rfl ?_
   have:=hb rfl
   rw [List.take_length] at this
   simpa using hend this.1 this.2
  |false=>exact Ev.neg (by decide) (Ev.to (Ev.now qB) rfl)
 |succ m ih=>
  intro i b hi hb
  have hlt:i<af.length:=by omega
  refine Ev.succ ?_
  have hge:af.getD i []=af[i]:=by simp [List.getD_eq_getElem?_getD,hlt]
  simp only [aC.l0,Gj hlt,hge,eD (show i<=9223372036854775806 by omega)]
  refine Ev.pos (by omega) (Ev.pos (by omega) (Ev.pos (by omega) ?_))
  have hd:af.drop i=af[i]::af.drop (i+1):=List.drop_eq_getElem_cons hlt
  cases b with
  |true=>
   refine Ev.pos rfl (Ev.bind (Hu _ (by have:=hr _ (List.getElem_mem hlt);omega)) ?_)
   refine Ev.to (ih (i+1) (jY (-1) af[i]) (by omega) (fun h=>?_)) ?_
   ·refine ⟨(hb rfl).1,?_⟩
    rw [List.take_succ_eq_append_getElem hlt,List.all_append,(hb rfl).2];simp [h]
   ·rw [hd,List.all_cons,Bool.true_and]
  |false=>
   refine Ev.neg (by decide) ?_
   refine Ev.to (ih (i+1) false (by omega) (fun h=>absurd h (by decide))) ?_
   simp
theorem VU (aj:List Int) (af:List (List Int)) (hb0:aj.length<=1048576) (TG:af.length<=1048576) (hr:∀x,x∈af->x.length<=1048576) (R:yB)
 (hend:nx aj af=true->Ev (fun k=>aC.l1 k aj af [] aj (aj.length:Int) 0) R):
 Ev (fun k=>aC.f k aj af) (if nx aj af=true then R else qB):=by
 unfold aC.f
 refine Ev.bind (Hu aj (by omega)) ?_
 have h0:∀b:Bool,(b=true->jY (-1) aj=true/\af.length<=7)->Ev (fun k=>aC.j0 k aj af b) (if b&&af.all (jY (-1)) then R else qB):=by
  intro b hb
  refine Ev.succ ?_
  simp only [aC.j0]
  have:=a2x aj af TG hr R (b=true) (fun h1 h2=>by
   have:=hb h1
   exact hend (by unfold nx;rw [this.1,h2,decide_eq_true this.2];rfl)) af.length 0 b (by omega) (fun h=>⟨h,rfl⟩)
  rw [List.drop_zero] at this
  exact this
 unfold nx
 cases hs:jY (-1) aj with
 |true=>
  refine Ev.pos rfl (Ev.to (h0 _ (fun h=>⟨hs,by have:=of_decide_eq_true h;omega⟩)) ?_)
  have e:decide ((af.length:Int)<=7)=decide (af.length<=7):=by
   by_cases h:af.length<=7
   ·rw [decide_eq_true h,decide_eq_true (by omega)]
   ·rw [decide_eq_false h,decide_eq_false (by omega)]
  rw [e];simp
 |false=>
  refine Ev.neg (by decide) (Ev.to (h0 false (fun h=>absurd h (by decide))) ?_)
  simp
def qC (aj:List Int) (af:List (List Int)) (T1 T2:bw):yB:=(true,(S af.length (xC aj af T1)).num,((S af.length (xC aj af T1)).den:Int),LQ af.length (xC aj af T1),LQ aj.length (xP aj af T2))
section
variable {aj:List Int} {af:List (List Int)}
theorem QU:rJ aj af 0 aj.length=nU aj af:=by
 rw [Bool.eq_iff_iff]
 constructor
 ·intro h
  unfold rJ at h
  unfold nU
  rw [List.all_eq_true] at h⊢
  intro v hv
  obtain ⟨i,hi,rfl⟩:=List.getElem_of_mem hv
  obtain ⟨j,hj,hp⟩:=MV.1 (h i (List.mem_range.2 hi))
  rw [List.any_eq_true]
  have e:af.getD j []=af[j]:=by simp [List.getD_eq_getElem?_getD,hj]
  unfold dM at hp
  rw [Nat.zero_add,<-AR hi,e] at hp
  exact ⟨af[j],List.getElem_mem hj,hp⟩
 ·intro h
  unfold rJ
  rw [List.all_eq_true]
  intro i hi
  rw [Nat.zero_add]
  exact MV.2 (IV h (List.mem_range.1 hi))
variable (hnb:aj.length<=6) (hne:af.length<=7)
include hnb hne
theorem Zm {T1 T2 T1' T2':bw} (h1:AW aj af T1) (h2:AX aj af T2) (h1':AW aj af T1') (h2':AX aj af T2'):qC aj af T1 T2=qC aj af T1' T2':=by
 have e1:=(VF hnb hne h1).symm.trans (VF hnb hne h1')
 have e2:=(VG hnb hne h2).symm.trans (VG hnb hne h2')
 have e3:S af.length (xC aj af T1)=S af.length (xC aj af T1'):=pU (Zb e1)
 unfold qC
 rw [e1,e2,e3]
theorem b1C {T1 T2:bw} (hb:nU aj af=true) (h1:AW aj af T1) (h2:AX aj af T2):
 Ev (fun k=>aC.l5 k aj af (mB (dM aj af) af.length aj.length false (fun _=>true)) (mB (je aj af) aj.length af.length true (kA aj af)) (aj.length:Int) (aj.length:Int)) (qC aj af T1 T2):=by
 refine Ev.succ ?_
 simp only [aC.l5]
 refine Ev.neg (by omega) ?_
 by_cases hz:aj.length=0
 ·refine Ev.pos (by omega) (Ev.bind (PB af.length (by omega)) (Ev.to (Ev.now _) ?_))
  have hX:∀j,xC aj af T1 j=0:=fun j=>by unfold xC bw.X;rw [hz];rfl
  have hS:S af.length (xC aj af T1)=0:=ig (fun j _=>hX j)
  have hL:LQ af.length (xC aj af T1)=List.replicate af.length ⟨0,1⟩:=by
   unfold LQ
   rw [List.eq_replicate_iff]
   refine ⟨by simp,fun b hb=>?_⟩
   obtain ⟨j,_,rfl⟩:=List.mem_map.1 hb
   rw [hX j];rfl
  unfold qC
  rw [hS,hL,hz];rfl
 ·have hb0:0<aj.length:=Nat.pos_of_ne_zero hz
  have hn0:0<af.length:=by obtain ⟨j,hj,_⟩:=IV hb hb0;omega
  obtain ⟨x,ex,lx⟩:=Tl hnb hne hn0 (VF hnb hne h1)
  obtain ⟨y,ey,ly⟩:=Tl hnb hne hb0 (VG hnb hne h2)
  have okC:=Lf (P:=dM aj af) (m:=aj.length) (up:=false) (inc:=fun _=>true) hne
  have okP:=Lf (P:=je aj af) (m:=af.length) (up:=true) (inc:=kA aj af) (n:=aj.length) (by omega)
  have lC:=Qc (P:=dM aj af) (n:=af.length) (m:=aj.length) (up:=false) (inc:=fun _=>true)
  have lP:=Qc (P:=je aj af) (n:=aj.length) (m:=af.length) (up:=true) (inc:=kA aj af)
  have cx:Cm af.length x:=DU okC hne _ [] none (Nat.le_refl _) rfl (fun _ h=>by cases h) x ex
  have e3:S af.length x=S af.length (xC aj af T1):=pU (Zb lx)
  refine Ev.neg (by omega) (Ev.bind (MW hn0 hne (by omega) okC ex) (Ev.bind (MW hb0 (by omega) (by omega) okP ey) (Ev.bind (PY hne cx).1 (Ev.to (Ev.now _) ?_))))
  unfold qC
  rw [lx,ly,e3]
end
theorem QV {aj:List Int} {af:List (List Int)} (hb0:aj.length<=1048576) (TG:af.length<=1048576) (hr:∀x,x∈af->x.length<=1048576) (R:yB)
 (hend:nx aj af=true->nU aj af=true->∃T1 T2,AW aj af T1/\AX aj af T2/\qC aj af T1 T2=R):
 Ev (fun k=>aC.f k aj af) (if (nx aj af&&nU aj af)=true then R else qB):=by
 have hrd:∀j,(af.getD j []).length<=1048576:=fun j=>by
  by_cases hj:j<af.length
  ·have:af.getD j []=af[j]:=by simp [List.getD_eq_getElem?_getD,hj]
   rw [this];exact hr _ (List.getElem_mem hj)
  ·have:af.getD j []=[]:=by simp [List.getD_eq_getElem?_getD,hj]
   rw [this];simp
 refine Ev.to (VU aj af hb0 TG hr (if rJ aj af 0 aj.length=true then R else qB) (fun hg=>?_)) ?_
 ·obtain ⟨hnb,hne,_⟩:=AY hg
  refine b1A hnb hne hrd R (fun hc=>?_) aj.length 0 (by omega) rfl
  obtain ⟨T1,T2,h1,h2,rfl⟩:=hend hg (QU.symm.trans hc)
  have key:=b1C hnb hne (QU.symm.trans hc) h1 h2
  have k3:=b1x hnb hne hrd (qC aj af T1 T2) (by
   have k5:=b1y hnb hne hrd (qC aj af T1 T2) (mB (dM aj af) af.length aj.length false (fun _=>true)) key aj.length 0 (by omega)
   simpa using k5) af.length 0 (by omega)
  simpa using k3
 ·rw [QU]
  cases nx aj af<;>cases nU aj af<;>rfl
set_option maxHeartbeats 1600000 in
set_option maxRecDepth 100000 in
theorem QW (A0:Option Addr) (c0:Nat) (aj:List Int) (A1:Option Addr) (c1:Nat) (af:List (List Int)) (w:World) (h0:Kd.C (Kd.int .i64) w A0 aj.length aj) (l0:aj.length<=c0)
 (hb:aj.length<=1048576) (hok:jY (-1) aj=false):
 Calls Try.prog 9 #[.slice A0 aj.length c0,.slice A1 af.length c1] w fun e w'=>e= .returned (.agg kG)/\Below w.heap.size w w':=by
 obtain ⟨k1,wW⟩:=Ev.rounds (Av aj (by omega))
 rw [hok] at wW
 have rT:=Aside0.mk (fun W (hb:Below w.heap.size w W)=>cW.calls k1 A0 c0 aj _ W (Kd.bQ h0 hb) l0 wW)
 have HB:=Aside0.mk (Below.refl w.heap.size w)
 clear h0 wW hok
 go_enter Try.func9,Try.ntmps9
 go_wp2_with (first|(go_at_call 27;(with_reducible refine (rT.out _ (by first|exact aK HB.out _|exact bn (aK HB.out _))).mono ?_);rintro e w1 ⟨rfl,hb1⟩;have dG:=Aside0.mk (ai (aK HB.out (.cells kG 29)) (iV hb1));have gL:Aside0 (w1.heap[w.heap.size]? =some (.cells kG 29 (0,0))):=⟨ah (bW w _) (iV hb1)⟩;have hz0:=(ag gL.out 0).trans rfl;have hz1:=(ag gL.out 1).trans rfl;have hz2:=(ag gL.out 2).trans rfl;have hz3:=(ag gL.out 3).trans rfl;have hz4:=(ag gL.out 4).trans rfl;have hy0:=aa gL.out 0;have hy1:=aa gL.out 1;have EE:=aa gL.out 2;have hy3:=aa gL.out 3;have hy4:=aa gL.out 4;clear hb1))
 have YQ:Aside0 ((((((w1.setCell ⟨w.heap.size,0,none⟩ (.bool false)).setCell ⟨w.heap.size,1,none⟩ (.int .i64 0)).setCell ⟨w.heap.size,2,none⟩ (.int .i64 0)).setCell ⟨w.heap.size,3,none⟩ (.slice none 0 0)).setCell ⟨w.heap.size,4,none⟩ (.slice none 0 0)).heap[w.heap.size]? =some (.cells kG 29 (0,0))):=⟨aX (aX (aX (aX (aX gL.out 0 _ (cs':=kG) rfl) 1 _ (cs':=kG) rfl) 2 _ (cs':=kG) rfl) 3 _ (cs':=kG) rfl) 4 _ (cs':=kG) rfl⟩
 refine bodyPost_ret (results_cell_row rfl _ _ w.heap.size 29 kG (0,0) _ rfl YQ.out Try.underlying29 (by rfl) (by kernel_rfl)) rfl ?_
 exact ⟨rfl,br (br (br (br (br dG.out (Nat.le_refl _)) (Nat.le_refl _)) (Nat.le_refl _)) (Nat.le_refl _)) (Nat.le_refl _)⟩
set_option maxHeartbeats 1600000 in
set_option maxRecDepth 100000 in
theorem QX (A0:Option Addr) (c0:Nat) (aj:List Int) (A1:Option Addr) (c1:Nat) (af:List (List Int)) (w:World) (h0:Kd.C (Kd.int .i64) w A0 aj.length aj) (l0:aj.length<=c0) (h1:Kd.C BA w A1 af.length af) (l1:af.length<=c1)
 (hb:aj.length<=1048576) (hr:∀x,x∈af->x.length<=1048576) (hok:jY (-1) aj=true) (Qj:(decide (af.length<=7)&&af.all (jY (-1)))=false):
 Calls Try.prog 9 #[.slice A0 aj.length c0,.slice A1 af.length c1] w fun e w'=>e= .returned (.agg kG)/\Below w.heap.size w w':=by
 obtain ⟨k1,wW⟩:=Ev.rounds (Av aj (by omega))
 rw [hok] at wW
 have rT:=Aside0.mk (fun W (hb:Below w.heap.size w W)=>cW.calls k1 A0 c0 aj _ W (Kd.bQ h0 hb) l0 wW)
 have Bx:=Aside0.mk (fun W (hb:Below w.heap.size w W)=>EN A1 c1 af W (Kd.bQ h1 hb) l1 hr)
 rw [Qj] at Bx
 have HB:=Aside0.mk (Below.refl w.heap.size w)
 clear h0 h1 wW hok Qj
 go_enter Try.func9,Try.ntmps9
 go_wp2_with (first|(go_at_call 27;(with_reducible refine (rT.out _ (aK HB.out _)).mono ?_);rintro e w1 ⟨rfl,hb1⟩;have dG:=Aside0.mk (ai (aK HB.out (.cells kG 29)) (iV hb1));have eV:Aside0 (w1.heap[w.heap.size]? =some (.cells kG 29 (0,0))):=⟨ah (bW w _) (iV hb1)⟩;clear hb1)|(go_at_call 28;(with_reducible refine (Bx.out _ dG.out).mono ?_);rintro e w2 ⟨rfl,hb2⟩;have iw:=Aside0.mk (ai dG.out hb2);have gL:=Aside0.mk (ah eV.out hb2);have hz0:=(ag gL.out 0).trans rfl;have hz1:=(ag gL.out 1).trans rfl;have hz2:=(ag gL.out 2).trans rfl;have hz3:=(ag gL.out 3).trans rfl;have hz4:=(ag gL.out 4).trans rfl;have hy0:=aa gL.out 0;have hy1:=aa gL.out 1;have EE:=aa gL.out 2;have hy3:=aa gL.out 3;have hy4:=aa gL.out 4;clear hb2))
 have YQ:Aside0 ((((((w2.setCell ⟨w.heap.size,0,none⟩ (.bool false)).setCell ⟨w.heap.size,1,none⟩ (.int .i64 0)).setCell ⟨w.heap.size,2,none⟩ (.int .i64 0)).setCell ⟨w.heap.size,3,none⟩ (.slice none 0 0)).setCell ⟨w.heap.size,4,none⟩ (.slice none 0 0)).heap[w.heap.size]? =some (.cells kG 29 (0,0))):=⟨aX (aX (aX (aX (aX gL.out 0 _ (cs':=kG) rfl) 1 _ (cs':=kG) rfl) 2 _ (cs':=kG) rfl) 3 _ (cs':=kG) rfl) 4 _ (cs':=kG) rfl⟩
 refine bodyPost_ret (results_cell_row rfl _ _ w.heap.size 29 kG (0,0) _ rfl YQ.out Try.underlying29 (by rfl) (by kernel_rfl)) rfl ?_
 exact ⟨rfl,br (br (br (br (br iw.out (Nat.le_refl _)) (Nat.le_refl _)) (Nat.le_refl _)) (Nat.le_refl _)) (Nat.le_refl _)⟩
theorem WC {l:List Value} {k:Nat} {a b:Value} (h1:l[k]? =some a) (h2:l[k+1]? =some b):(l.drop k).take 2=[a,b]:=by
 refine List.ext_getElem? (fun i=>?_)
 rw [List.getElem?_take,List.getElem?_drop]
 rcases i with _|_|i
 ·rw [if_pos (by omega),Nat.add_zero,h1];rfl
 ·rw [if_pos (by omega),Nat.zero_add,h2];rfl
 ·rw [if_neg (by omega)];simp
theorem b1D {n j:Nat} (x:Nat->Rat) (h:j<(LQ n x).length):(LQ n x)[j]=q2 (x j):=by
 have h2:(LQ n x)[j]? =some (q2 (x j)):=by
  have hj:j<n:=by rw [jw] at h;exact h
  unfold LQ
  rw [List.getElem?_map,List.getElem?_range hj];rfl
 rw [List.getElem?_eq_getElem h] at h2
 exact Option.some.inj h2
theorem TH {W:World} {g n:Nat} {cs:Array Value} {x:Nat->Rat} (hn:n<=7) (hg:W.heap[g]? =some (.cells cs 26 (0,0))) (hp:uK cs n (fun j=>((x j).num,((x j).den:Int)))):oR W (LQ n x) (some ⟨g,0,none⟩) n n [g]:=by
 refine .inr ⟨g,n,cs,List.replicate n [],by rw [jw],hg,by rw [jw];exact Nat.le_refl _,by unfold maxLen;omega,hp.size,by simp,by simp,by rw [List.length_replicate,jw],fun j h h'=>?_⟩
 have hj:j<n:=by rw [jw] at h;exact h
 refine ⟨?_,by simp⟩
 rw [b1D]
 have e1:=hp.num j hj
 have e2:=hp.den j hj
 rw [<-Array.getElem?_toList] at e1 e2
 exact WC e1 e2
section
variable {aj:List Int} {af:List (List Int)}
theorem Na (hg:nx aj af=true) (hc:nU aj af=true) {A0:Option Addr} {c0:Nat} {A1:Option Addr} {c1:Nat} {W:World} (h0:oY W aj A0 c0) (h1:lX W af A1 c1):
 Calls Try.prog 9 #[.slice A0 aj.length c0,.slice A1 af.length c1] W fun e w'=>∃T1 T2,AW aj af T1/\AX aj af T2/\nM W (qC aj af T1 T2) e w':=by
 obtain ⟨hnb,hne,hrl⟩:=AY hg
 have hg2:=hg
 unfold nx at hg2
 simp only [Bool.and_eq_true,decide_eq_true_eq] at hg2
 refine (CI A0 c0 aj A1 c1 af W h0.2 h0.1 h1.2 h1.1 hnb hne (fun x hx=>by have:=hrl x hx;omega) hg2.1.1 hg2.2 (AW aj af) (AX aj af) ?_ ?_ ?_ ?_).mono ?_
 ·intro _ cs W2 hR
  refine (Ns 240 1680 (2^(af.length+aj.length)) aj.length (af.length+aj.length) (af.length+1) (a1U aj af) (vv af.length aj.length (AU aj af)) cs W2 hR (by decide) (a1q DY hnb) (fun T h r hr hneg=>a1r DY (a6Y hc) h hr hneg)).mono ?_
  rintro e w' ⟨cs',T,rfl,hR',hI,hp,hB⟩
  exact ⟨cs',T,rfl,hR',⟨hI,hp⟩,hB⟩
 ·intro _ cs W2 hR
  refine (Vs 720 720 (2^(aj.length+af.length)) af.length (aj.length+af.length) (aj.length+1) (Vu aj af) (yo aj.length af.length (AV aj af)) cs W2 hR (a1t DZ (Ea hc) hnb) (fun T h r hr=>h.FH r hr) (fun T h c hc' hneg=>a6H DZ (Ea hc) h hc' hneg)).mono ?_
  rintro e w' ⟨cs',T,rfl,hR',hI,hp,hB⟩
  exact ⟨cs',T,rfl,hR',⟨hI,hp⟩,hB⟩
 ·intro T hT
  have hf:=FR DY hnb hT.1
  exact ⟨fun r hr=>by have:=hT.1.lt r hr;omega,SE hf,a4h hf (by omega)⟩
 ·intro T hT
  have hf:=FT DZ (Ea hc) hnb hT.1
  exact ⟨fun r hr=>by have:=hT.1.lt r hr;omega,SE hf,a4h hf hne⟩
 ·rintro e w' (⟨_,hG⟩|⟨hn,_⟩)
  ·obtain ⟨g1,cs1,g2,iB,T1,T2,rfl,Jn,Jo,hg1,Yl,b9a,hp2,b4K,Bw,hl2,hB⟩:=hG
   refine ⟨T1,T2,Jn,Jo,some ⟨g1,0,none⟩,af.length,some ⟨g2,0,none⟩,aj.length,[g1]++[g2],?_,?_,?_,Tr.wE hB⟩
   ·unfold qC
    rw [b7V af.length]
    simp only [jw]
    rfl
   ·have o1:oR w' (LQ af.length (xC aj af T1)) (some ⟨g1,0,none⟩) af.length af.length [g1]:=TH hne hg1 (Yl.congr (fun j _=>by
     unfold xC;rw [a9O Jn.1.toValid j]))
    have o2:oR w' (LQ aj.length (xP aj af T2)) (some ⟨g2,0,none⟩) aj.length aj.length [g2]:=TH (by omega) b9a (hp2.congr (fun j _=>by
     unfold xP;rw [a9O Jo.1.toValid j]))
    have key:=oV.mk (x:=qC aj af T1 T2) o1 o2 (fun b hb hb'=>b4K (by rw [<-List.mem_singleton.1 hb,<-List.mem_singleton.1 hb']))
    have e1:(qC aj af T1 T2).2.2.2.1.length=af.length:=jw _ _
    have e2:(qC aj af T1 T2).2.2.2.2.length=aj.length:=jw _ _
    rw [e1,e2]
    exact key
   ·intro b hb
    rcases List.mem_append.1 hb with hb|hb
    ·rw [List.mem_singleton.1 hb];exact Bw
    ·rw [List.mem_singleton.1 hb];exact hl2
  ·rw [hc] at hn;exact absurd hn (by decide)
theorem CU {W w':World} (hB:Below W.heap.size W w'):nM W qB (.returned (.agg kG)) w':=
 ⟨none,0,none,0,[],rfl,oV.mk (x:=qB) (b3:=[]) (b4:=[]) (.inl ⟨rfl,rfl,rfl⟩) (.inl ⟨rfl,rfl,rfl⟩) (fun b hb=>by cases hb),fun b hb=>(by cases hb),Tr.wE hB⟩
theorem Zn (hb0:aj.length<=1048576) (hr:∀x,x∈af->x.length<=1048576) (hz:(nx aj af&&nU aj af)=false) {A0:Option Addr} {c0:Nat} {A1:Option Addr} {c1:Nat} {W:World} (h0:oY W aj A0 c0) (h1:lX W af A1 c1):
 Calls Try.prog 9 #[.slice A0 aj.length c0,.slice A1 af.length c1] W (nM W qB):=by
 by_cases ha:jY (-1) aj=true
 ·by_cases hs:(decide (af.length<=7)&&af.all (jY (-1)))=true
  ·have hg:nx aj af=true:=by
    unfold nx;rw [ha,Bool.true_and];exact hs
   rw [hg,Bool.true_and] at hz
   obtain ⟨hnb,hne,hrl⟩:=AY hg
   simp only [Bool.and_eq_true,decide_eq_true_eq] at hs
   refine (CI A0 c0 aj A1 c1 af W h0.2 h0.1 h1.2 h1.1 hnb hne (fun x hx=>by have:=hrl x hx;omega) ha hs.2 (fun _=>False) (fun _=>False) (fun h=>absurd h (by rw [hz];decide)) (fun h=>absurd h (by rw [hz];decide)) (fun _ h=>h.elim) (fun _ h=>h.elim)).mono ?_
   rintro e w' (⟨hn,_⟩|⟨_,rfl,hB⟩)
   ·rw [hz] at hn;exact absurd hn (by decide)
   ·exact CU hB
  ·refine (QX A0 c0 aj A1 c1 af W h0.2 h0.1 h1.2 h1.1 hb0 hr ha (Bool.eq_false_iff.2 hs)).mono ?_
   rintro e w' ⟨rfl,hB⟩
   exact CU hB
 ·refine (QW A0 c0 aj A1 c1 af W h0.2 h0.1 hb0 (Bool.eq_false_iff.2 ha)).mono ?_
  rintro e w' ⟨rfl,hB⟩
  exact CU hB
end
end Go.Proofs.Ytnhknojfpjheoaa.PT
namespace Go.Proofs.Ytnhknojfpjheoaa.PT
open Go.RowKit Go.Proofs.Ytnhknojfpjheoaa.P Go.Proofs.Ytnhknojfpjheoaa.EvKit Go.Proofs.Ytnhknojfpjheoaa.Num Go.Proofs.Ytnhknojfpjheoaa.Lp
set_option linter.all false
theorem b1F {n:Nat} {f g:Nat->Rat} (h:∀j,j<n->f j<=g j):S n f<=S n g:=by
 have h1:=ot (n:=n) (f:=fun j=>g j - f j) (fun j hj=>by have:=h j hj;grind)
 rw [UB] at h1;grind
section
variable {n m:Nat} {A:Nat->Nat->Rat} {T:bw}
theorem TI (h:vv n m A T) {j:Nat} (hj:j<n+m):0<=T.cell m j:=by
 by_cases hn:T.cell m j<0
 ·exact absurd ⟨0,by omega,fun i hi=>by omega,hn⟩ (h.Pa j hj)
 ·grind
theorem a2y (h:vv n m A T):S m (fun i=>T.cell m (n+i))=S n (T.X m (n+m)):=by
 have hz:∀i,i<m->(ym n m A).F (n+m) 1 (fun j=>if j<n then (0:Rat) else -1) i=0:=fun i hi=>by
  rw [ou 1 _ hi,ig (fun j hj=>by rw [if_pos hj];grind),if_neg (by omega),Cs];grind
 have h1:=h.cost 1 _ ((h.sN 1 _).1 hz) 0 (by omega)
 rw [AB,ig (fun j hj=>if_pos hj)] at h1
 unfold bw.F at h1
 rw [zn,ig (f:=fun j=>T.cell (m+0) j*(if j<n then (0:Rat) else -1)) (fun j hj=>by rw [if_pos hj];grind)] at h1
 have e1:S m (fun i=>T.cell (m+0) (n+i)*(if n+i<n then (0:Rat) else -1))= -1*S m (fun i=>T.cell m (n+i)):=by
  rw [<-nv]
  exact pU (fun i hi=>by rw [if_neg (by omega),Nat.add_zero];grind)
 rw [e1] at h1
 have h2:=h.cost 1 _ (fun i hi=>h.toValid.Mb hi) 0 (by omega)
 rw [AB,h.toValid.FD (by omega)] at h2
 have o:=vT
 rw [o] at h1 h2
 grind
theorem a2z (h:vv n m A T) {j0:Nat} (hj0:j0<n):S m (fun i=> -(A i j0)*T.cell m (n+i))<=1:=by
 have hz:∀i,i<m->(ym n m A).F (n+m) 0 (fun c=>if c<n then (if c=j0 then (1:Rat) else 0) else -(A (c - n) j0)) i=0:=fun i hi=>by
  rw [ou 0 _ hi,if_neg (by omega)]
  have e:n+i - n=i:=by omega
  have e1:S n (fun j=>A i j*(if j<n then (if j=j0 then (1:Rat) else 0) else -(A (j - n) j0)))=A i j0:=by
   have:S n (fun j=>A i j*(if j<n then (if j=j0 then (1:Rat) else 0) else -(A (j - n) j0)))=S n (fun j=>if j=j0 then A i j else 0):=pU (fun j hj=>by
    rw [if_pos hj];split<;>grind)
   rw [this,fF hj0]
  rw [e1,e];grind
 have h1:=h.cost 0 _ ((h.sN 0 _).1 hz) 0 (by omega)
 rw [AB] at h1
 have e2:S n (fun c=>if c<n then (if c=j0 then (1:Rat) else 0) else -(A (c - n) j0))=1:=by
  have:S n (fun c=>if c<n then (if c=j0 then (1:Rat) else 0) else -(A (c - n) j0))=S n (fun j=>if j=j0 then (1:Rat) else 0):=pU (fun j hj=>if_pos hj)
  rw [this,fF hj0 (fun _=>(1:Rat))]
 rw [e2] at h1
 unfold bw.F at h1
 rw [zn] at h1
 have e3:S n (fun j=>T.cell (m+0) j*(if j<n then (if j=j0 then (1:Rat) else 0) else -(A (j - n) j0)))=T.cell m j0:=by
  have:S n (fun j=>T.cell (m+0) j*(if j<n then (if j=j0 then (1:Rat) else 0) else -(A (j - n) j0)))=S n (fun j=>if j=j0 then T.cell m j else 0):=pU (fun j hj=>by
   rw [if_pos hj,Nat.add_zero];split<;>grind)
  rw [this,fF hj0]
 have e4:S m (fun i=>T.cell (m+0) (n+i)*(if n+i<n then (if n+i=j0 then (1:Rat) else 0) else -(A (n+i - n) j0)))=S m (fun i=> -(A i j0)*T.cell m (n+i)):=pU (fun i hi=>by
  have e:n+i - n=i:=by omega
  rw [if_neg (by omega),e,Nat.add_zero];grind)
 rw [e3,e4] at h1
 have:=TI h (show j0<n+m by omega)
 have o:=vT
 rw [o] at h1
 grind
end
structure a4X (P:Nat->Nat->Bool) (n b:Nat) (x:Nat->Rat):Prop where
 nn:∀j,j<n->0<=x j
 row:∀i,i<b->1<=S n (fun j=>if P i j=true then x j else 0)
structure a4Y (P:Nat->Nat->Bool) (n b:Nat) (y:Nat->Rat):Prop where
 nn:∀i,i<b->0<=y i
 row:∀j,j<n->S b (fun i=>if P i j=true then y i else 0)<=1
theorem a7x {P:Nat->Nat->Bool} {n b:Nat} {x y:Nat->Rat} (hx:a4X P n b x) (hy:a4Y P n b y):S b y<=S n x:=by
 have h1:S b y<=S b (fun i=>S n (fun j=>if P i j=true then x j*y i else 0)):=b1F (fun i hi=>by
  have e:S n (fun j=>if P i j=true then x j*y i else 0)=y i*S n (fun j=>if P i j=true then x j else 0):=by
   rw [<-nv];exact pU (fun j hj=>by split<;>grind)
  rw [e]
  have:=Rat.mul_le_mul_of_nonneg_left (hx.row i hi) (hy.nn i hi)
  grind)
 rw [BU] at h1
 have h2:S n (fun j=>S b (fun i=>if P i j=true then x j*y i else 0))<=S n x:=b1F (fun j hj=>by
  have e:S b (fun i=>if P i j=true then x j*y i else 0)=x j*S b (fun i=>if P i j=true then y i else 0):=by
   rw [<-nv];exact pU (fun i hi=>by split<;>grind)
  rw [e]
  have:=Rat.mul_le_mul_of_nonneg_left (hy.row j hj) (hx.nn j hj)
  grind)
 exact Rat.le_trans h1 h2
section
variable {aj:List Int} {af:List (List Int)} {T1 T2:bw}
theorem TJ (h:AW aj af T1):a4X (dM aj af) af.length aj.length (xC aj af T1):=by
 have hf:=(PS h.1 h.2).1
 refine ⟨hf.1,fun i hi=>?_⟩
 have h1:=hf.2 i hi
 have h2:=wB (b0V (aj:=aj) (af:=af)) (xC aj af T1) hi
 have e:zI false= -1:=rfl
 rw [e] at h2
 have o:=Cs
 rw [o] at h1
 unfold xC at h2⊢
 grind
theorem TK (h:AX aj af T2):a4Y (dM aj af) af.length aj.length (xP aj af T2):=by
 have hf:=(FU h.1 h.2).1
 refine ⟨hf.1,fun j hj=>?_⟩
 have h1:=hf.2 j hj
 have h2:=wB (b0W (aj:=aj) (af:=af)) (xP aj af T2) hj
 have e:zI true=1:=rfl
 rw [e] at h2
 have o:=vT
 rw [o] at h1
 have e2:∀i,(if je aj af j i=true then xP aj af T2 i else 0)=(if dM aj af i j=true then xP aj af T2 i else 0):=fun _=>rfl
 simp only [e2] at h2
 unfold xP at h2⊢
 grind
theorem b1G (h1:AW aj af T1) (h2:AX aj af T2):S af.length (xC aj af T1)=S aj.length (xP aj af T2):=by
 have hw:=a7x (TJ h1) (TK h2)
 have hb:=(FU h2.1 h2.2).2 (fun i=>T1.cell aj.length (af.length+i)) ⟨fun i hi=>TI h1.1 (by omega),fun j hj=>by
  have:=a2z h1.1 hj
  have e:S aj.length (fun i=>AV aj af j i*T1.cell aj.length (af.length+i))=S aj.length (fun i=> -(AU aj af i j)*T1.cell aj.length (af.length+i)):=pU (fun i hi=>by
   rw [DX hj hi,DW hi hj]
   have e2:(je aj af j i)=dM aj af i j:=rfl
   rw [e2];split<;>grind)
  rw [e,vT];exact this⟩
 have h0:S aj.length (fun i=>T1.cell aj.length (af.length+i))<=S aj.length (xP aj af T2):=by
  by_cases hlt:S aj.length (xP aj af T2)<S aj.length (fun i=>T1.cell aj.length (af.length+i))
  ·exfalso
   refine hb ⟨0,by omega,fun i hi=>by omega,?_⟩
   show fR aj.length ((-1:Int):Rat) (fun i=>T1.cell aj.length (af.length+i)) 0 - fR aj.length ((-1:Int):Rat) (T2.X af.length (aj.length+af.length)) 0<0
   have ob:∀x,fR aj.length ((-1:Int):Rat) x 0=((-1:Int):Rat)*S aj.length x:=fun x=>if_pos rfl
   rw [ob,ob]
   unfold xP at hlt
   have o:=Cs
   rw [o];grind
  ·grind
 rw [a2y h1.1] at h0
 unfold xC at hw⊢
 grind
end
end Go.Proofs.Ytnhknojfpjheoaa.PT
namespace Go.Proofs.Ytnhknojfpjheoaa.P
open Go.RowKit Go.Proofs.YtnhknojfpjheoaaW.PrintWords Go.Proofs.YtnhknojfpjheoaaW.PrintLast Go.Proofs.YtnhknojfpjheoaaW.PrintMore
attribute [local go_sem] max2_int min2_int max_two min_two max_three min_three max_four min_four
set_option linter.all false
def iQ.f (k:Nat) (aH:Int) (aG:Int) (bg:Int) (aV:Int):Option (Int):=(bS.f k aH aG).bind fun LD=>(if LD=true then ((bS.f k bg aV).bind fun yC=>(if yC=true then (some (mn (mx (wrap64 ((wrap64 (aH*aV))-(wrap64 (bg*aG)))) (-1)) 1)) else (some (-2)))) else (some (-2)))
theorem iQ.mono:∀a0 a1 a2 a3 k,aW (iQ.f k a0 a1 a2 a3) (iQ.f (k+1) a0 a1 a2 a3):=by
 intro a0 a1 a2 a3 k
 unfold iQ.f
 repeat' first
  |(with_reducible exact bS.mono _ _ _)
  |(with_reducible exact aW.refl _)
  |(with_reducible exact aW.none _)
  |(with_reducible refine aW.ite ?_ ?_)
  |(with_reducible refine aW.bind ?_ (fun _=>?_))
set_option maxHeartbeats 8000000 in
set_option maxRecDepth 100000 in
theorem iQ.calls (k:Nat) (aH:Int) (aG:Int) (bg:Int) (aV:Int) (r:Int) (w:World) (h:iQ.f k aH aG bg aV=some r):
 Calls Try.prog 19 #[.agg #[.int .i64 aH,.int .i64 aG],.agg #[.int .i64 bg,.int .i64 aV]] w fun e w'=>e= .returned (.int .i64 r)/\Below w.heap.size w w':=by
 have lY:=Try.underlying26
 have HB:=Aside0.mk (Below.refl w.heap.size w)
 have H:((bS.f k aH aG).bind fun LD=>(if LD=true then ((bS.f k bg aV).bind fun yC=>(if yC=true then (some (mn (mx (wrap64 ((wrap64 (aH*aV))-(wrap64 (bg*aG)))) (-1)) 1)) else (some (-2)))) else (some (-2))))=some r:=h
 clear h
 replace H:=Option.bind_eq_some_iff.mp H
 obtain ⟨LD,iO,H⟩:=H
 replace H:(if LD=true then ((bS.f k bg aV).bind fun yC=>(if yC=true then (some (mn (mx (wrap64 ((wrap64 (aH*aV))-(wrap64 (bg*aG)))) (-1)) 1)) else (some (-2)))) else (some (-2)))=some r:=H
 have A3:=Aside0.mk iO
 clear iO
 by_cases c4:LD=true
 ·subst c4
  have H1:((bS.f k bg aV).bind fun yC=>(if yC=true then (some (mn (mx (wrap64 ((wrap64 (aH*aV))-(wrap64 (bg*aG)))) (-1)) 1)) else (some (-2))))=some r:=by rw [if_pos rfl] at H;exact H
  clear H
  have H:=H1
  clear H1
  replace H:=Option.bind_eq_some_iff.mp H
  obtain ⟨yC,xM,H⟩:=H
  replace H:(if yC=true then (some (mn (mx (wrap64 ((wrap64 (aH*aV))-(wrap64 (bg*aG)))) (-1)) 1)) else (some (-2)))=some r:=H
  have A5:=Aside0.mk xM
  clear xM
  by_cases c6:yC=true
  ·subst c6
   have H1:(some (mn (mx (wrap64 ((wrap64 (aH*aV))-(wrap64 (bg*aG)))) (-1)) 1))=some r:=by rw [if_pos rfl] at H;exact H
   clear H
   have H:=H1
   clear H1
   obtain ⟨Zo,LF⟩:∃j_:Int,(mx (wrap64 ((wrap64 (aH*aV))-(wrap64 (bg*aG)))) (-1))=j_:=⟨_,rfl⟩
   replace H:(some (mn (Zo) 1))=some r:=by first|(rw [LF] at H;exact H)|(simp only [LF] at H⊢;exact H)
   (try rw [LF] at A3)
   (try rw [LF] at A5)
   have hji7_:(if (wrap64 ((wrap64 (aH*aV))-(wrap64 (bg*aG))))<(-1) then (-1) else (wrap64 ((wrap64 (aH*aV))-(wrap64 (bg*aG)))))=Zo:=LF
   obtain ⟨ji8,LG⟩:∃j_:Int,(mn (Zo) 1)=j_:=⟨_,rfl⟩
   replace H:(some ji8)=some r:=by first|(rw [LG] at H;exact H)|(simp only [LG] at H⊢;exact H)
   (try rw [LG] at A3)
   (try rw [LG] at A5)
   have hji8_:(if 1<(Zo) then 1 else (Zo))=ji8:=LG
   obtain rfl:=Option.some.inj H
   go_enter Try.func19,Try.ntmps19
   go_wp2_with (first|((with_reducible refine bk (N:=2) rfl ?_);refine bp ?hg (N:=2) ?hd (cs:= #[.int .i64 aH,.int .i64 aG]) (t:=26) ?hr ?_;(case hd=>rfl);(case hg=>rfl);(case hr=>first|(go_simp;done)|(go_simp;rfl));intro fQ hg w9 aU hb;have ay:=Aside0.mk (ai ax hb);have aA:=Aside0.mk (aU);have aD:=Aside0.mk ((by rw [hg];exact (av ax):w.heap.size<=fQ));have aR:=Aside0.mk ((by rw [hg];exact (av ax):w.heap.size<=fQ));clear HB;have HB:=ay;have eB:=aA;have a4Z:=aD;have a5a:=aR;clear ay aA aD aR;clear hb aU hg)|((with_reducible refine bk (N:=3) rfl ?_);refine bp ?hg (N:=3) ?hd (cs:= #[.int .i64 bg,.int .i64 aV]) (t:=26) ?hr ?_;(case hd=>rfl);(case hg=>rfl);(case hr=>first|(go_simp;done)|(go_simp;rfl));intro jb hg lO aU hb;have ay:=Aside0.mk (ah (g:=fQ) (o:= .cells #[.int .i64 aH,.int .i64 aG] 26 (0,0)) (aJ eB) hb);have aA:=Aside0.mk (ai ax hb);have aD:=Aside0.mk (aU);have aR:=Aside0.mk ((by rw [hg];exact (av ax):w.heap.size<=jb));have bK:=Aside0.mk ((by rw [hg];exact (av ax):w.heap.size<=jb));have bT:=Aside0.mk ((by rw [hg];exact Nat.ne_of_lt (aY (g:=fQ) (o:= .cells #[.int .i64 aH,.int .i64 aG] 26 (0,0)) (aJ eB)):fQ≠jb));have cm:=Aside0.mk ((by rw [hg];exact Nat.ne_of_gt (aY (g:=fQ) (o:= .cells #[.int .i64 aH,.int .i64 aG] 26 (0,0)) (aJ eB)):jb≠fQ));clear eB;clear HB;have eB:=ay;have HB:=aA;have ia:=aD;have a5b:=aR;have a5c:=bK;have uS:=bT;have uT:=cm;clear ay aA aD aR bK bT cm;clear hb aU hg;have a3R:=uS.out;have a3S:=uT.out;have a6h:lO.cell? ⟨fQ,0,none⟩=some (.int .i64 aH):=(ag eB.out 0).trans rfl;have a6i:lO.cell? ⟨fQ,1,none⟩=some (.int .i64 aG):=(ag eB.out 1).trans rfl;have a6j:=aa eB.out 0;have a6k:=aa eB.out 1)|((with_reducible refine aZ (f:=46) rfl ?_);refine bO (some 7) rfl rfl Try.func46 (by kernel_rfl) rfl #[.agg #[.int .i64 aH,.int .i64 aG]] rfl (by (try simp only [List.map_toArray,List.map_cons,List.map_nil]);first|done|rfl|(simp only [List.length_drop,List.length_take];rfl)) ?_;(with_reducible refine (bS.calls k aH aG true _ A3.out).mono ?_);rintro e nY ⟨rfl,hb⟩;refine ⟨_,rfl,?_⟩;have ay:=Aside0.mk (ah (g:=fQ) (o:= .cells #[.int .i64 aH,.int .i64 aG] 26 (0,0)) (aJ eB) hb);have aA:=Aside0.mk (ah (g:=jb) (o:= .cells #[.int .i64 bg,.int .i64 aV] 26 (0,0)) (aJ ia) hb);have aD:=Aside0.mk (ai ax hb);clear eB;clear ia;clear HB;have eB:=ay;have ia:=aA;have HB:=aD;clear ay aA aD;(try clear hb);(try clear hb2);(try clear hk);(try clear hi);have JM:nY.cell? ⟨jb,0,none⟩=some (.int .i64 bg):=(ag ia.out 0).trans rfl;have JN:nY.cell? ⟨jb,1,none⟩=some (.int .i64 aV):=(ag ia.out 1).trans rfl;have JO:=aa ia.out 0;have JP:=aa ia.out 1)|(go_at_call 46;(with_reducible refine (bS.calls k bg aV true _ A5.out).mono ?_);rintro e He ⟨rfl,hb⟩;have ay:=Aside0.mk (ah (g:=fQ) (o:= .cells #[.int .i64 aH,.int .i64 aG] 26 (0,0)) (aJ eB) hb);have aA:=Aside0.mk (ah (g:=jb) (o:= .cells #[.int .i64 bg,.int .i64 aV] 26 (0,0)) (aJ ia) hb);have aD:=Aside0.mk (ai ax hb);clear eB;clear ia;clear HB;have eB:=ay;have ia:=aA;have HB:=aD;clear ay aA aD;(try clear hb);(try clear hb2);(try clear hk);(try clear hi);have a6n:He.cell? ⟨fQ,0,none⟩=some (.int .i64 aH):=(ag eB.out 0).trans rfl;have a6o:He.cell? ⟨fQ,1,none⟩=some (.int .i64 aG):=(ag eB.out 1).trans rfl;have a6p:=aa eB.out 0;have a6q:=aa eB.out 1;have Kz:He.cell? ⟨jb,0,none⟩=some (.int .i64 bg):=(ag ia.out 0).trans rfl;have KA:He.cell? ⟨jb,1,none⟩=some (.int .i64 aV):=(ag ia.out 1).trans rfl;have KB:=aa ia.out 0;have KC:=aa ia.out 1))
   go_ret
   exact ⟨by first|rfl|(simp [aM,aQ]<;>rfl)|(simp only [<-LF,<-LG];first|rfl|(simp [aM,aQ]<;>rfl))|(simp [*,aM,aQ]<;>rfl),ax⟩
  ·replace c6:=Bool.eq_false_iff.mpr c6
   subst c6
   have H1:(some (-2))=some r:=by rw [if_neg (show ¬(false=true) by decide)] at H;exact H
   clear H
   have H:=H1
   clear H1
   obtain rfl:=Option.some.inj H
   go_enter Try.func19,Try.ntmps19
   go_wp2_with (first|((with_reducible refine bk (N:=2) rfl ?_);refine bp ?hg (N:=2) ?hd (cs:= #[.int .i64 aH,.int .i64 aG]) (t:=26) ?hr ?_;(case hd=>rfl);(case hg=>rfl);(case hr=>first|(go_simp;done)|(go_simp;rfl));intro fQ hg CL aU hb;have ay:=Aside0.mk (ai ax hb);have aA:=Aside0.mk (aU);have aD:=Aside0.mk ((by rw [hg];exact (av ax):w.heap.size<=fQ));have aR:=Aside0.mk ((by rw [hg];exact (av ax):w.heap.size<=fQ));clear HB;have HB:=ay;have eB:=aA;have a4Z:=aD;have a5a:=aR;clear ay aA aD aR;clear hb aU hg)|((with_reducible refine bk (N:=3) rfl ?_);refine bp ?hg (N:=3) ?hd (cs:= #[.int .i64 bg,.int .i64 aV]) (t:=26) ?hr ?_;(case hd=>rfl);(case hg=>rfl);(case hr=>first|(go_simp;done)|(go_simp;rfl));intro jb hg w19 aU hb;have ay:=Aside0.mk (ah (g:=fQ) (o:= .cells #[.int .i64 aH,.int .i64 aG] 26 (0,0)) (aJ eB) hb);have aA:=Aside0.mk (ai ax hb);have aD:=Aside0.mk (aU);have aR:=Aside0.mk ((by rw [hg];exact (av ax):w.heap.size<=jb));have bK:=Aside0.mk ((by rw [hg];exact (av ax):w.heap.size<=jb));have bT:=Aside0.mk ((by rw [hg];exact Nat.ne_of_lt (aY (g:=fQ) (o:= .cells #[.int .i64 aH,.int .i64 aG] 26 (0,0)) (aJ eB)):fQ≠jb));have cm:=Aside0.mk ((by rw [hg];exact Nat.ne_of_gt (aY (g:=fQ) (o:= .cells #[.int .i64 aH,.int .i64 aG] 26 (0,0)) (aJ eB)):jb≠fQ));clear eB;clear HB;have eB:=ay;have HB:=aA;have ia:=aD;have a5b:=aR;have a5c:=bK;have uS:=bT;have uT:=cm;clear ay aA aD aR bK bT cm;clear hb aU hg;have b3Q:=uS.out;have b3R:=uT.out;have yU:w19.cell? ⟨fQ,0,none⟩=some (.int .i64 aH):=(ag eB.out 0).trans rfl;have yV:w19.cell? ⟨fQ,1,none⟩=some (.int .i64 aG):=(ag eB.out 1).trans rfl;have yX:=aa eB.out 0;have yY:=aa eB.out 1)|((with_reducible refine aZ (f:=46) rfl ?_);refine bO (some 7) rfl rfl Try.func46 (by kernel_rfl) rfl #[.agg #[.int .i64 aH,.int .i64 aG]] rfl (by (try simp only [List.map_toArray,List.map_cons,List.map_nil]);first|done|rfl|(simp only [List.length_drop,List.length_take];rfl)) ?_;(with_reducible refine (bS.calls k aH aG true _ A3.out).mono ?_);rintro e uB ⟨rfl,hb⟩;refine ⟨_,rfl,?_⟩;have ay:=Aside0.mk (ah (g:=fQ) (o:= .cells #[.int .i64 aH,.int .i64 aG] 26 (0,0)) (aJ eB) hb);have aA:=Aside0.mk (ah (g:=jb) (o:= .cells #[.int .i64 bg,.int .i64 aV] 26 (0,0)) (aJ ia) hb);have aD:=Aside0.mk (ai ax hb);clear eB;clear ia;clear HB;have eB:=ay;have ia:=aA;have HB:=aD;clear ay aA aD;(try clear hb);(try clear hb2);(try clear hk);(try clear hi);have hcz23_0:uB.cell? ⟨jb,0,none⟩=some (.int .i64 bg):=(ag ia.out 0).trans rfl;have hcz23_1:uB.cell? ⟨jb,1,none⟩=some (.int .i64 aV):=(ag ia.out 1).trans rfl;have hfz23_0:=aa ia.out 0;have hfz23_1:=aa ia.out 1)|(go_at_call 46;(with_reducible refine (bS.calls k bg aV false _ A5.out).mono ?_);rintro e w24 ⟨rfl,hb⟩;have ay:=Aside0.mk (ah (g:=fQ) (o:= .cells #[.int .i64 aH,.int .i64 aG] 26 (0,0)) (aJ eB) hb);have aA:=Aside0.mk (ah (g:=jb) (o:= .cells #[.int .i64 bg,.int .i64 aV] 26 (0,0)) (aJ ia) hb);have aD:=Aside0.mk (ai ax hb);clear eB;clear ia;clear HB;have eB:=ay;have ia:=aA;have HB:=aD;clear ay aA aD;(try clear hb);(try clear hb2);(try clear hk);(try clear hi)))
   go_ret
   exact ⟨by first|rfl|(simp [aM,aQ]<;>rfl)|(simp [*,aM,aQ]<;>rfl),ax⟩
 ·replace c4:=Bool.eq_false_iff.mpr c4
  subst c4
  have H1:(some (-2))=some r:=by rw [if_neg (show ¬(false=true) by decide)] at H;exact H
  clear H
  have H:=H1
  clear H1
  obtain rfl:=Option.some.inj H
  go_enter Try.func19,Try.ntmps19
  go_wp2_with (first|((with_reducible refine bk (N:=2) rfl ?_);refine bp ?hg (N:=2) ?hd (cs:= #[.int .i64 aH,.int .i64 aG]) (t:=26) ?hr ?_;(case hd=>rfl);(case hg=>rfl);(case hr=>first|(go_simp;done)|(go_simp;rfl));intro fQ hg w25 aU hb;have ay:=Aside0.mk (ai ax hb);have aA:=Aside0.mk (aU);have aD:=Aside0.mk ((by rw [hg];exact (av ax):w.heap.size<=fQ));have aR:=Aside0.mk ((by rw [hg];exact (av ax):w.heap.size<=fQ));clear HB;have HB:=ay;have eB:=aA;have a4Z:=aD;have a5a:=aR;clear ay aA aD aR;clear hb aU hg)|((with_reducible refine bk (N:=3) rfl ?_);refine bp ?hg (N:=3) ?hd (cs:= #[.int .i64 bg,.int .i64 aV]) (t:=26) ?hr ?_;(case hd=>rfl);(case hg=>rfl);(case hr=>first|(go_simp;done)|(go_simp;rfl));intro jb hg w26 aU hb;have ay:=Aside0.mk (ah (g:=fQ) (o:= .cells #[.int .i64 aH,.int .i64 aG] 26 (0,0)) (aJ eB) hb);have aA:=Aside0.mk (ai ax hb);have aD:=Aside0.mk (aU);have aR:=Aside0.mk ((by rw [hg];exact (av ax):w.heap.size<=jb));have bK:=Aside0.mk ((by rw [hg];exact (av ax):w.heap.size<=jb));have bT:=Aside0.mk ((by rw [hg];exact Nat.ne_of_lt (aY (g:=fQ) (o:= .cells #[.int .i64 aH,.int .i64 aG] 26 (0,0)) (aJ eB)):fQ≠jb));have cm:=Aside0.mk ((by rw [hg];exact Nat.ne_of_gt (aY (g:=fQ) (o:= .cells #[.int .i64 aH,.int .i64 aG] 26 (0,0)) (aJ eB)):jb≠fQ));clear eB;clear HB;have eB:=ay;have HB:=aA;have ia:=aD;have a5b:=aR;have a5c:=bK;have uS:=bT;have uT:=cm;clear ay aA aD aR bK bT cm;clear hb aU hg;have b4o:=uS.out;have b4p:=uT.out;have tJ:w26.cell? ⟨fQ,0,none⟩=some (.int .i64 aH):=(ag eB.out 0).trans rfl;have tK:w26.cell? ⟨fQ,1,none⟩=some (.int .i64 aG):=(ag eB.out 1).trans rfl;have tL:=aa eB.out 0;have tM:=aa eB.out 1)|((with_reducible refine aZ (f:=46) rfl ?_);refine bO (some 7) rfl rfl Try.func46 (by kernel_rfl) rfl #[.agg #[.int .i64 aH,.int .i64 aG]] rfl (by (try simp only [List.map_toArray,List.map_cons,List.map_nil]);first|done|rfl|(simp only [List.length_drop,List.length_take];rfl)) ?_;(with_reducible refine (bS.calls k aH aG false _ A3.out).mono ?_);rintro e w29 ⟨rfl,hb⟩;refine ⟨_,rfl,?_⟩;have ay:=Aside0.mk (ah (g:=fQ) (o:= .cells #[.int .i64 aH,.int .i64 aG] 26 (0,0)) (aJ eB) hb);have aA:=Aside0.mk (ah (g:=jb) (o:= .cells #[.int .i64 bg,.int .i64 aV] 26 (0,0)) (aJ ia) hb);have aD:=Aside0.mk (ai ax hb);clear eB;clear ia;clear HB;have eB:=ay;have ia:=aA;have HB:=aD;clear ay aA aD;(try clear hb);(try clear hb2);(try clear hk);(try clear hi)))
  go_ret
  exact ⟨by first|rfl|(simp [aM,aQ]<;>rfl)|(simp [*,aM,aQ]<;>rfl),ax⟩
def kV.f (k:Nat) (a0:Int) (a1:Int):Option (Int×Int):=if a1=0 then (some (0,0)) else ((dA.f a0 (-1000000) 1000000).bind fun LH=>(if LH=true then ((dA.f a1 (-1000000) 1000000).bind fun yD=>(if yD=true then ((bD.f k a0 a1).bind fun ng=>(some (ng.1,ng.2))) else (some (0,0)))) else (some (0,0))))
theorem kV.mono:∀a0 a1 k,aW (kV.f k a0 a1) (kV.f (k+1) a0 a1):=by
 intro a0 a1 k
 unfold kV.f
 repeat' first
  |(with_reducible exact bD.mono _ _ _)
  |(with_reducible exact aW.refl _)
  |(with_reducible exact aW.none _)
  |(with_reducible refine aW.ite ?_ ?_)
  |(with_reducible refine aW.bind ?_ (fun _=>?_))
set_option maxHeartbeats 8000000 in
set_option maxRecDepth 100000 in
theorem kV.calls (k:Nat) (a0:Int) (a1:Int) (r1:Int) (r2:Int) (w:World) (h:kV.f k a0 a1=some (r1,r2)):
 Calls Try.prog 18 #[.int .i64 a0,.int .i64 a1] w fun e w'=>e= .returned (.agg #[.int .i64 r1,.int .i64 r2])/\Below w.heap.size w w':=by
 have lY:=Try.underlying26
 have HB:=Aside0.mk (Below.refl w.heap.size w)
 have H:(if a1=0 then (some (0,0)) else ((dA.f a0 (-1000000) 1000000).bind fun LH=>(if LH=true then ((dA.f a1 (-1000000) 1000000).bind fun yD=>(if yD=true then ((bD.f k a0 a1).bind fun ng=>(some (ng.1,ng.2))) else (some (0,0)))) else (some (0,0)))))=some (r1,r2):=h
 clear h
 by_cases c3:a1=0
 ·rw [if_pos c3] at H
  have gw:(a1==0)=true:=beq_iff_eq.mpr c3
  have mz:(a1 !=0)=false:=bne_eq_false_iff_eq.mpr c3
  clear c3
  simp only [Option.some.injEq,Prod.mk.injEq] at H
  obtain ⟨rfl,rfl⟩:=H
  go_enter Try.func18,Try.ntmps18
  go_wp2_with (first|((with_reducible refine bk (N:=4) rfl ?_);refine bp ?hg (N:=4) ?hd (cs:= #[.int .i64 0,.int .i64 0]) (t:=26) ?hr ?_;(case hd=>rfl);(case hg=>rfl);(case hr=>first|(go_simp;done)|(go_simp;rfl));intro ic hg w4 aU hb;have ay:=Aside0.mk (ai ax hb);have aA:=Aside0.mk (aU);have aD:=Aside0.mk ((by rw [hg];exact (av ax):w.heap.size<=ic));have aR:=Aside0.mk ((by rw [hg];exact (av ax):w.heap.size<=ic));clear HB;have HB:=ay;have fh:=aA;have VV:=aD;have VW:=aR;clear ay aA aD aR;clear hb aU hg;have Pk:w4.cell? ⟨ic,0,none⟩=some (.int .i64 0):=(ag fh.out 0).trans rfl;have Pm:w4.cell? ⟨ic,1,none⟩=some (.int .i64 0):=(ag fh.out 1).trans rfl;have Pn:=aa fh.out 0;have Po:=aa fh.out 1))
  refine bodyPost_ret (results_cell_row rfl _ _ ic 26 #[.int .i64 0,.int .i64 0] (0,0) _ rfl (by (with_reducible repeat (first|refine au ?_ _|refine ak ?_|refine aq ?_ _));refine aX (cs:= #[.int .i64 0,.int .i64 0]) ?_ 1 _ rfl;(with_reducible repeat (first|refine au ?_ _|refine ak ?_|refine aq ?_ _));refine aX (cs:= #[.int .i64 0,.int .i64 0]) ?_ 0 _ rfl;(with_reducible repeat (first|refine au ?_ _|refine ak ?_|refine aq ?_ _));exact fh.out) Try.underlying26 rfl (by kernel_rfl)) rfl ?_
  exact ⟨by first|rfl|(simp [aM,aQ]<;>rfl)|(simp [*,aM,aQ]<;>rfl),ax⟩
 ·rw [if_neg c3] at H
  have gw:(a1==0)=false:=beq_eq_false_iff_ne.mpr c3
  have mz:(a1 !=0)=true:=bne_iff_ne.mpr c3
  replace H:=Option.bind_eq_some_iff.mp H
  obtain ⟨LH,rO,H⟩:=H
  replace H:(if LH=true then ((dA.f a1 (-1000000) 1000000).bind fun yD=>(if yD=true then ((bD.f k a0 a1).bind fun ng=>(some (ng.1,ng.2))) else (some (0,0)))) else (some (0,0)))=some (r1,r2):=H
  have A6:=Aside0.mk rO
  clear rO
  by_cases c7:LH=true
  ·subst c7
   have H1:((dA.f a1 (-1000000) 1000000).bind fun yD=>(if yD=true then ((bD.f k a0 a1).bind fun ng=>(some (ng.1,ng.2))) else (some (0,0))))=some (r1,r2):=by rw [if_pos rfl] at H;exact H
   clear H
   have H:=H1
   clear H1
   replace H:=Option.bind_eq_some_iff.mp H
   obtain ⟨yD,WG,H⟩:=H
   replace H:(if yD=true then ((bD.f k a0 a1).bind fun ng=>(some (ng.1,ng.2))) else (some (0,0)))=some (r1,r2):=H
   have A8:=Aside0.mk WG
   clear WG
   by_cases c9:yD=true
   ·subst c9
    have H1:((bD.f k a0 a1).bind fun ng=>(some (ng.1,ng.2)))=some (r1,r2):=by rw [if_pos rfl] at H;exact H
    clear H
    have H:=H1
    clear H1
    replace H:=Option.bind_eq_some_iff.mp H
    obtain ⟨⟨VX,a2A⟩,QY,H⟩:=H
    replace H:(some (VX,a2A))=some (r1,r2):=H
    have A10:=Aside0.mk QY
    clear QY
    simp only [Option.some.injEq,Prod.mk.injEq] at H
    obtain ⟨rfl,rfl⟩:=H
    go_enter Try.func18,Try.ntmps18
    go_wp2_with (first|((with_reducible refine bk (N:=4) rfl ?_);refine bp ?hg (N:=4) ?hd (cs:= #[.int .i64 0,.int .i64 0]) (t:=26) ?hr ?_;(case hd=>rfl);(case hg=>rfl);(case hr=>first|(go_simp;done)|(go_simp;rfl));intro ic hg fk aU hb;have ay:=Aside0.mk (ai ax hb);have aA:=Aside0.mk (aU);have aD:=Aside0.mk ((by rw [hg];exact (av ax):w.heap.size<=ic));have aR:=Aside0.mk ((by rw [hg];exact (av ax):w.heap.size<=ic));clear HB;have HB:=ay;have fh:=aA;have VV:=aD;have VW:=aR;clear ay aA aD aR;clear hb aU hg)|(go_at_call 44;(with_reducible refine (dA.calls a0 (-1000000) 1000000 true _ A6.out).mono ?_);rintro e w' ⟨rfl,⟨nd,rfl⟩⟩;(try (rw [iC fk];generalize fY:World.drewN fk _=fk;have ay:Aside0 (fk.heap[ic]? =some (.cells #[.int .i64 0,.int .i64 0] 26 (0,0))):=⟨by rw [<-fY];exact (aJ fh)⟩;have aA:Aside0 (Below w.heap.size w fk):=⟨by rw [<-fY];exact ax⟩;clear fh HB fY;have fh:=ay;have HB:=aA;clear ay aA)))|(go_at_call 44;(with_reducible refine (dA.calls a1 (-1000000) 1000000 true _ A8.out).mono ?_);rintro e w' ⟨rfl,⟨nd,rfl⟩⟩;(try (rw [iC fk];generalize fY:World.drewN fk _=fk;have ay:Aside0 (fk.heap[ic]? =some (.cells #[.int .i64 0,.int .i64 0] 26 (0,0))):=⟨by rw [<-fY];exact (aJ fh)⟩;have aA:Aside0 (Below w.heap.size w fk):=⟨by rw [<-fY];exact ax⟩;clear fh HB fY;have fh:=ay;have HB:=aA;clear ay aA)))|((with_reducible refine aZ (f:=45) rfl ?_);refine bO (some 20) rfl rfl Try.func45 (by kernel_rfl) rfl #[.int .i64 a0,.int .i64 a1] rfl (by (try simp only [List.map_toArray,List.map_cons,List.map_nil]);first|done|rfl|(simp only [List.length_drop,List.length_take];rfl)) ?_;(with_reducible refine (bD.calls k a0 a1 VX a2A _ A10.out).mono ?_);rintro e lD ⟨rfl,hb⟩;refine ⟨_,rfl,?_⟩;have ay:=Aside0.mk (ah (g:=ic) (o:= .cells #[.int .i64 0,.int .i64 0] 26 (0,0)) (aJ fh) hb);have aA:=Aside0.mk (ai ax hb);clear fh;clear HB;have fh:=ay;have HB:=aA;clear ay aA;(try clear hb);(try clear hb2);(try clear hk);(try clear hi);have nC:lD.cell? ⟨ic,0,none⟩=some (.int .i64 0):=(ag fh.out 0).trans rfl;have nD:lD.cell? ⟨ic,1,none⟩=some (.int .i64 0):=(ag fh.out 1).trans rfl;have nE:=aa fh.out 0;have nG:=aa fh.out 1))
    refine bodyPost_ret (results_cell_row rfl _ _ ic 26 #[.int .i64 VX,.int .i64 a2A] (0,0) _ rfl (by (with_reducible repeat (first|refine au ?_ _|refine ak ?_|refine aq ?_ _));refine aX (cs:= #[.int .i64 VX,.int .i64 0]) ?_ 1 _ rfl;(with_reducible repeat (first|refine au ?_ _|refine ak ?_|refine aq ?_ _));refine aX (cs:= #[.int .i64 0,.int .i64 0]) ?_ 0 _ rfl;(with_reducible repeat (first|refine au ?_ _|refine ak ?_|refine aq ?_ _));exact fh.out) Try.underlying26 rfl (by kernel_rfl)) rfl ?_
    exact ⟨by first|rfl|(simp [aM,aQ]<;>rfl)|(simp [*,aM,aQ]<;>rfl),ax⟩
   ·replace c9:=Bool.eq_false_iff.mpr c9
    subst c9
    have H1:(some (0,0))=some (r1,r2):=by rw [if_neg (show ¬(false=true) by decide)] at H;exact H
    clear H
    have H:=H1
    clear H1
    simp only [Option.some.injEq,Prod.mk.injEq] at H
    obtain ⟨rfl,rfl⟩:=H
    go_enter Try.func18,Try.ntmps18
    go_wp2_with (first|((with_reducible refine bk (N:=4) rfl ?_);refine bp ?hg (N:=4) ?hd (cs:= #[.int .i64 0,.int .i64 0]) (t:=26) ?hr ?_;(case hd=>rfl);(case hg=>rfl);(case hr=>first|(go_simp;done)|(go_simp;rfl));intro ic hg rQ aU hb;have ay:=Aside0.mk (ai ax hb);have aA:=Aside0.mk (aU);have aD:=Aside0.mk ((by rw [hg];exact (av ax):w.heap.size<=ic));have aR:=Aside0.mk ((by rw [hg];exact (av ax):w.heap.size<=ic));clear HB;have HB:=ay;have fh:=aA;have VV:=aD;have VW:=aR;clear ay aA aD aR;clear hb aU hg)|(go_at_call 44;(with_reducible refine (dA.calls a0 (-1000000) 1000000 true _ A6.out).mono ?_);rintro e w' ⟨rfl,⟨nd,rfl⟩⟩;(try (rw [iC rQ];generalize fY:World.drewN rQ _=rQ;have ay:Aside0 (rQ.heap[ic]? =some (.cells #[.int .i64 0,.int .i64 0] 26 (0,0))):=⟨by rw [<-fY];exact (aJ fh)⟩;have aA:Aside0 (Below w.heap.size w rQ):=⟨by rw [<-fY];exact ax⟩;clear fh HB fY;have fh:=ay;have HB:=aA;clear ay aA)))|(go_at_call 44;(with_reducible refine (dA.calls a1 (-1000000) 1000000 false _ A8.out).mono ?_);rintro e w' ⟨rfl,⟨nd,rfl⟩⟩;(try (rw [iC rQ];generalize fY:World.drewN rQ _=rQ;have ay:Aside0 (rQ.heap[ic]? =some (.cells #[.int .i64 0,.int .i64 0] 26 (0,0))):=⟨by rw [<-fY];exact (aJ fh)⟩;have aA:Aside0 (Below w.heap.size w rQ):=⟨by rw [<-fY];exact ax⟩;clear fh HB fY;have fh:=ay;have HB:=aA;clear ay aA));have DC:rQ.cell? ⟨ic,0,none⟩=some (.int .i64 0):=(ag fh.out 0).trans rfl;have DD:rQ.cell? ⟨ic,1,none⟩=some (.int .i64 0):=(ag fh.out 1).trans rfl;have DF:=aa fh.out 0;have DG:=aa fh.out 1))
    refine bodyPost_ret (results_cell_row rfl _ _ ic 26 #[.int .i64 0,.int .i64 0] (0,0) _ rfl (by (with_reducible repeat (first|refine au ?_ _|refine ak ?_|refine aq ?_ _));refine aX (cs:= #[.int .i64 0,.int .i64 0]) ?_ 1 _ rfl;(with_reducible repeat (first|refine au ?_ _|refine ak ?_|refine aq ?_ _));refine aX (cs:= #[.int .i64 0,.int .i64 0]) ?_ 0 _ rfl;(with_reducible repeat (first|refine au ?_ _|refine ak ?_|refine aq ?_ _));exact fh.out) Try.underlying26 rfl (by kernel_rfl)) rfl ?_
    exact ⟨by first|rfl|(simp [aM,aQ]<;>rfl)|(simp [*,aM,aQ]<;>rfl),ax⟩
  ·replace c7:=Bool.eq_false_iff.mpr c7
   subst c7
   have H1:(some (0,0))=some (r1,r2):=by rw [if_neg (show ¬(false=true) by decide)] at H;exact H
   clear H
   have H:=H1
   clear H1
   simp only [Option.some.injEq,Prod.mk.injEq] at H
   obtain ⟨rfl,rfl⟩:=H
   go_enter Try.func18,Try.ntmps18
   go_wp2_with (first|((with_reducible refine bk (N:=4) rfl ?_);refine bp ?hg (N:=4) ?hd (cs:= #[.int .i64 0,.int .i64 0]) (t:=26) ?hr ?_;(case hd=>rfl);(case hg=>rfl);(case hr=>first|(go_simp;done)|(go_simp;rfl));intro ic hg lB aU hb;have ay:=Aside0.mk (ai ax hb);have aA:=Aside0.mk (aU);have aD:=Aside0.mk ((by rw [hg];exact (av ax):w.heap.size<=ic));have aR:=Aside0.mk ((by rw [hg];exact (av ax):w.heap.size<=ic));clear HB;have HB:=ay;have fh:=aA;have VV:=aD;have VW:=aR;clear ay aA aD aR;clear hb aU hg)|(go_at_call 44;(with_reducible refine (dA.calls a0 (-1000000) 1000000 false _ A6.out).mono ?_);rintro e w' ⟨rfl,⟨nd,rfl⟩⟩;(try (rw [iC lB];generalize fY:World.drewN lB _=lB;have ay:Aside0 (lB.heap[ic]? =some (.cells #[.int .i64 0,.int .i64 0] 26 (0,0))):=⟨by rw [<-fY];exact (aJ fh)⟩;have aA:Aside0 (Below w.heap.size w lB):=⟨by rw [<-fY];exact ax⟩;clear fh HB fY;have fh:=ay;have HB:=aA;clear ay aA));have Kz:lB.cell? ⟨ic,0,none⟩=some (.int .i64 0):=(ag fh.out 0).trans rfl;have KA:lB.cell? ⟨ic,1,none⟩=some (.int .i64 0):=(ag fh.out 1).trans rfl;have KB:=aa fh.out 0;have KC:=aa fh.out 1))
   refine bodyPost_ret (results_cell_row rfl _ _ ic 26 #[.int .i64 0,.int .i64 0] (0,0) _ rfl (by (with_reducible repeat (first|refine au ?_ _|refine ak ?_|refine aq ?_ _));refine aX (cs:= #[.int .i64 0,.int .i64 0]) ?_ 1 _ rfl;(with_reducible repeat (first|refine au ?_ _|refine ak ?_|refine aq ?_ _));refine aX (cs:= #[.int .i64 0,.int .i64 0]) ?_ 0 _ rfl;(with_reducible repeat (first|refine au ?_ _|refine ak ?_|refine aq ?_ _));exact fh.out) Try.underlying26 rfl (by kernel_rfl)) rfl ?_
   exact ⟨by first|rfl|(simp [aM,aQ]<;>rfl)|(simp [*,aM,aQ]<;>rfl),ax⟩
end Go.Proofs.Ytnhknojfpjheoaa.P
namespace Go.Proofs.Ytnhknojfpjheoaa.PT
open Go.RowKit Go.Proofs.Ytnhknojfpjheoaa.P Go.Proofs.YtnhknojfpjheoaaW.PrintWords Go.Proofs.YtnhknojfpjheoaaW.PrintLast Go.Proofs.Ytnhknojfpjheoaa.EvKit Go.Proofs.Ytnhknojfpjheoaa.Num Go.Proofs.Ytnhknojfpjheoaa.Lp
set_option linter.all false
def sub (n:Nat) (x:Nat->Rat) (p:Nat->Bool):Rat:=S n (fun j=>if p j=true then x j else 0)
theorem sub_congr {n:Nat} {x:Nat->Rat} {p q:Nat->Bool} (h:∀j,j<n->p j=q j):sub n x p=sub n x q:=pU (fun j hj=>by rw [h j hj])
theorem Ba (n:Nat) (x:Nat->Rat):sub n x (fun _=>false)=0:=ig (fun j _=>if_neg (by simp))
theorem TL (n:Nat) (x:Nat->Rat) {p:Nat->Bool} (h:∀j,j<n->p j=true):sub n x p=S n x:=pU (fun j hj=>if_pos (h j hj))
theorem Gs {n i:Nat} {x:Nat->Rat} {p q:Nat->Bool} (hi:i<n) (hp:p i=false) (hq:q i=true) (h:∀j,j<n->j≠i->q j=p j):sub n x q=sub n x p+x i:=by
 unfold sub
 have e:S n (fun j=>if q j=true then x j else 0)=S n (fun j=>(if p j=true then x j else 0)+(if j=i then x j else 0)):=pU (fun j hj=>by
  by_cases e:j=i
  ·subst e
   rw [if_pos hq,hp,if_neg (by decide),if_pos rfl];grind
  ·rw [h j hj e,if_neg e];grind)
 rw [e,xF,fF hi x]
theorem b1H {n:Nat} {x:Nat->Rat} (p:Nat->Bool) {D:Int} (hx:∀c,c<n->∃a:Int,x c*(D:Rat)=(a:Rat)/\a.natAbs<=1680):∃a:Int,sub n x p*(D:Rat)=(a:Rat)/\a.natAbs<=n*1680:=by
 unfold sub
 induction n with
 |zero=>exact ⟨0,by show (0:Rat)*(D:Rat)=((0:Int):Rat);rw [Rat.zero_mul];rfl,Nat.zero_le _⟩
 |succ n ih=>
  obtain ⟨a,h1,h2⟩:=ih (fun c hc=>hx c (by omega))
  obtain ⟨b,h3,h4⟩:=hx n (by omega)
  simp only [S]
  by_cases hp:p n=true
  ·exact ⟨a+b,by rw [if_pos hp,Rat.intCast_add,<-h1,<-h3];grind,by omega⟩
  ·exact ⟨a,by rw [if_neg hp,Rat.add_zero];exact h1,Nat.le_trans h2 (Nat.mul_le_mul_right _ (Nat.le_succ n))⟩
theorem Jp {n:Nat} {x:Nat->Rat} (p:Nat->Bool) (hn:n<=7) (hx:Cm n x):Ok (sub n x p):=by
 obtain ⟨D,hD,uO,hx⟩:=hx
 obtain ⟨a,h1,h2⟩:=b1H p hx
 exact Qu.ok (Qu.AE hD (a:=11760) (b:=1680) (by omega) uO h1) (by omega) (by omega)
theorem VY {n i:Nat} {x:Nat->Rat} (hx:Cm n x) (hi:i<n):Ok (x i):=by
 obtain ⟨D,hD,uO,hx⟩:=hx
 obtain ⟨a,h1,h2⟩:=hx i hi
 exact Qu.ok (Qu.AE hD (a:=1680) (b:=1680) h2 uO h1) (by omega) (by omega)
theorem b1I {D C m N K n:Nat} {t0 T:bw} (v:Valid m N K t0 T) (h:lA D C m N K T) (hD:D<=1680):Cm n (T.X m N):=by
 obtain ⟨d,hd,hdD,hrow,_⟩:=h.ex
 refine ⟨d,hd,by omega,fun c _=>?_⟩
 by_cases hb:∃r,r<m/\T.basis r=c
 ·obtain ⟨r,hr,rfl⟩:=hb
  obtain ⟨a,h1,h2⟩:=hrow r hr N (Nat.le_refl _)
  exact ⟨a,by rw [Aw v hr];exact h1,by omega⟩
 ·exact ⟨0,by rw [xG (fun r hr e=>hb ⟨r,hr,e⟩)];grind,by simp⟩
def qD (x y:Rat):Int:=if x<y then -1 else if y<x then 1 else 0
theorem a5e {x y:Rat} (w:World) (hx:Ok x) (hy:Ok y):Calls Try.prog 19 #[V x,V y] w fun e w'=>e= .returned (.int .i64 (qD x y))/\Below w.heap.size w w':=by
 have h1:1000000*1000000+1000000*1000000<=9223372036854775807:=by omega
 have f1:(x.num*(y.den:Int)).natAbs<=1000000*1000000:=lV hx.1 (by rw [jW];exact hy.2)
 have f2:(y.num*(x.den:Int)).natAbs<=1000000*1000000:=lV hy.1 (by rw [jW];exact hx.2)
 refine iQ.calls 1000001 x.num x.den y.num y.den _ w ?_
 unfold iQ.f
 rw [qh _ _ _ (by omega),decide_eq_true hx.rat]
 simp only [Option.bind_some,if_true]
 rw [qh _ _ _ (by omega),decide_eq_true hy.rat]
 simp only [Option.bind_some,if_true]
 rw [cL (n:=x.num*(y.den:Int)) (by omega) (by omega),cL (n:=y.num*(x.den:Int)) (by omega) (by omega),cL (n:=x.num*(y.den:Int)- y.num*(x.den:Int)) (by omega) (by omega)]
 congr 1
 have a1:=FP x y
 have a2:=FP y x
 unfold qD mn mx
 by_cases c1:x<y
 ·rw [if_pos c1];have:=a1.2 c1;split<;>split<;>omega
 ·rw [if_neg c1]
  have n1:¬x.num*(y.den:Int)<y.num*(x.den:Int):=fun h=>c1 (a1.1 h)
  by_cases c2:y<x
  ·rw [if_pos c2];have:=a2.2 c2;split<;>split<;>omega
  ·rw [if_neg c2]
   have n2:¬y.num*(x.den:Int)<x.num*(y.den:Int):=fun h=>c2 (a2.1 h)
   split<;>split<;>omega
theorem b1J (w:World) (b:Int) (hb:b=0∨b=1):Calls Try.prog 18 #[.int .i64 b,.int .i64 1] w fun e w'=>e= .returned (V (b:Rat))/\Below w.heap.size w w':=by
 obtain ⟨e1,e2⟩:=a1J hb
 have hok:Ok (b:Rat):=⟨by rw [e1];omega,by rw [e2];omega⟩
 obtain ⟨k,hk⟩:=qi (qG (n:=b) (d:=1) (q:=(b:Rat)) (by omega) (by have:((1:Int):Rat)=1:=rfl;rw [this];grind) (by omega) (by omega) hok)
 refine kV.calls k b 1 _ _ w ?_
 unfold kV.f
 rw [if_neg (by omega),vS,vS,decide_eq_true (by omega),decide_eq_true (by omega)]
 exact hk k (Nat.le_refl _)
theorem TM {n i:Nat} {x:Nat->Rat} (hi:i<n):sub n x (fun j=>decide (j<i+1))=sub n x (fun j=>decide (j<i))+x i:=
 Gs hi (decide_eq_false (Nat.lt_irrefl i)) (decide_eq_true (Nat.lt_succ_self i)) (fun j _ hj=>decide_eq_decide.2 (by omega))
theorem Ee {n i:Nat} {x:Nat->Rat} {p q:Nat->Bool} (hn:n<=7) (hx:Cm n x) (hi:i<n) (e:sub n x q=sub n x p+x i) (W:World):Calls Try.prog 20 #[V (sub n x p),V (x i)] W fun e w'=>e= .returned (V (sub n x q))/\Below W.heap.size W w':=by
 have h:=a3T W (Jp p hn hx) (VY hx hi) (by rw [<-e];exact Jp q hn hx)
 rw [<-e] at h
 exact h
theorem Zp {x:Rat} (h:0<=x):¬qD x 0<0:=by
 unfold qD
 rw [if_neg (by grind)]
 split<;>omega
theorem b1K {x:Rat} (h:1<=x):qD x 1=0∨qD x 1=1:=by
 unfold qD
 rw [if_neg (by grind)]
 split<;>omega
theorem b1L {x:Rat} (h:x<=1):qD x 1=0∨qD x 1= -1:=by
 unfold qD
 split
 ·exact .inr rfl
 ·rw [if_neg (by grind)];exact .inl rfl
theorem ok0:Ok 0:=⟨by decide,by decide⟩
theorem ok1:Ok 1:=⟨by decide,by decide⟩
structure a2B (aj:List Int) (af:List (List Int)) (x y:Nat->Rat):Prop where
 hn:af.length<=7
 hb:aj.length<=6
 cx:Cm af.length x
 cy:Cm aj.length y
 xn:∀j,j<af.length->0<=x j
 yn:∀i,i<aj.length->0<=y i
 same:S af.length x=S aj.length y
 row:∀i,i<aj.length->1<=sub af.length x (fun j=>dM aj af i j)
 col:∀j,j<af.length->sub aj.length y (fun i=>dM aj af i j)<=1
 nd:aj.Nodup
 ne:∀e,e∈af->e.Nodup
theorem CV:∀(l:List Int) (a:Int),jY a l=true->l.Nodup/\∀v,v∈l->a<v
 | [],_,_=>⟨List.nodup_nil,fun v hv=>by cases hv⟩
 |v::r,a,h=>by
  simp only [jY,Bool.and_eq_true,decide_eq_true_eq] at h
  obtain ⟨h1,h2⟩:=CV r v h.2
  refine ⟨List.nodup_cons.2 ⟨fun hm=>by have:=h2 v hm;omega,h1⟩,fun u hu=>?_⟩
  rcases List.mem_cons.1 hu with rfl|hu
  ·omega
  ·have:=h2 u hu;omega
def VZ (n b:Nat) (x y:Nat->Rat):V5:=(true,(S n x).num,((S n x).den:Int),LQ n x,LQ b y)
theorem Zq {aj:List Int} {af:List (List Int)} (hb0:aj.length<=1048576) (TG:af.length<=1048576) (hr:∀x,x∈af->x.length<=1048576) {A0:Option Addr} {c0:Nat} {A1:Option Addr} {c1:Nat} {w:World} (h0:oY w aj A0 c0) (h1:lX w af A1 c1):
 ∃R:V5,(R=qB∨∃x y,a2B aj af x y/\R=VZ af.length aj.length x y)/\Ev (fun k=>aC.f k aj af) R/\
  ∀(W:World) (q0:Option Addr) (d0:Nat) (q1:Option Addr) (d1:Nat),oY W aj q0 d0->lX W af q1 d1->Calls Try.prog 9 #[.slice q0 aj.length d0,.slice q1 af.length d1] W (nM W R):=by
 by_cases hz:(nx aj af&&nU aj af)=true
 ·have hz2:=hz
  rw [Bool.and_eq_true] at hz2
  obtain ⟨hg,hc⟩:=hz2
  obtain ⟨hnb,hne,_⟩:=AY hg
  obtain ⟨_,_,_,⟨T1,T2,Jn,Jo,_⟩,_⟩:=Na hg hc h0 h1 []
  have hev:=QV hb0 TG hr (qC aj af T1 T2) (fun _ _=>⟨T1,T2,Jn,Jo,rfl⟩)
  rw [if_pos hz] at hev
  have hg2:=hg
  unfold nx at hg2
  simp only [Bool.and_eq_true,decide_eq_true_eq] at hg2
  have c1:=TJ Jn
  have c2:=TK Jo
  refine ⟨qC aj af T1 T2,.inr ⟨xC aj af T1,xP aj af T2,⟨hne,hnb,?_,?_,c1.nn,c2.nn,b1G Jn Jo,c1.row,c2.row,(CV _ _ hg2.1.1).1,fun e he=>(CV _ _ (List.all_eq_true.1 hg2.2 e he)).1⟩,rfl⟩,hev,fun W q0 d0 q1 d1 g0 g1=>?_⟩
  ·exact b1I Jn.1.toValid (FR DY hnb Jn.1) (by omega)
  ·exact b1I Jo.1.toValid (FT DZ (Ea hc) hnb Jo.1) (by omega)
  ·refine (Na hg hc g0 g1).mono ?_
   rintro e w' ⟨T1',T2',b9b,b9c,hP⟩
   rw [Zm hnb hne Jn Jo b9b b9c]
   exact hP
 ·have hz2:=Bool.eq_false_iff.2 hz
  have hev:=QV hb0 TG hr qB (fun a b=>absurd (by rw [a,b];rfl) hz)
  rw [if_neg hz] at hev
  exact ⟨qB,.inl rfl,hev,fun W q0 d0 q1 d1 g0 g1=>Zn hb0 hr hz2 g0 g1⟩
def b1M (W:World) (e:Ending) (w':World):Prop:=∃A0 c0 aj A1 c1 af,e= .returned (.tuple #[.slice A0 (aj:List Int).length c0,.slice A1 (af:List (List Int)).length c1])/\oY w' aj A0 c0/\lX w' af A1 c1/\aj.length<=1000/\af.length<=1000/\(∀x,x∈af->x.length<=1000)/\Below W.heap.size W w'
theorem Zr (w:World) (b:Int) (hb:b=0∨b=1):Calls Try.prog 18 #[.int .i64 b,.int .i64 1] w fun e w'=>e= .returned (.agg #[.int .i64 b,.int .i64 1])/\Below w.heap.size w w':=by
 obtain ⟨e1,e2⟩:=a1J hb
 have h:=b1J w b hb
 unfold V at h
 rw [e1,e2] at h
 exact h
theorem a5f {x:Rat} (hx:Ok x) (w:World):Calls Try.prog 19 #[V x,.agg #[.int .i64 0,.int .i64 1]] w fun e w'=>e= .returned (.int .i64 (qD x 0))/\Below w.heap.size w w':=a5e w hx ok0
theorem a5g {x:Rat} (hx:Ok x) (w:World):Calls Try.prog 19 #[V x,.agg #[.int .i64 1,.int .i64 1]] w fun e w'=>e= .returned (.int .i64 (qD x 1))/\Below w.heap.size w w':=a5e w hx ok1
abbrev Num (w:World) (g:Nat) (q:Rat):Prop:=w.heap[g]? =some (.cells #[.int .i64 q.num,.int .i64 (q.den:Int)] 26 (0,0))
theorem Ef {w:World} {g:Nat} {q q':Rat} (h:Num w g q):Num ((w.setCell ⟨g,0,none⟩ (.int .i64 q'.num)).setCell ⟨g,1,none⟩ (.int .i64 (q'.den:Int))) g q':=
 aX (aX h 0 _ (cs':= #[.int .i64 q'.num,.int .i64 (q.den:Int)]) rfl) 1 _ (cs':= #[.int .i64 q'.num,.int .i64 (q'.den:Int)]) rfl
theorem NS {w:World} {g:Nat} (h:w.heap[g]? =some (.cells #[.int .i64 0,.int .i64 1] 26 (0,0))):Num w g 0:=h
theorem wC {w:World} {n i:Nat} {x:Nat->Rat} {A:Option Addr} {c:Nat} (h:Bq w (LQ n x) A c) (hi:i<n):∃ad:Addr,A=some ad/\w.cell? (ad.add (i*2))=some (.int .i64 (x i).num)/\w.cell? ⟨(ad.add (i*2)).block,(ad.add (i*2)).off+1,none⟩=some (.int .i64 ((x i).den:Int)):=by
 obtain ⟨ad,e,h0,h1⟩:=iI h.2 (i:Int) (by omega) (by rw [jw];omega)
 rw [AJ x hi,Int.toNat_natCast] at h0 h1
 exact ⟨ad,e,h0,h1⟩
theorem Jq {l:List Int} {t:Nat} (h:l.Nodup) (ht:t<l.length):l[t] ∉ l.take t:=by
 have h1:l=l.take t++l[t]::l.drop (t+1):=by rw [<-List.drop_eq_getElem_cons ht,List.take_append_drop]
 rw [h1] at h
 have h2:=(List.nodup_append.1 h).2.2
 intro hm
 exact h2 _ hm _ List.mem_cons_self rfl
theorem Zs {W:World} {e:Ending} {w':World} (h:nM W qB e w'):∃C3 f3 C4 f4,e= .returned (.agg #[.bool false,.int .i64 0,.int .i64 0,.slice C3 0 f3,.slice C4 0 f4])/\Below W.heap.size W w':=by
 obtain ⟨C3,f3,C4,f4,bs,rfl,_,_,t⟩:=h
 exact ⟨C3,f3,C4,f4,rfl,t.dN⟩
theorem a2C {W:World} {n b:Nat} {x y:Nat->Rat} {e:Ending} {w':World} (h:nM W (VZ n b x y) e w'):∃C3 f3 C4 f4,e= .returned (.agg #[.bool true,.int .i64 (S n x).num,.int .i64 ((S n x).den:Int),.slice C3 n f3,.slice C4 b f4])/\Bq w' (LQ n x) C3 f3/\Bq w' (LQ b y) C4 f4/\Below W.heap.size W w':=by
 obtain ⟨C3,f3,C4,f4,bs,rfl,o,_,t⟩:=h
 have e1:(VZ n b x y).2.2.2.1.length=n:=jw _ _
 have e2:(VZ n b x y).2.2.2.2.length=b:=jw _ _
 have h1:=oV.rd o
 rw [e1,e2]
 exact ⟨C3,f3,C4,f4,rfl,h1.wts,h1.a0N,t.dN⟩
set_option maxHeartbeats 4000000 in
set_option maxRecDepth 100000 in
theorem QZ (A:Option Addr) (n c:Nat) (w:World) (hn:n<=1048576)
 (hD:∀W,Below w.heap.size w W->Calls Try.prog 17 #[.slice A n c] W (b1M W)):
 Calls Try.prog 4 #[.slice A n c] w fun e w'=>e= .returned (.bool true)/\Below w.heap.size w w':=by
 have jo:=Aside0.mk (Below.refl w.heap.size w)
 have HD:=Aside0.mk hD
 have PE:decide ((n:Int)>1048576)=false:=decide_eq_false (by omega)
 clear hD
 go_enter Try.func4,Try.ntmps4
 go_wp2_with (first|(go_at_call 17;(with_reducible refine (HD.out _ jo.out).mono ?_);rintro e w1 ⟨A0,c0,aj,A1,c1,af,rfl,hb,he,lb,le,lr,hB⟩;have dG:=Aside0.mk (ai jo.out hB);obtain ⟨R,hR,hev,hI⟩:=Zq (show aj.length<=1048576 by omega) (show af.length<=1048576 by omega) (fun x hx=>by have:=lr x hx;omega) hb he;obtain ⟨k,hk⟩:=Ev.rounds hev;have Nb:=Aside0.mk hb;have xY:=Aside0.mk he;have HK:=Aside0.mk hk;have HR:=Aside0.mk hR;have HI:=Aside0.mk hI;have HS:=Aside0.mk (And.intro lb (And.intro le lr));clear hb he hev hk hR hI lb le lr hB jo HD))
 obtain hR:=HR.out
 clear HR
 rcases hR with rfl|⟨x,y,hF,rfl⟩
 ·refine (aC.calls k A0 c0 aj A1 c1 af false 0 0 [] [] w1 Nb.out.2 Nb.out.1 xY.out.2 xY.out.1 HK.out).mono ?_
  rintro e w2 ⟨v3,v4,rfl,h3,h4,hb2⟩
  obtain ⟨B3,d3,rfl⟩:=Kd.cX h3
  obtain ⟨B4,d4,rfl⟩:=Kd.cX h4
  have iw:=Aside0.mk (ai dG.out hb2)
  have kZ:=Aside0.mk (oY.past Nb.out hb2)
  have mX:=Aside0.mk (lX.past xY.out hb2)
  clear hb2 h3 h4 Nb xY dG HK
  go_wp2_with (first|(go_at_call 9;go_loud ((with_reducible refine (HI.out _ A0 c0 A1 c1 (oY.tr kZ.out (Tr.alloc (Tr.refl _ _) _)) (lX.tr mX.out (Tr.alloc (Tr.refl _ _) _))).mono ?_);intro e w3 rP;obtain ⟨C3,f3,C4,f4,rfl,Jr⟩:=Zs rP;clear rP;have xe:=Aside0.mk (ai (aK iw.out _) Jr);have Bo:=Aside0.mk (ah (bW w2 _) Jr);have hz0:=(ag Bo.out 0).trans rfl;have hlt:w2.heap.size<w3.heap.size:=aY Bo.out;clear Jr)))
  go_ret
  exact ⟨rfl,aK xe.out _⟩
 ·refine (aC.calls k A0 c0 aj A1 c1 af _ _ _ _ _ w1 Nb.out.2 Nb.out.1 xY.out.2 xY.out.1 HK.out).mono ?_
  rintro e w2 ⟨v3,v4,rfl,h3,h4,hb2⟩
  obtain ⟨B3,d3,rfl⟩:=Kd.cX h3
  obtain ⟨B4,d4,rfl⟩:=Kd.cX h4
  have iw:=Aside0.mk (ai dG.out hb2)
  have kZ:=Aside0.mk (oY.past Nb.out hb2)
  have mX:=Aside0.mk (lX.past xY.out hb2)
  clear hb2 h3 h4 Nb xY dG HK
  have l1:(LQ af.length x).length=af.length:=jw _ _
  have l2:(LQ aj.length y).length=aj.length:=jw _ _
  rw [l1,l2]
  have HF:=Aside0.mk hF
  have HM0:=Aside0.mk (fun W=>Zr W 0 (.inl rfl))
  have HM1:=Aside0.mk (fun W=>Zr W 1 (.inr rfl))
  clear hF l1 l2
  go_wp2_with (first|(go_at_call 9;go_loud ((with_reducible refine (HI.out _ A0 c0 A1 c1 (oY.tr kZ.out (Tr.alloc (Tr.refl _ _) _)) (lX.tr mX.out (Tr.alloc (Tr.refl _ _) _))).mono ?_);intro e w3 rP;obtain ⟨C3,f3,C4,f4,rfl,p3_,p4_,Jr⟩:=a2C rP;clear rP;have xe:=Aside0.mk (ai (aK iw.out _) Jr);have Bo:=Aside0.mk (ah (bW w2 _) Jr);have hz0:=(ag Bo.out 0).trans rfl;have hlt:w2.heap.size<w3.heap.size:=aY Bo.out;have Ir:=Aside0.mk p3_;have TN:=Aside0.mk p4_;have Zt:=Aside0.mk (oY.past kZ.out (ai (aK (Below.refl _ _) _) Jr));have Zu:=Aside0.mk (lX.past mX.out (ai (aK (Below.refl _ _) _) Jr));clear Jr p3_ p4_ kZ mX HI iw)))
  refine (HM0.out _).mono ?_
  rintro e w4 ⟨rfl,b4_⟩
  have nW:=Aside0.mk (ai (aK xe.out _) b4_)
  have Mu:=Aside0.mk (ah (bW w3 _) b4_)
  have CW:=ai (aK (Below.refl _ _) _) b4_
  have b1N:=Aside0.mk (Ir.out.past CW)
  have b1O:=Aside0.mk (TN.out.past CW)
  have b1P:=Aside0.mk (Zt.out.past CW)
  have b1Q:=Aside0.mk (Zu.out.past CW)
  have b9d:w3.heap.size<w4.heap.size:=aY Mu.out
  clear b4_ CW HM0 xe Bo hz0 hlt Ir TN Zt Zu
  go_wp2_with (first|(go_at_call 18;go_loud ((with_reducible refine (HM1.out _).mono ?_);rintro e w5 ⟨rfl,EW⟩;have pN:=Aside0.mk (aK (ai (aK nW.out _) EW) (.cells #[.int .i64 1,.int .i64 1] 26));have CW:=aK (ai (aK (Below.refl _ _) _) EW) (.cells #[.int .i64 1,.int .i64 1] 26);have Nc:=Aside0.mk (aq (ah (aq Mu.out _) EW) (.cells #[.int .i64 1,.int .i64 1] 26));have xx:=Aside0.mk (aq (ah (bW w4 _) EW) (.cells #[.int .i64 1,.int .i64 1] 26));have Zv:=Aside0.mk (bW w5 (.cells #[.int .i64 1,.int .i64 1] 26 (0,0)));have Ir:=Aside0.mk (b1N.out.past CW);have TN:=Aside0.mk (b1O.out.past CW);have Zt:=Aside0.mk (b1P.out.past CW);have Zu:=Aside0.mk (b1Q.out.past CW);have hz6:=(ag (ah (aq Mu.out _) EW) 3).trans rfl;have Bb:=(ag (ah (bW w4 _) EW) 0).trans rfl;have Bc:=(ag (ah (bW w4 _) EW) 1).trans rfl;have hq6:w3.heap.size<w5.heap.size:=aY (ah (aq Mu.out _) EW);have xu:w4.heap.size<w5.heap.size:=aY (ah (bW w4 _) EW);clear CW EW HM1)))
  have HK9:Aside0 (((w5.alloc (.cells #[.int .i64 1,.int .i64 1] 26)).alloc (.cells #[.int .i64 0,.int .i64 1] 26)).heap[w5.heap.size+1]? =some (.cells #[.int .i64 0,.int .i64 1] 26 (0,0))):=⟨by have:=bW (w5.alloc (.cells #[.int .i64 1,.int .i64 1] 26)) (.cells #[.int .i64 0,.int .i64 1] 26 (0,0));rw [kL] at this;exact this⟩
  have hs5:w5.heap.size+1=(w5.alloc (.cells #[.int .i64 1,.int .i64 1] 26)).heap.size:=(kL _ _).symm
  have CX:Aside0 (Below (w5.alloc (.cells #[.int .i64 1,.int .i64 1] 26)).heap.size (w5.alloc (.cells #[.int .i64 1,.int .i64 1] 26)) ((w5.alloc (.cells #[.int .i64 1,.int .i64 1] 26)).alloc (.cells #[.int .i64 0,.int .i64 1] 26))):=⟨aK (Below.refl _ _) _⟩
  obtain ⟨g8,zx⟩:∃g8,g8=w5.heap.size:=⟨_,rfl⟩
  obtain ⟨g9,Ym⟩:∃g9,g9=w5.heap.size+1:=⟨_,rfl⟩
  rw [<-Ym] at HK9 hs5
  rw [<-zx] at Zv
  rw [<-Ym,<-zx]
  clear hz6 Bb Bc hq6 xu b9d zx Ym Mu b1N b1O b1P b1Q nW
  generalize ((w5.alloc (.cells #[.int .i64 1,.int .i64 1] 26)).alloc (.cells #[.int .i64 0,.int .i64 1] 26))=w7 at*
  generalize (w5.alloc (.cells #[.int .i64 1,.int .i64 1] 26))=w6 at*
  generalize w4.heap.size=g7 at*
  generalize w3.heap.size=g6 at*
  have ER:=Aside0.mk hs5
  clear hs5
  go_loopw [83] (fun iv wr=>∃i:Nat,iv= .int .i64 (i:Int)/\i<=af.length/\Aside0 (Num wr g9 (sub af.length x (fun j=>decide (j<i))))/\Aside0 (Below w6.heap.size w6 wr)) (fun iv _=>af.length -(intOf iv).toNat)
  case atStart=>exact ⟨0,rfl,Nat.zero_le _,⟨by rw [sub_congr (q:=fun _=>false) (fun j _=>decide_eq_false (by omega)),Ba];exact NS HK9.out⟩,CX⟩
  case round=>
   clear HK9 CX
   obtain ⟨i,rfl,hi,HN,bL⟩:=hrel
   by_cases hlt:i<af.length
   ·have gp:=Aside0.mk hlt
    obtain ⟨ad,e,hx0,hx1⟩:=wC (Ir.out.past bL.out) hlt
    cases e
    have g0:(0:Int)<=(i:Int):=by omega
    have g1:(i:Int)<(af.length:Int):=by omega
    have vH:decide ((i:Int)<(af.length:Int))=true:=decide_eq_true g1
    have sD:decide (i<af.length)=true:=decide_eq_true hlt
    have fy:Aside0 (wrap64 ((i:Int)+1)=((i+1:Nat):Int)):=⟨eD (by have:=HF.out.hn;have:=HF.out.hb;omega)⟩
    have HC:=Aside0.mk (a5f (VY HF.out.cx hlt))
    have hneg:decide (qD (x i) 0<0)=false:=decide_eq_false (Zp (HF.out.xn i hlt))
    have HA:=Aside0.mk (Ee HF.out.hn HF.out.cx hlt (TM hlt))
    have Bb:=(ag (ah xx.out bL.out) 0).trans rfl
    have Bc:=(ag (ah xx.out bL.out) 1).trans rfl
    have xu:g7<wr.heap.size:=aY (ah xx.out bL.out)
    clear hlt hi
    go_wp2_with (first|(go_at_call 19;go_loud ((with_reducible refine (HC.out _).mono ?_);rintro e v1 ⟨rfl,lR⟩;have dG:=Aside0.mk (ai (aK bL.out _) lR);have Ra:=Aside0.mk (ah (aq HN.out _) lR);have hb0:=(ag (ah (bW wr _) lR) 0).trans rfl;have hb1:=(ag (ah (bW wr _) lR) 1).trans rfl;have hn0:=(ag Ra.out 0).trans rfl;have PE:=(ag Ra.out 1).trans rfl;clear lR HC hx0 hx1))|(go_at_call 20;go_loud ((with_reducible refine (HA.out _).mono ?_);rintro e v2 ⟨rfl,Nd⟩;have iw:=Aside0.mk (ai dG.out Nd);have CY:=Aside0.mk (ah Ra.out Nd);have hm0:=(ag CY.out 0).trans rfl;have EI:=(ag CY.out 1).trans rfl;have Zw:=aa CY.out 0;have mV:=aa CY.out 1;clear Nd HA)))
    go_roundw
    case rel=>exact ⟨i+1,by first|(rw [fy.out];done)|rfl|(simp;done),gp.out,⟨Ef CY.out⟩,⟨br (br iw.out (Nat.le_of_eq ER.out.symm)) (Nat.le_of_eq ER.out.symm)⟩⟩
    case measure=>(try rw [fy.out]);have:=gp.out;simp [intOf];omega
   ·have e:i=af.length:=by omega
    rw [e,TL _ _ (fun j hj=>decide_eq_true hj)] at HN
    have vH:decide ((i:Int)<(af.length:Int))=false:=decide_eq_false (by omega)
    have sD:decide (i<af.length)=false:=decide_eq_false hlt
    have Bb:=(ag (ah xx.out bL.out) 0).trans rfl
    have Bc:=(ag (ah xx.out bL.out) 1).trans rfl
    have xu:g7<wr.heap.size:=aY (ah xx.out bL.out)
    have hz6:=(ag (ah Nc.out bL.out) 4).trans rfl
    have hq6:g6<wr.heap.size:=aY (ah Nc.out bL.out)
    clear e hlt hi
    go_wp2
    have a2D:Aside0 (g9≠wr.heap.size):=⟨by have:=aY HN.out;omega⟩
    have Wa:Aside0 (w6.heap.size<=wr.heap.size):=⟨bL.out.size⟩
    have H9S:=Aside0.mk (aq HN.out (.cells #[.int .i64 0,.int .i64 1] 26))
    have a5i:=Aside0.mk (bW wr (.cells #[.int .i64 0,.int .i64 1] 26 (0,0)))
    have CX:=Aside0.mk (aK bL.out (.cells #[.int .i64 0,.int .i64 1] 26))
    clear Bb Bc xu hz6 hq6 bL HN vH sD
    generalize (wr.alloc (.cells #[.int .i64 0,.int .i64 1] 26))=lD at*
    generalize wr.heap.size=g12 at*
    go_loopw [99] (fun iv wr=>∃i:Nat,iv= .int .i64 (i:Int)/\i<=aj.length/\Aside0 (Num wr g12 (sub aj.length y (fun j=>decide (j<i))))/\Aside0 (Num wr g9 (S af.length x))/\Aside0 (Below w6.heap.size w6 wr)) (fun iv _=>aj.length -(intOf iv).toNat)
    case atStart=>exact ⟨0,rfl,Nat.zero_le _,⟨by rw [sub_congr (q:=fun _=>false) (fun j _=>decide_eq_false (by omega)),Ba];exact NS a5i.out⟩,H9S,CX⟩
    case round=>
     clear a5i CX H9S
     obtain ⟨i,rfl,hi,HN,H9r,bL⟩:=hrel
     by_cases hlt:i<aj.length
     ·have gp:=Aside0.mk hlt
      obtain ⟨ad,e,hx0,hx1⟩:=wC (TN.out.past bL.out) hlt
      cases e
      have g0:(0:Int)<=(i:Int):=by omega
      have g1:(i:Int)<(aj.length:Int):=by omega
      have vH:decide ((i:Int)<(aj.length:Int))=true:=decide_eq_true g1
      have sD:decide (i<aj.length)=true:=decide_eq_true hlt
      have fy:Aside0 (wrap64 ((i:Int)+1)=((i+1:Nat):Int)):=⟨eD (by have:=HF.out.hn;have:=HF.out.hb;omega)⟩
      have HC:=Aside0.mk (a5f (VY HF.out.cy hlt))
      have hneg:decide (qD (y i) 0<0)=false:=decide_eq_false (Zp (HF.out.yn i hlt))
      have HA:=Aside0.mk (Ee (by have:=HF.out.hb;omega) HF.out.cy hlt (TM hlt))
      have Bb:=(ag (ah xx.out bL.out) 0).trans rfl
      have Bc:=(ag (ah xx.out bL.out) 1).trans rfl
      have xu:g7<wr.heap.size:=aY (ah xx.out bL.out)
      clear hlt hi
      go_wp2_with (first|(go_at_call 19;go_loud ((with_reducible refine (HC.out _).mono ?_);rintro e v1 ⟨rfl,lR⟩;have dG:=Aside0.mk (ai (aK bL.out _) lR);have Ra:=Aside0.mk (ah (aq HN.out _) lR);have H9a:=Aside0.mk (ah (aq H9r.out _) lR);have hb0:=(ag (ah (bW wr _) lR) 0).trans rfl;have hb1:=(ag (ah (bW wr _) lR) 1).trans rfl;have hn0:=(ag Ra.out 0).trans rfl;have PE:=(ag Ra.out 1).trans rfl;clear lR HC hx0 hx1))|(go_at_call 20;go_loud ((with_reducible refine (HA.out _).mono ?_);rintro e v2 ⟨rfl,Nd⟩;have iw:=Aside0.mk (ai dG.out Nd);have CY:=Aside0.mk (ah Ra.out Nd);have H9b:=Aside0.mk (ah H9a.out Nd);have hm0:=(ag CY.out 0).trans rfl;have EI:=(ag CY.out 1).trans rfl;have Zw:=aa CY.out 0;have mV:=aa CY.out 1;clear Nd HA)))
      go_roundw
      case rel=>exact ⟨i+1,by first|(rw [fy.out];done)|rfl|(simp;done),gp.out,⟨Ef CY.out⟩,⟨di (di H9b.out a2D.out _) a2D.out _⟩,⟨br (br iw.out Wa.out) Wa.out⟩⟩
      case measure=>(try rw [fy.out]);have:=gp.out;simp [intOf];omega
     ·have e:i=aj.length:=by omega
      rw [e,TL _ _ (fun j hj=>decide_eq_true hj),<-HF.out.same] at HN
      have vH:decide ((i:Int)<(aj.length:Int))=false:=decide_eq_false (by omega)
      have sD:decide (i<aj.length)=false:=decide_eq_false hlt
      have hz0:=(ag H9r.out 0).trans rfl
      have hz1:=(ag H9r.out 1).trans rfl
      have hy0:=(ag HN.out 0).trans rfl
      have hy1:=(ag HN.out 1).trans rfl
      have hw1:=(ag (ah Nc.out bL.out) 1).trans rfl
      have hw2:=(ag (ah Nc.out bL.out) 2).trans rfl
      have a1Q:decide (((S af.length x).den:Int)<1)=false:=decide_eq_false (by have:=(S af.length x).den_pos;omega)
      clear e hlt hi
      go_wp2
      clear hz0 hz1 hy0 hy1 hw1 hw2 a1Q vH sD H9r HN a2D Wa
      have CX:=bL
      clear bL
      generalize wr=nY at*
      go_loopw [129] (fun iv wr=>∃i:Nat,iv= .int .i64 (i:Int)/\i<=aj.length/\Aside0 (Below w6.heap.size w6 wr)) (fun iv _=>aj.length -(intOf iv).toNat)
      case atStart=>exact ⟨0,rfl,Nat.zero_le _,CX⟩
      case round=>
       clear CX
       obtain ⟨i,rfl,hi,bL⟩:=hrel
       by_cases hlt:i<aj.length
       ·have gp:=Aside0.mk hlt
        obtain ⟨ad,e,hx⟩:=Kd.fC Zt.out.2 (i:Int) (by omega) (by omega)
        cases e
        have hrd:rd aj (i:Int)=aj.getD i 0:=rfl
        rw [hrd,Int.toNat_natCast] at hx
        obtain ⟨v,hv⟩:∃v,v=aj.getD i 0:=⟨_,rfl⟩
        rw [<-hv] at hx
        have IP:Aside0 (aj.getD i 0=v):=⟨hv.symm⟩
        have hx2:wr.cell? (ad.add i)=some (.int .i64 v):=(bL.out.cell (World.block_lt_of_cell? w6 _ hx)).trans hx
        have g0:(0:Int)<=(i:Int):=by omega
        have g1:(i:Int)<(aj.length:Int):=by omega
        have gd:decide ((i:Int)<(aj.length:Int))=true:=decide_eq_true g1
        have gn:decide (i<aj.length)=true:=decide_eq_true hlt
        have fy:Aside0 (wrap64 ((i:Int)+1)=((i+1:Nat):Int)):=⟨eD (by have:=HF.out.hb;omega)⟩
        have Bb:=(ag (ah xx.out bL.out) 0).trans rfl
        have Bc:=(ag (ah xx.out bL.out) 1).trans rfl
        have xu:g7<wr.heap.size:=aY (ah xx.out bL.out)
        clear hx hv hrd hlt hi
        go_wp2
        clear hx2 g0 g1 gd gn
        have nW:=Aside0.mk (aK bL.out (.cells #[.int .i64 0,.int .i64 1] 26))
        have uU:=Aside0.mk (NS (bW wr (.cells #[.int .i64 0,.int .i64 1] 26 (0,0))))
        have Zx:Aside0 (w6.heap.size<=wr.heap.size):=⟨bL.out.size⟩
        clear Bb Bc xu bL
        generalize (wr.alloc (.cells #[.int .i64 0,.int .i64 1] 26))=Sa at*
        generalize wr.heap.size=g17 at*
        go_loopw [136] (fun jv wr=>∃j:Nat,jv= .int .i64 (j:Int)/\j<=af.length/\Aside0 (Num wr g17 (sub af.length x (fun q=>decide (q<j)&&dM aj af i q)))/\Aside0 (Below w6.heap.size w6 wr)) (fun jv _=>af.length -(intOf jv).toNat)
        case atStart=>exact ⟨0,rfl,Nat.zero_le _,⟨by rw [sub_congr (q:=fun _=>false) (fun q _=>by simp),Ba];exact uU.out⟩,nW⟩
        case round=>
         clear uU nW
         obtain ⟨j,rfl,hj,uU,nW⟩:=hrel
         by_cases od:j<af.length
         ·have nV:=Aside0.mk od
          obtain ⟨IC,A2,c2,e,hy,Tb,MQ⟩:=zJ Zu.out.2 j od
          cases e
          have MP:=Aside0.mk (HS.out.2.2 _ (List.getElem_mem od))
          have Tc:Aside0 (af.getD j []=af[j]):=⟨by simp [List.getD_eq_getElem?_getD,od]⟩
          have HNd:=Aside0.mk (HF.out.ne _ (List.getElem_mem od))
          have EE:wr.cell? (IC.add j)=some (.slice A2 (af[j]).length c2):=(nW.out.cell (World.block_lt_of_cell? w6 _ hy)).trans hy
          have HCy:=Aside0.mk MQ
          have HPj:Aside0 (dM aj af i j=decide (v∈af[j])):=⟨by unfold dM;rw [IP.out,Tc.out]⟩
          clear hy Tb MQ
          generalize af[j]=el at*
          have g0:(0:Int)<=(j:Int):=by omega
          have g1:(j:Int)<(af.length:Int):=by omega
          have gd:decide ((j:Int)<(af.length:Int))=true:=decide_eq_true g1
          have gn:decide (j<af.length)=true:=decide_eq_true od
          have kC:Aside0 (wrap64 ((j:Int)+1)=((j+1:Nat):Int)):=⟨eD (by have:=HF.out.hn;omega)⟩
          clear od hj
          go_wp2
          go_loopw [143] (fun tv wr=>∃t:Nat,tv= .int .i64 (t:Int)/\t<=el.length/\Aside0 (Num wr g17 (sub af.length x (fun q=>(decide (q<j)&&dM aj af i q)||(decide (q=j)&&decide (v∈el.take t)))))/\Aside0 (Below w6.heap.size w6 wr)) (fun tv _=>el.length -(intOf tv).toNat)
          case atStart=>exact ⟨0,rfl,Nat.zero_le _,⟨by rw [sub_congr (q:=(fun q=>decide (q<j)&&dM aj af i q)) (fun q _=>by simp)];exact uU.out⟩,nW⟩
          case round=>
           clear uU nW EE
           obtain ⟨t,rfl,ht,uV,pN⟩:=hrel
           by_cases sO:t<el.length
           ·have Js:=Aside0.mk sO
            obtain ⟨ad3,e,hu⟩:=Kd.fC HCy.out (t:Int) (by omega) (by omega)
            cases e
            rw [qa sO,Int.toNat_natCast] at hu
            have hu2:wr.cell? (ad3.add t)=some (.int .i64 el[t]):=(pN.out.cell (World.block_lt_of_cell? w6 _ hu)).trans hu
            have xw:Aside0 (el.take (t+1)=el.take t++[el[t]]):=⟨List.take_succ_eq_append_getElem sO⟩
            have HTn:Aside0 (el[t] ∉ el.take t):=⟨Jq HNd.out sO⟩
            clear hu
            generalize el[t]=u at*
            have k0:(0:Int)<=(t:Int):=by omega
            have k1:(t:Int)<(el.length:Int):=by omega
            have kd:decide ((t:Int)<(el.length:Int))=true:=decide_eq_true k1
            have kn:decide (t<el.length)=true:=decide_eq_true sO
            have Rb:Aside0 (wrap64 ((t:Int)+1)=((t+1:Nat):Int)):=⟨eD (by have:=MP.out;have:=Js.out;omega)⟩
            by_cases huv:u=v
            ·subst huv
             have gz:(u==u)=true:=by simp
             have gzd:decide (u=u)=true:=decide_eq_true rfl
             clear sO ht
             obtain ⟨uW,e5,hx0,hx1⟩:=wC (Ir.out.past pN.out) nV.out
             cases e5
             have hs0:=(ag uV.out 0).trans rfl
             have hs1:=(ag uV.out 1).trans rfl
             have hs2:=(ag (ah Nc.out pN.out) 3).trans rfl
             have HA:=Aside0.mk (Ee (p:=(fun q=>(decide (q<j)&&dM aj af i q)||(decide (q=j)&&decide (u∈el.take t)))) (q:=(fun q=>(decide (q<j)&&dM aj af i q)||(decide (q=j)&&decide (u∈el.take (t+1))))) HF.out.hn HF.out.cx nV.out (Gs nV.out (by simp [HTn.out]) (by simp [xw.out]) (fun q _ hq=>by simp [hq])))
             have Jt:Aside0 (∀wz,Below w6.heap.size w6 wz->Num wz g17 (sub af.length x (fun q=>(decide (q<j)&&dM aj af i q)||(decide (q=j)&&decide (u∈el.take t))))->wz.cell? ⟨g17,0,none⟩=some (.int .i64 (sub af.length x (fun q=>(decide (q<j)&&dM aj af i q)||(decide (q=j)&&decide (u∈el.take t)))).num)/\wz.cell? ⟨g17,1,none⟩=some (.int .i64 ((sub af.length x (fun q=>(decide (q<j)&&dM aj af i q)||(decide (q=j)&&decide (u∈el.take t)))).den:Int))/\wz.cell? ⟨g6,3,none⟩=some (.slice (some uW) af.length f3)/\wz.cell? (uW.add (j*2))=some (.int .i64 (x j).num)/\wz.cell? ⟨(uW.add (j*2)).block,(uW.add (j*2)).off+1,none⟩=some (.int .i64 ((x j).den:Int))):=⟨fun wz hb hn=>by
              obtain ⟨ad6,e6,q0,q1⟩:=wC (Ir.out.past hb) nV.out
              cases e6
              exact ⟨(ag hn 0).trans rfl,(ag hn 1).trans rfl,(ag (ah Nc.out hb) 3).trans rfl,q0,q1⟩⟩
             go_wp2
             refine eG (n:=8) (S:=fun w'=>w'.cell? ⟨g17,0,none⟩=some (.int .i64 (sub af.length x (fun q=>(decide (q<j)&&dM aj af i q)||(decide (q=j)&&decide (u∈el.take t)))).num)/\w'.cell? ⟨g17,1,none⟩=some (.int .i64 ((sub af.length x (fun q=>(decide (q<j)&&dM aj af i q)||(decide (q=j)&&decide (u∈el.take t)))).den:Int))/\w'.cell? ⟨g6,3,none⟩=some (.slice (some uW) af.length f3)/\w'.cell? (uW.add (j*2))=some (.int .i64 (x j).num)/\w'.cell? ⟨(uW.add (j*2)).block,(uW.add (j*2)).off+1,none⟩=some (.int .i64 ((x j).den:Int))) (ds:=[7]) #[false,false,false,false,false,false,false,false] (by kernel_rfl) rfl rfl (Jt.out _ (bn pN.out) (ak uV.out)) (fun hHeld=>?_)
             refine cE (i:=0) (N:=some 150) (v:=?_) (a':=?_) #[true,false,false,false,false,false,false,false] rfl rfl (by kernel_rfl) (fun _ _ _ h=>h) (Or.inl ⟨by rfl,?_⟩) hHeld ?_ ?_
             rotate_left
             ·rintro w' ⟨s0,s1,s2,s3,s4⟩
              go_simp
              with_reducible rfl
             rotate_left
             ·exact dx
             refine aI (i:=1) (N:=some 151) ?_
             refine cE (i:=2) (N:=some 152) (v:=?_) (a':=?_) #[true,true,true,false,false,false,false,false] rfl rfl (by kernel_rfl) (fun _ _ _ h=>h) (Or.inl ⟨by rfl,?_⟩) hHeld ?_ ?_
             rotate_left
             ·rintro w' ⟨s0,s1,s2,s3,s4⟩
              go_simp
              with_reducible rfl
             rotate_left
             ·exact dx
             refine aI (i:=3) (N:=some 153) ?_
             refine aI (i:=4) (N:=some 154) ?_
             refine cE (i:=5) (N:=some 155) (v:=?_) (a':=?_) #[true,true,true,true,true,true,false,false] rfl rfl (by kernel_rfl) (fun _ _ _ h=>h) (Or.inl ⟨by rfl,?_⟩) hHeld ?_ ?_
             rotate_left
             ·rintro w' ⟨s0,s1,s2,s3,s4⟩
              go_simp
              with_reducible rfl
             rotate_left
             ·exact dx
             refine fK (i:=6) (N:=some 156) #[true,true,true,true,true,true,true,false] rfl rfl (by kernel_rfl) (by decide) (fun K hK=>?_)
             refine pY 20 #[V (sub af.length x (fun q=>(decide (q<j)&&dM aj af i q)||(decide (q=j)&&decide (u∈el.take t)))),V (x j)] (by rfl) rfl ?_ ?_
             ·go_simp
             refine (HA.out _).mono ?_
             rintro e v1 ⟨rfl,lR⟩
             have Im:=Aside0.mk (ai (bn pN.out) lR)
             have vJ:=Aside0.mk (ah (ak uV.out) lR)
             clear lR
             refine ⟨_,rfl,?_⟩
             refine hK.out _ _ (Jt.out _ Im.out vJ.out) (fun hHeld=>?_)
             clear hK K
             refine eP (a':=?_) ?_ ?_
             rotate_left
             ·show Act.put _ (some 156) _=_
              simp only [Act.put,List.setIfInBounds_toArray,List.set_cons_zero,List.set_cons_succ,cZ,eo]
              rfl
             have hn0:=(ag vJ.out 0).trans rfl
             have PE:=(ag vJ.out 1).trans rfl
             have Zw:=aa vJ.out 0
             have mV:=aa vJ.out 1
             refine nu (i:=7) (N:=none) #[true,true,true,true,true,true,true,true] rfl rfl (by kernel_rfl) (by decide) (fun K hK=>?_)
             refine ku (w1:=?_) (by rfl) rfl ?_ ?_
             rotate_left
             ·go_simp
              rfl
             refine hK.out _ _ ?_
             clear hK K
             refine fl (by kernel_rfl) ?_
             go_wp2
             go_roundw
             case rel=>exact ⟨t+1,by first|(rw [Rb.out];done)|rfl|(simp;done),Js.out,⟨Ef vJ.out⟩,⟨br (br Im.out Zx.out) Zx.out⟩⟩
             case measure=>(try rw [Rb.out]);have:=Js.out;simp [intOf];omega
            ·have gz:(u==v)=false:=by simp [huv]
             have gzd:decide (u=v)=false:=decide_eq_false huv
             have CZ:sub af.length x (fun q=>(decide (q<j)&&dM aj af i q)||(decide (q=j)&&decide (v∈el.take (t+1))))=sub af.length x (fun q=>(decide (q<j)&&dM aj af i q)||(decide (q=j)&&decide (v∈el.take t))):=sub_congr (fun q _=>by rw [xw.out];simp [Ne.symm huv])
             rw [<-CZ] at uV
             clear sO ht CZ
             go_wp2
             go_roundw
             case rel=>exact ⟨t+1,by first|(rw [Rb.out];done)|rfl|(simp;done),Js.out,uV,pN⟩
             case measure=>(try rw [Rb.out]);have:=Js.out;simp [intOf];omega
           ·have e:t=el.length:=by omega
            subst e
            have kd:decide ((el.length:Int)<(el.length:Int))=false:=decide_eq_false (by omega)
            have kn:decide (el.length<el.length)=false:=decide_eq_false (Nat.lt_irrefl _)
            have CZ:sub af.length x (fun q=>decide (q<j+1)&&dM aj af i q)=sub af.length x (fun q=>(decide (q<j)&&dM aj af i q)||(decide (q=j)&&decide (v∈el.take el.length))):=sub_congr (fun q _=>by
             rw [List.take_length]
             by_cases hq:q=j
             ·subst hq;simp [HPj.out]
             ·have e1:decide (q<j+1)=decide (q<j):=decide_eq_decide.2 (by omega)
              rw [e1];simp [hq])
            rw [<-CZ] at uV
            clear sO ht CZ
            go_wp2
            go_roundw
            case rel=>exact ⟨j+1,by first|(rw [kC.out];done)|rfl|(simp;done),nV.out,uV,pN⟩
            case measure=>(try rw [kC.out]);have:=nV.out;simp [intOf];omega
         ·have e:j=af.length:=by omega
          subst e
          have gd:decide ((af.length:Int)<(af.length:Int))=false:=decide_eq_false (by omega)
          have gn:decide (af.length<af.length)=false:=decide_eq_false (Nat.lt_irrefl _)
          have hrow:1<=sub af.length x (fun q=>decide (q<af.length)&&dM aj af i q):=by rw [sub_congr (q:=fun q=>dM aj af i q) (fun q hq=>by simp [hq])];exact HF.out.row i gp.out
          clear od hj
          have hok:=Jp (fun q=>decide (q<af.length)&&dM aj af i q) HF.out.hn HF.out.cx
          obtain ⟨s,hs⟩:∃s,s=sub af.length x (fun q=>decide (q<af.length)&&dM aj af i q):=⟨_,rfl⟩
          rw [<-hs] at uU hok hrow
          have HC:=Aside0.mk (a5g hok)
          obtain ⟨z,hz⟩:∃z,z=qD s 1:=⟨_,rfl⟩
          have hzz:=b1K hrow
          rw [<-hz] at HC hzz
          have hs0:=(ag uU.out 0).trans rfl
          have hs1:=(ag uU.out 1).trans rfl
          have sk:=(ag (ah Zv.out nW.out) 0).trans rfl
          have uo:=(ag (ah Zv.out nW.out) 1).trans rfl
          clear hz hs hok hrow
          rcases hzz with rfl|rfl
          ·go_wp2_with (first|(go_at_call 19;go_loud ((with_reducible refine (HC.out _).mono ?_);rintro e v1 ⟨rfl,lR⟩;have Ex:=Aside0.mk (ai nW.out lR);clear lR HC)))
           go_roundw
           case rel=>exact ⟨i+1,by first|(rw [fy.out];done)|rfl|(simp;done),gp.out,Ex⟩
           case measure=>(try rw [fy.out]);have:=gp.out;simp [intOf];omega
          ·go_wp2_with (first|(go_at_call 19;go_loud ((with_reducible refine (HC.out _).mono ?_);rintro e v1 ⟨rfl,lR⟩;have Ex:=Aside0.mk (ai nW.out lR);clear lR HC)))
           go_roundw
           case rel=>exact ⟨i+1,by first|(rw [fy.out];done)|rfl|(simp;done),gp.out,Ex⟩
           case measure=>(try rw [fy.out]);have:=gp.out;simp [intOf];omega
       ·have e:i=aj.length:=by omega
        subst e
        have gd:decide ((aj.length:Int)<(aj.length:Int))=false:=decide_eq_false (by omega)
        have gn:decide (aj.length<aj.length)=false:=decide_eq_false (Nat.lt_irrefl _)
        clear hlt hi
        go_wp2
        clear gd gn
        have CX:=bL
        clear bL
        generalize wr=rQ at*
        go_loopw [171] (fun jv wr=>∃j:Nat,jv= .int .i64 (j:Int)/\j<=af.length/\Aside0 (Below w6.heap.size w6 wr)) (fun jv _=>af.length -(intOf jv).toNat)
        case atStart=>exact ⟨0,rfl,Nat.zero_le _,CX⟩
        case round=>
         clear CX
         obtain ⟨j,rfl,hj,bL⟩:=hrel
         by_cases od:j<af.length
         ·have nV:=Aside0.mk od
          obtain ⟨IC,A2,c2,e,hy,Tb,MQ⟩:=zJ Zu.out.2 j od
          cases e
          have MP:=Aside0.mk (HS.out.2.2 _ (List.getElem_mem od))
          have Tc:Aside0 (af.getD j []=af[j]):=⟨by simp [List.getD_eq_getElem?_getD,od]⟩
          have HNd:=Aside0.mk (HF.out.ne _ (List.getElem_mem od))
          have EE:wr.cell? (IC.add j)=some (.slice A2 (af[j]).length c2):=(bL.out.cell (World.block_lt_of_cell? w6 _ hy)).trans hy
          have HCy:=Aside0.mk MQ
          have HPj:Aside0 (∀q,dM aj af q j=decide (aj.getD q 0∈af[j])):=⟨fun q=>by unfold dM;rw [Tc.out]⟩
          clear hy Tb MQ
          generalize af[j]=el at*
          have g0:(0:Int)<=(j:Int):=by omega
          have g1:(j:Int)<(af.length:Int):=by omega
          have gd:decide ((j:Int)<(af.length:Int))=true:=decide_eq_true g1
          have gn:decide (j<af.length)=true:=decide_eq_true od
          have kC:Aside0 (wrap64 ((j:Int)+1)=((j+1:Nat):Int)):=⟨eD (by have:=HF.out.hn;omega)⟩
          have Bb:=(ag (ah xx.out bL.out) 0).trans rfl
          have Bc:=(ag (ah xx.out bL.out) 1).trans rfl
          have xu:g7<wr.heap.size:=aY (ah xx.out bL.out)
          clear od hj
          go_wp2
          clear EE g0 g1 gd gn
          have nW:=Aside0.mk (aK bL.out (.cells #[.int .i64 0,.int .i64 1] 26))
          have uU:=Aside0.mk (NS (bW wr (.cells #[.int .i64 0,.int .i64 1] 26 (0,0))))
          have Zx:Aside0 (w6.heap.size<=wr.heap.size):=⟨bL.out.size⟩
          clear Bb Bc xu bL
          generalize (wr.alloc (.cells #[.int .i64 0,.int .i64 1] 26))=w25 at*
          generalize wr.heap.size=Rc at*
          go_loopw [178] (fun tv wr=>∃t:Nat,tv= .int .i64 (t:Int)/\t<=el.length/\Aside0 (Num wr Rc (sub aj.length y (fun q=>decide (aj.getD q 0∈el.take t))))/\Aside0 (Below w6.heap.size w6 wr)) (fun tv _=>el.length -(intOf tv).toNat)
          case atStart=>exact ⟨0,rfl,Nat.zero_le _,⟨by rw [sub_congr (q:=fun _=>false) (fun q _=>by simp),Ba];exact uU.out⟩,nW⟩
          case round=>
           clear uU nW
           obtain ⟨t,rfl,ht,uU,nW⟩:=hrel
           by_cases sO:t<el.length
           ·have Js:=Aside0.mk sO
            obtain ⟨ad3,e,hu⟩:=Kd.fC HCy.out (t:Int) (by omega) (by omega)
            cases e
            rw [qa sO,Int.toNat_natCast] at hu
            have hu2:wr.cell? (ad3.add t)=some (.int .i64 el[t]):=(nW.out.cell (World.block_lt_of_cell? w6 _ hu)).trans hu
            have xw:Aside0 (el.take (t+1)=el.take t++[el[t]]):=⟨List.take_succ_eq_append_getElem sO⟩
            have HTn:Aside0 (el[t] ∉ el.take t):=⟨Jq HNd.out sO⟩
            clear hu
            generalize el[t]=u at*
            have k0:(0:Int)<=(t:Int):=by omega
            have k1:(t:Int)<(el.length:Int):=by omega
            have kd:decide ((t:Int)<(el.length:Int))=true:=decide_eq_true k1
            have kn:decide (t<el.length)=true:=decide_eq_true sO
            have Rb:Aside0 (wrap64 ((t:Int)+1)=((t+1:Nat):Int)):=⟨eD (by have:=MP.out;have:=Js.out;omega)⟩
            clear sO ht
            go_wp2
            clear hu2 k0 k1 kd kn
            go_loopw [184] (fun iv wr=>∃i:Nat,iv= .int .i64 (i:Int)/\i<=aj.length/\Aside0 (Num wr Rc (sub aj.length y (fun q=>decide (aj.getD q 0∈el.take t)||(decide (q<i)&&decide (u=aj.getD q 0)))))/\Aside0 (Below w6.heap.size w6 wr)) (fun iv _=>aj.length -(intOf iv).toNat)
            case atStart=>exact ⟨0,rfl,Nat.zero_le _,⟨by rw [sub_congr (q:=(fun q=>decide (aj.getD q 0∈el.take t))) (fun q _=>by simp)];exact uU.out⟩,nW⟩
            case round=>
             clear uU nW
             obtain ⟨i,rfl,hi,uV,pN⟩:=hrel
             by_cases hib:i<aj.length
             ·have Nf:=Aside0.mk hib
              obtain ⟨ad,e,hx⟩:=Kd.fC Zt.out.2 (i:Int) (by omega) (by omega)
              cases e
              have hrd:rd aj (i:Int)=aj.getD i 0:=rfl
              rw [hrd,Int.toNat_natCast] at hx
              obtain ⟨v,hv⟩:∃v,v=aj.getD i 0:=⟨_,rfl⟩
              rw [<-hv] at hx
              have IP:Aside0 (aj.getD i 0=v):=⟨hv.symm⟩
              have hx2:wr.cell? (ad.add i)=some (.int .i64 v):=(pN.out.cell (World.block_lt_of_cell? w6 _ hx)).trans hx
              have g0:(0:Int)<=(i:Int):=by omega
              have g1:(i:Int)<(aj.length:Int):=by omega
              have gd:decide ((i:Int)<(aj.length:Int))=true:=decide_eq_true g1
              have gn:decide (i<aj.length)=true:=decide_eq_true hib
              have fy:Aside0 (wrap64 ((i:Int)+1)=((i+1:Nat):Int)):=⟨eD (by have:=HF.out.hb;omega)⟩
              clear hx hv hrd
              by_cases huv:u=v
              ·subst huv
               have gz:(u==u)=true:=by simp
               have gzd:decide (u=u)=true:=decide_eq_true rfl
               clear hib hi
               obtain ⟨uW,e5,hx0,hx1⟩:=wC (TN.out.past pN.out) Nf.out
               cases e5
               have hs0:=(ag uV.out 0).trans rfl
               have hs1:=(ag uV.out 1).trans rfl
               have hs2:=(ag (ah Nc.out pN.out) 4).trans rfl
               have HA:=Aside0.mk (Ee (p:=(fun q=>decide (aj.getD q 0∈el.take t)||(decide (q<i)&&decide (u=aj.getD q 0)))) (q:=(fun q=>decide (aj.getD q 0∈el.take t)||(decide (q<(i+1))&&decide (u=aj.getD q 0)))) (by have:=HF.out.hb;omega) HF.out.cy Nf.out (Gs Nf.out (by rw [IP.out];simp [HTn.out]) (by rw [IP.out];simp) (fun q _ hq=>by have e1:decide (q<i+1)=decide (q<i):=decide_eq_decide.2 (by omega);rw [e1])))
               have Jt:Aside0 (∀wz,Below w6.heap.size w6 wz->Num wz Rc (sub aj.length y (fun q=>decide (aj.getD q 0∈el.take t)||(decide (q<i)&&decide (u=aj.getD q 0))))->wz.cell? ⟨Rc,0,none⟩=some (.int .i64 (sub aj.length y (fun q=>decide (aj.getD q 0∈el.take t)||(decide (q<i)&&decide (u=aj.getD q 0)))).num)/\wz.cell? ⟨Rc,1,none⟩=some (.int .i64 ((sub aj.length y (fun q=>decide (aj.getD q 0∈el.take t)||(decide (q<i)&&decide (u=aj.getD q 0)))).den:Int))/\wz.cell? ⟨g6,4,none⟩=some (.slice (some uW) aj.length f4)/\wz.cell? (uW.add (i*2))=some (.int .i64 (y i).num)/\wz.cell? ⟨(uW.add (i*2)).block,(uW.add (i*2)).off+1,none⟩=some (.int .i64 ((y i).den:Int))):=⟨fun wz hb hn=>by
                obtain ⟨ad6,e6,q0,q1⟩:=wC (TN.out.past hb) Nf.out
                cases e6
                exact ⟨(ag hn 0).trans rfl,(ag hn 1).trans rfl,(ag (ah Nc.out hb) 4).trans rfl,q0,q1⟩⟩
               go_wp2
               refine eG (n:=8) (S:=fun w'=>w'.cell? ⟨Rc,0,none⟩=some (.int .i64 (sub aj.length y (fun q=>decide (aj.getD q 0∈el.take t)||(decide (q<i)&&decide (u=aj.getD q 0)))).num)/\w'.cell? ⟨Rc,1,none⟩=some (.int .i64 ((sub aj.length y (fun q=>decide (aj.getD q 0∈el.take t)||(decide (q<i)&&decide (u=aj.getD q 0)))).den:Int))/\w'.cell? ⟨g6,4,none⟩=some (.slice (some uW) aj.length f4)/\w'.cell? (uW.add (i*2))=some (.int .i64 (y i).num)/\w'.cell? ⟨(uW.add (i*2)).block,(uW.add (i*2)).off+1,none⟩=some (.int .i64 ((y i).den:Int))) (ds:=[7]) #[false,false,false,false,false,false,false,false] (by kernel_rfl) rfl rfl (Jt.out _ (bn pN.out) (ak uV.out)) (fun hHeld=>?_)
               refine cE (i:=0) (N:=some 192) (v:=?_) (a':=?_) #[true,false,false,false,false,false,false,false] rfl rfl (by kernel_rfl) (fun _ _ _ h=>h) (Or.inl ⟨by rfl,?_⟩) hHeld ?_ ?_
               rotate_left
               ·rintro w' ⟨s0,s1,s2,s3,s4⟩
                go_simp
                with_reducible rfl
               rotate_left
               ·exact dx
               refine aI (i:=1) (N:=some 193) ?_
               refine cE (i:=2) (N:=some 194) (v:=?_) (a':=?_) #[true,true,true,false,false,false,false,false] rfl rfl (by kernel_rfl) (fun _ _ _ h=>h) (Or.inl ⟨by rfl,?_⟩) hHeld ?_ ?_
               rotate_left
               ·rintro w' ⟨s0,s1,s2,s3,s4⟩
                go_simp
                with_reducible rfl
               rotate_left
               ·exact dx
               refine aI (i:=3) (N:=some 195) ?_
               refine aI (i:=4) (N:=some 196) ?_
               refine cE (i:=5) (N:=some 197) (v:=?_) (a':=?_) #[true,true,true,true,true,true,false,false] rfl rfl (by kernel_rfl) (fun _ _ _ h=>h) (Or.inl ⟨by rfl,?_⟩) hHeld ?_ ?_
               rotate_left
               ·rintro w' ⟨s0,s1,s2,s3,s4⟩
                go_simp
                with_reducible rfl
               rotate_left
               ·exact dx
               refine fK (i:=6) (N:=some 198) #[true,true,true,true,true,true,true,false] rfl rfl (by kernel_rfl) (by decide) (fun K hK=>?_)
               refine pY 20 #[V (sub aj.length y (fun q=>decide (aj.getD q 0∈el.take t)||(decide (q<i)&&decide (u=aj.getD q 0)))),V (y i)] (by rfl) rfl ?_ ?_
               ·go_simp
               refine (HA.out _).mono ?_
               rintro e v1 ⟨rfl,lR⟩
               have Im:=Aside0.mk (ai (bn pN.out) lR)
               have vJ:=Aside0.mk (ah (ak uV.out) lR)
               clear lR
               refine ⟨_,rfl,?_⟩
               refine hK.out _ _ (Jt.out _ Im.out vJ.out) (fun hHeld=>?_)
               clear hK K
               refine eP (a':=?_) ?_ ?_
               rotate_left
               ·show Act.put _ (some 198) _=_
                simp only [Act.put,List.setIfInBounds_toArray,List.set_cons_zero,List.set_cons_succ,cZ,eo]
                rfl
               have hn0:=(ag vJ.out 0).trans rfl
               have PE:=(ag vJ.out 1).trans rfl
               have Zw:=aa vJ.out 0
               have mV:=aa vJ.out 1
               refine nu (i:=7) (N:=none) #[true,true,true,true,true,true,true,true] rfl rfl (by kernel_rfl) (by decide) (fun K hK=>?_)
               refine ku (w1:=?_) (by rfl) rfl ?_ ?_
               rotate_left
               ·go_simp
                rfl
               refine hK.out _ _ ?_
               clear hK K
               refine fl (by kernel_rfl) ?_
               go_wp2
               go_roundw
               case rel=>exact ⟨i+1,by first|(rw [fy.out];done)|rfl|(simp;done),Nf.out,⟨Ef vJ.out⟩,⟨br (br Im.out Zx.out) Zx.out⟩⟩
               case measure=>(try rw [fy.out]);have:=Nf.out;simp [intOf];omega
              ·have gz:(u==v)=false:=by simp [huv]
               have gzd:decide (u=v)=false:=decide_eq_false huv
               have CZ:sub aj.length y (fun q=>decide (aj.getD q 0∈el.take t)||(decide (q<(i+1))&&decide (u=aj.getD q 0)))=sub aj.length y (fun q=>decide (aj.getD q 0∈el.take t)||(decide (q<i)&&decide (u=aj.getD q 0))):=sub_congr (fun q _=>by
                by_cases hq:q=i
                ·subst hq;rw [IP.out];simp [huv]
                ·have e1:decide (q<i+1)=decide (q<i):=decide_eq_decide.2 (by omega)
                 rw [e1])
               rw [<-CZ] at uV
               clear hib hi CZ
               go_wp2
               go_roundw
               case rel=>exact ⟨i+1,by first|(rw [fy.out];done)|rfl|(simp;done),Nf.out,uV,pN⟩
               case measure=>(try rw [fy.out]);have:=Nf.out;simp [intOf];omega
             ·have e:i=aj.length:=by omega
              subst e
              have gd:decide ((aj.length:Int)<(aj.length:Int))=false:=decide_eq_false (by omega)
              have gn:decide (aj.length<aj.length)=false:=decide_eq_false (Nat.lt_irrefl _)
              have CZ:sub aj.length y (fun q=>decide (aj.getD q 0∈el.take (t+1)))=sub aj.length y (fun q=>decide (aj.getD q 0∈el.take t)||(decide (q<aj.length)&&decide (u=aj.getD q 0))):=sub_congr (fun q hq=>by
               rw [xw.out]
               simp [hq,eq_comm])
              rw [<-CZ] at uV
              clear hib hi CZ
              go_wp2
              go_roundw
              case rel=>exact ⟨t+1,by first|(rw [Rb.out];done)|rfl|(simp;done),Js.out,uV,pN⟩
              case measure=>(try rw [Rb.out]);have:=Js.out;simp [intOf];omega
           ·have e:t=el.length:=by omega
            subst e
            have kd:decide ((el.length:Int)<(el.length:Int))=false:=decide_eq_false (by omega)
            have kn:decide (el.length<el.length)=false:=decide_eq_false (Nat.lt_irrefl _)
            have hrow:sub aj.length y (fun q=>decide (aj.getD q 0∈el.take el.length))<=1:=by rw [sub_congr (q:=fun q=>dM aj af q j) (fun q hq=>by rw [HPj.out,List.take_length])];exact HF.out.col j nV.out
            clear sO ht
            have hok:=Jp (fun q=>decide (aj.getD q 0∈el.take el.length)) (by have:=HF.out.hb;omega) HF.out.cy
            obtain ⟨s,hs⟩:∃s,s=sub aj.length y (fun q=>decide (aj.getD q 0∈el.take el.length)):=⟨_,rfl⟩
            rw [<-hs] at uU hok hrow
            have HC:=Aside0.mk (a5g hok)
            obtain ⟨z,hz⟩:∃z,z=qD s 1:=⟨_,rfl⟩
            have hzz:=b1L hrow
            rw [<-hz] at HC hzz
            have hs0:=(ag uU.out 0).trans rfl
            have hs1:=(ag uU.out 1).trans rfl
            have sk:=(ag (ah Zv.out nW.out) 0).trans rfl
            have uo:=(ag (ah Zv.out nW.out) 1).trans rfl
            clear hz hs hok hrow
            rcases hzz with rfl|rfl
            ·go_wp2_with (first|(go_at_call 19;go_loud ((with_reducible refine (HC.out _).mono ?_);rintro e v1 ⟨rfl,lR⟩;have Ex:=Aside0.mk (ai nW.out lR);clear lR HC)))
             go_roundw
             case rel=>exact ⟨j+1,by first|(rw [kC.out];done)|rfl|(simp;done),nV.out,Ex⟩
             case measure=>(try rw [kC.out]);have:=nV.out;simp [intOf];omega
            ·go_wp2_with (first|(go_at_call 19;go_loud ((with_reducible refine (HC.out _).mono ?_);rintro e v1 ⟨rfl,lR⟩;have Ex:=Aside0.mk (ai nW.out lR);clear lR HC)))
             go_roundw
             case rel=>exact ⟨j+1,by first|(rw [kC.out];done)|rfl|(simp;done),nV.out,Ex⟩
             case measure=>(try rw [kC.out]);have:=nV.out;simp [intOf];omega
         ·have e:j=af.length:=by omega
          subst e
          have gd:decide ((af.length:Int)<(af.length:Int))=false:=decide_eq_false (by omega)
          have gn:decide (af.length<af.length)=false:=decide_eq_false (Nat.lt_irrefl _)
          clear od hj
          go_wp2
          go_ret
          exact ⟨rfl,ai pN.out bL.out⟩
end Go.Proofs.Ytnhknojfpjheoaa.PT
