/-
  Part 12 of the proof of this: The law FnCover answers true at every argument.
-/
import Derived.Test.YtnhknojfpjheoaaKCover2
import Derived.Test.YtnhknojfpjheoaaKCover3
import Derived.Test.YtnhknojfpjheoaaKCover8
import Derived.Test.YtnhknojfpjheoaaKCover9
import Derived.Test.YtnhknojfpjheoaaKCover11
namespace Go.Proofs.Ytnhknojfpjheoaa.PT
open Go.RowKit Go.Proofs.Ytnhknojfpjheoaa.P Go.Proofs.YtnhknojfpjheoaaW.PrintWords Go.Proofs.YtnhknojfpjheoaaW.PrintLast Go.Proofs.Ytnhknojfpjheoaa.EvKit Go.Proofs.Ytnhknojfpjheoaa.Num Go.Proofs.Ytnhknojfpjheoaa.Lp
set_option linter.all false
theorem Tj (l:List Int) (x:Int) (hl:l.length<=1048576):Ev (fun k=>bH.f k l x) (decide (x∈l)):=by
 unfold bH.f
 have:=Ev.loop (g:=fun k i=>bH.l0 k x l (l.length:Int) (i:Int)) (n:=l.length) (R:=fun i=>decide (x∈l.drop i)) ?_ ?_ 0 (Nat.zero_le _)
 ·simpa using this
 ·refine Ev.succ ?_
  simp only [bH.l0]
  exact Ev.neg (by omega) (by simpa using Ev.now _)
 ·intro i hi ih
  refine Ev.succ ?_
  simp only [bH.l0,qa hi,eD (show i<=9223372036854775806 by omega)]
  refine Ev.pos (by omega) (Ev.pos (by omega) (Ev.pos (by omega) ?_))
  have e:decide (x∈l.drop i)=(decide (x=l[i])||decide (x∈l.drop (i+1))):=by
   rw [yK hi];simp only [List.mem_cons,Bool.decide_or]
  show Ev _ (decide (x∈l.drop i))
  rw [e]
  by_cases h:x=l[i]
  ·refine Ev.pos h (Ev.to (Ev.now _) ?_)
   rw [decide_eq_true h];rfl
  ·refine Ev.neg h (Ev.to ih ?_)
   rw [decide_eq_false h];rfl
def dM (aj:List Int) (af:List (List Int)) (i j:Nat):Bool:=decide (aj.getD i 0∈af.getD j [])
def je (aj:List Int) (af:List (List Int)) (i j:Nat):Bool:=dM aj af j i
def kA (aj:List Int) (af:List (List Int)) (i:Nat):Bool:= !(places (je aj af i) aj.length).isEmpty
section
variable {aj:List Int} {af:List (List Int)}
theorem Gj {l:List (List Int)} {i:Nat} (h:i<l.length):eu l (i:Int)=l.getD i []:=by
 show l.getD (i:Int).toNat _=_
 rw [Int.toNat_natCast]
theorem AR {l:List Int} {i:Nat} (h:i<l.length):l[i]=l.getD i 0:=by simp [List.getD_eq_getElem?_getD,h]
end
def nx (aj:List Int) (af:List (List Int)):Bool:=jY (-1) aj&&decide (af.length<=7)&&af.all (jY (-1))
theorem Zb {n:Nat} {x y:Nat->Rat} (h:LQ n x=LQ n y):∀j,j<n->x j=y j:=fun j hj=>by
 have h1:=AJ x hj
 rw [h,AJ y hj] at h1
 have e1:(y j).num=(x j).num:=congrArg bV.f0 h1
 have e2:((y j).den:Int)=((x j).den:Int):=congrArg bV.f1 h1
 exact Rat.ext e1.symm (by omega)
abbrev AU (aj:List Int) (af:List (List Int)):Nat->Nat->Rat:=fun i j=>((((yw aj af).getD i []).getD j 0:Int):Rat)
abbrev AV (aj:List Int) (af:List (List Int)):Nat->Nat->Rat:=fun i j=>((((uj aj af).getD i []).getD j 0:Int):Rat)
abbrev AW (aj:List Int) (af:List (List Int)) (T:bw):Prop:=vv af.length aj.length (AU aj af) T/\∀r,r<aj.length->¬T.cell r (af.length+aj.length)<0
abbrev AX (aj:List Int) (af:List (List Int)) (T:bw):Prop:=yo aj.length af.length (AV aj af) T/\∀c,c<aj.length+af.length->¬eW (aj.length+1) (T.cost af.length c)
def xC (aj:List Int) (af:List (List Int)) (T:bw):Nat->Rat:=T.X aj.length (af.length+aj.length)
def xP (aj:List Int) (af:List (List Int)) (T:bw):Nat->Rat:=T.X af.length (aj.length+af.length)
section
variable {aj:List Int} {af:List (List Int)}
theorem getD_map' {α:Type} {f:α->Int} {l:List α} {i:Nat} {a:α} (h:i<l.length):(l.map f).getD i 0=f (l.getD i a):=by
 simp [List.getD_eq_getElem?_getD,h]
theorem MU {α:Type} {f:α->List Int} {l:List α} {i:Nat} {a:α} (h:i<l.length):(l.map f).getD i []=f (l.getD i a):=by
 simp [List.getD_eq_getElem?_getD,h]
theorem a6X {i j:Nat} (hi:i<aj.length) (hj:j<af.length):((yw aj af).getD i []).getD j 0= - ind (af.getD j []) (aj.getD i 0):=by
 unfold yw
 rw [MU (a:=(0:Int)) hi,getD_map' (a:=([]:List Int)) hj]
theorem a2g {i j:Nat} (hi:i<af.length) (hj:j<aj.length):((uj aj af).getD i []).getD j 0=ind (af.getD i []) (aj.getD j 0):=by
 unfold uj
 rw [MU (a:=([]:List Int)) hi,getD_map' (a:=(0:Int)) hj]
theorem Tk {i j:Nat}:ind (af.getD j []) (aj.getD i 0)=if dM aj af i j=true then 1 else 0:=by
 unfold ind dM
 by_cases h:aj.getD i 0∈af.getD j []
 ·rw [if_pos h,decide_eq_true h,if_pos rfl]
 ·rw [if_neg h,decide_eq_false h,if_neg (by decide)]
theorem DW {i j:Nat} (hi:i<aj.length) (hj:j<af.length):AU aj af i j=if dM aj af i j=true then -1 else 0:=by
 unfold AU
 rw [a6X hi hj,Tk]
 by_cases h:dM aj af i j=true
 ·rw [if_pos h,if_pos h];rfl
 ·rw [if_neg h,if_neg h];rfl
theorem DX {i j:Nat} (hi:i<af.length) (hj:j<aj.length):AV aj af i j=if je aj af i j=true then 1 else 0:=by
 unfold AV
 rw [a2g hi hj,Tk]
 by_cases h:dM aj af j i=true
 ·rw [if_pos h,if_pos (show je aj af i j=true from h)];rfl
 ·rw [if_neg h,if_neg (show ¬je aj af i j=true from h)];rfl
theorem DY:∀i j,i<aj.length->j<af.length->AU aj af i j=0∨AU aj af i j= -1:=fun i j hi hj=>by
 rw [DW hi hj];split
 ·exact .inr rfl
 ·exact .inl rfl
theorem DZ:∀i j,i<af.length->j<aj.length->AV aj af i j=0∨AV aj af i j=1:=fun i j hi hj=>by
 rw [DX hi hj];split
 ·exact .inr rfl
 ·exact .inl rfl
theorem b0V:Fits (dM aj af) af.length aj.length false (fun _=>true) (AU aj af) (fun _=>((-1:Int):Rat)):=
 ⟨fun i j hi hj=>by
  rw [DW hi hj]
  have e:zI false= -1:=rfl
  rw [e];split<;>grind,fun i hi=>rfl,fun i hi h=>absurd h (by decide)⟩
theorem b0W:Fits (je aj af) aj.length af.length true (kA aj af) (AV aj af) (fun _=>((1:Int):Rat)):=
 ⟨fun i j hi hj=>by
  rw [DX hi hj]
  have e:zI true=1:=rfl
  rw [e];split<;>grind,fun i hi=>rfl,fun i hi h=>⟨rfl,fun j hj=>by
   unfold kA at h
   rw [Bool.not_eq_false'] at h
   have h0:=List.isEmpty_iff.1 h
   cases hp:je aj af i j with
   |false=>rfl
   |true=>
    have:=(xX (p:=je aj af i) hj).2 hp
    rw [h0] at this
    exact absurd this (by simp)⟩⟩
theorem MV {p:Nat->Bool} {N:Nat}:(!(places p N).isEmpty)=true↔∃j,j<N/\p j=true:=by
 rw [Bool.not_eq_true',<-Bool.not_eq_true,List.isEmpty_iff]
 constructor
 ·intro h
  cases hp:places p N with
  |nil=>exact absurd hp h
  |cons a l=>
   have:a∈places p N:=by rw [hp];exact List.mem_cons_self
   obtain ⟨j,h1,h2,_⟩:=AK.1 this
   exact ⟨j,h1,h2⟩
 ·rintro ⟨j,h1,h2⟩ hn
  have:=(xX h1).2 h2
  rw [hn] at this
  exact absurd this (by simp)
theorem IV (h:nU aj af=true) {i:Nat} (hi:i<aj.length):∃j,j<af.length/\dM aj af i j=true:=by
 unfold nU at h
 have h1:=List.all_eq_true.1 h _ (List.getElem_mem hi)
 obtain ⟨e,he,hm⟩:=List.any_eq_true.1 h1
 obtain ⟨j,hj,rfl⟩:=List.getElem_of_mem he
 refine ⟨j,hj,?_⟩
 unfold dM
 rw [<-AR hi]
 have:af.getD j []=af[j]:=by simp [List.getD_eq_getElem?_getD,hj]
 rw [this];exact hm
theorem a6Y (h:nU aj af=true):∀i,i<aj.length->∃j,j<af.length/\AU aj af i j= -1:=fun i hi=>by
 obtain ⟨j,hj,hp⟩:=IV h hi
 exact ⟨j,hj,by rw [DW hi hj,if_pos hp]⟩
theorem Ea (h:nU aj af=true):∀j,j<aj.length->∃i,i<af.length/\AV aj af i j=1:=fun j hj=>by
 obtain ⟨i,hi,hp⟩:=IV h hj
 exact ⟨i,hi,by rw [DX hi hj,if_pos (show je aj af i j=true from hp)]⟩
def oC (aj:List Int) (af:List (List Int)):Option (Nat->Rat):=fP af.length (mB (dM aj af) af.length aj.length false (fun _=>true)) false (mB (dM aj af) af.length aj.length false (fun _=>true)).length [] none
def oP (aj:List Int) (af:List (List Int)):Option (Nat->Rat):=fP aj.length (mB (je aj af) aj.length af.length true (kA aj af)) true (mB (je aj af) aj.length af.length true (kA aj af)).length [] none
variable (hnb:aj.length<=6) (hne:af.length<=7)
include hnb hne
theorem VF {T:bw} (h:AW aj af T):qu af.length (oC aj af)=LQ af.length (xC aj af T):=
 ML b0V hne h.1.toValid (PS h.1 h.2)
theorem VG {T:bw} (h:AX aj af T):qu aj.length (oP aj af)=LQ aj.length (xP aj af T):=
 ML b0W (by omega) h.1.toValid (FU h.1 h.2)
theorem Tl {n:Nat} {o:Option (Nat->Rat)} {x:Nat->Rat} (hn:0<n) (h:qu n o=LQ n x):∃y,o=some y/\LQ n y=LQ n x:=by
 cases o with
 |none=>
  have:([]:List bV).length=(LQ n x).length:=congrArg List.length h
  rw [jw] at this
  simp at this;omega
 |some y=>exact ⟨y,rfl,h⟩
omit hnb hne in
theorem MW {n:Nat} {l:List cC} {most:Bool} {x:Nat->Rat} (h0:0<n) (h7:n<=7) (hl:l.length<=100) (hall:l.all (jN (n:Int))=true) (h:fP n l most l.length [] none=some x):Ev (fun k=>dI.f k (n:Int) l 0 [] [] most) (LQ n x):=by
 have e:∀k,dI.f k (n:Int) l 0 [] [] most=some (LQ n x):=fun k=>by
  show IU (n:Int) l 0 [] [] most=_
  unfold IU
  have hok:CM (n:Int) l 0 [] []=true:=by
   unfold CM
   simp only [Bool.and_eq_true,decide_eq_true_eq,List.isEmpty_iff]
   exact ⟨⟨⟨⟨⟨⟨trivial,trivial⟩,trivial⟩,by omega⟩,by omega⟩,hl⟩,hall⟩
  rw [if_pos hok,Int.toNat_natCast,h];rfl
 have:(fun k=>dI.f k (n:Int) l 0 [] [] most)=(fun _=>some (LQ n x)):=funext e
 rw [this];exact Ev.now _
end
theorem AY {aj:List Int} {af:List (List Int)} (h:nx aj af=true):aj.length<=6/\af.length<=7/\∀x,x∈af->x.length<=6:=by
 unfold nx at h
 simp only [Bool.and_eq_true,decide_eq_true_eq] at h
 exact ⟨OX h.1.1,h.1.2,fun x hx=>OX (List.all_eq_true.1 h.2 x hx)⟩
end Go.Proofs.Ytnhknojfpjheoaa.PT
