/-
  Part 10 of the proof of this: The law FnCover answers true at every argument.
-/
import Derived.Test.YtnhknojfpjheoaaKCover2
import Derived.Test.YtnhknojfpjheoaaKCover3
import Derived.Test.YtnhknojfpjheoaaKCover6
import Derived.Test.YtnhknojfpjheoaaKCover7
namespace Go.Proofs.Ytnhknojfpjheoaa.PT
open Go.RowKit Go.Proofs.Ytnhknojfpjheoaa.P Go.Proofs.YtnhknojfpjheoaaW.PrintWords Go.Proofs.YtnhknojfpjheoaaW.PrintLast Go.Proofs.Ytnhknojfpjheoaa.EvKit Go.Proofs.Ytnhknojfpjheoaa.Num Go.Proofs.Ytnhknojfpjheoaa.Lp
set_option linter.all false
abbrev BA:Kd (List Int):=Kd.slice 3 (Kd.int .i64)
theorem zJ {W:World} {A:Option Addr} {n:Nat} {xs:List (List Int)} (h:Kd.C BA W A n xs) (i:Nat) (hi:i<xs.length):
 ∃ad A1 c1,A=some ad/\W.cell? (ad.add i)=some (.slice A1 (xs[i]).length c1)/\(xs[i]).length<=c1/\Kd.C (Kd.int .i64) W A1 (xs[i]).length xs[i]:=by
 have hn:=h.1
 obtain ⟨ad,e,hc⟩:=h.2.2 (by omega)
 obtain ⟨c,hs,⟨A1,c1,rfl,hl,hC⟩,hcell⟩:=hc i _ (List.getElem?_eq_getElem hi)
 have:=hcell 0 _ rfl
 rw [show (BA).sz=1 from rfl,Nat.mul_one,Nat.add_zero] at this
 exact ⟨ad,A1,c1,e,this,hl,hC⟩
structure nk (cs:Array Value) (f:Nat->Nat->Int×Int) (fc:Nat->Int) (m N K:Nat):Prop where
 size:cs.size=531
 one:cs.all (·.oneCell')=true
 num:∀i j,i<16->j<16->cs[i*32+j*2]? =some (.int .i64 (f i j).1)
 den:∀i j,i<16->j<16->cs[i*32+j*2+1]? =some (.int .i64 (f i j).2)
 fc:∀r,r<16->cs[512+r]? =some (.int .i64 (fc r))
 rows:cs[528]? =some (.int .i64 (m:Int))
 ni:cs[529]? =some (.int .i64 (N:Int))
 costs:cs[530]? =some (.int .i64 (K:Int))
theorem nk.put {cs:Array Value} {f:Nat->Nat->Int×Int} {fc:Nat->Int} {m N K:Nat} (h:nk cs f fc m N K) {i j:Nat} (hi:i<16) (hj:j<16) (p:Int×Int):
 nk ((cs.setIfInBounds (i*32+j*2) (.int .i64 p.1)).setIfInBounds (i*32+j*2+1) (.int .i64 p.2)) (fun i' j'=>if i'=i/\j'=j then p else f i' j') fc m N K:=by
 have hs:=h.size
 have far:∀k,512<=k->((cs.setIfInBounds (i*32+j*2) (.int .i64 p.1)).setIfInBounds (i*32+j*2+1) (.int .i64 p.2))[k]? =cs[k]? :=by
  intro k hk
  rw [Array.getElem?_setIfInBounds_ne (by omega),Array.getElem?_setIfInBounds_ne (by omega)]
 refine ⟨by simp [hs],qj (qj h.one rfl) rfl,fun i' j' hi' hj'=>?_,fun i' j' hi' hj'=>?_,fun r hr=>?_,?_,?_,?_⟩
 ·by_cases e:i'=i/\j'=j
  ·obtain ⟨rfl,rfl⟩:=e
   rw [Array.getElem?_setIfInBounds_ne (by omega),Array.getElem?_setIfInBounds,if_pos rfl,if_pos (by omega),if_pos ⟨rfl,rfl⟩]
  ·rw [Array.getElem?_setIfInBounds_ne (by omega),Array.getElem?_setIfInBounds_ne (by omega),h.num i' j' hi' hj',if_neg e]
 ·by_cases e:i'=i/\j'=j
  ·obtain ⟨rfl,rfl⟩:=e
   rw [Array.getElem?_setIfInBounds,if_pos rfl,if_pos (by simp;omega),if_pos ⟨rfl,rfl⟩]
  ·rw [Array.getElem?_setIfInBounds_ne (by omega),Array.getElem?_setIfInBounds_ne (by omega),h.den i' j' hi' hj',if_neg e]
 ·rw [far _ (by omega)];exact h.fc r hr
 ·rw [far _ (by omega)];exact h.rows
 ·rw [far _ (by omega)];exact h.ni
 ·rw [far _ (by omega)];exact h.costs
theorem nk.b8c {cs:Array Value} {f:Nat->Nat->Int×Int} {fc:Nat->Int} {m N K:Nat} (h:nk cs f fc m N K) {i:Nat} (hi:i<16) (x:Int):
 nk (cs.setIfInBounds (512+i) (.int .i64 x)) f (fun r=>if r=i then x else fc r) m N K:=by
 have hs:=h.size
 refine ⟨by simp [hs],qj h.one rfl,fun i' j' hi' hj'=>?_,fun i' j' hi' hj'=>?_,fun r hr=>?_,?_,?_,?_⟩
 ·rw [Array.getElem?_setIfInBounds_ne (by omega)];exact h.num i' j' hi' hj'
 ·rw [Array.getElem?_setIfInBounds_ne (by omega)];exact h.den i' j' hi' hj'
 ·by_cases e:r=i
  ·subst e
   rw [Array.getElem?_setIfInBounds,if_pos rfl,if_pos (by omega),if_pos rfl]
  ·rw [Array.getElem?_setIfInBounds_ne (by omega),if_neg e];exact h.fc r hr
 ·rw [Array.getElem?_setIfInBounds_ne (by omega)];exact h.rows
 ·rw [Array.getElem?_setIfInBounds_ne (by omega)];exact h.ni
 ·rw [Array.getElem?_setIfInBounds_ne (by omega)];exact h.costs
noncomputable abbrev bt (m N K:Int):Array Value:=((Try.zeroCells62.setIfInBounds 528 (.int .i64 m)).setIfInBounds 529 (.int .i64 N)).setIfInBounds 530 (.int .i64 K)
theorem Vo:Try.zeroCells62=(List.replicate 531 (Value.int .i64 0)).toArray:=by kernel_rfl
theorem b3Z (k:Nat) (h:k<531):(Try.zeroCells62)[k]? =some (.int .i64 0):=by
 rw [Vo,List.getElem?_toArray,List.getElem?_replicate,if_pos h]
theorem b0d:(Try.zeroCells62).all (·.oneCell')=true:=by
 rw [Vo,Array.all_eq_true_iff_forall_mem]
 intro x hx
 have:=List.eq_of_mem_replicate (List.mem_toArray.1 hx)
 rw [this];rfl
theorem b0e (m N K:Nat):nk (bt m N K) (fun _ _=>(0,0)) (fun _=>0) m N K:=by
 have hs:(Try.zeroCells62).size=531:=by rw [Vo,List.size_toArray,List.length_replicate]
 have at0:∀k,k<528->(bt m N K)[k]? =some (.int .i64 0):=by
  intro k hk
  rw [Array.getElem?_setIfInBounds_ne (by omega),Array.getElem?_setIfInBounds_ne (by omega),Array.getElem?_setIfInBounds_ne (by omega),b3Z k (by omega)]
 refine ⟨by simp [hs],qj (qj (qj b0d rfl) rfl) rfl,fun i j hi hj=>at0 _ (by omega),fun i j hi hj=>at0 _ (by omega),fun r hr=>at0 _ (by omega),?_,?_,?_⟩
 ·rw [Array.getElem?_setIfInBounds_ne (by omega),Array.getElem?_setIfInBounds_ne (by omega),Array.getElem?_setIfInBounds,if_pos rfl,if_pos (by rw [hs];omega)]
 ·rw [Array.getElem?_setIfInBounds_ne (by omega),Array.getElem?_setIfInBounds,if_pos rfl,if_pos (by simp [hs])]
 ·rw [Array.getElem?_setIfInBounds,if_pos rfl,if_pos (by simp [hs])]
def AO (m:Nat) (sum:Int) (j i' j':Nat):Int×Int:=
 if i'=m/\j'<j then (sum,1) else if j'<j/\i'=m+1+j' then (1,1) else (0,1)
def CE (rows:List (List Int)) (n m:Nat) (right:Int) (i j:Nat):Int×Int:=
 if j<n then ((rows.getD i []).getD j 0,1) else if j=n+m then (right,1) else if j=n+i then (1,1) else (0,1)
set_option maxHeartbeats 2000000 in
set_option maxRecDepth 100000 in
theorem EL (n m:Nat) (rows:List (List Int)) (A:Option Addr) (c:Nat) (sum right:Int) (w:World) (hC:Kd.C BA w A rows.length rows) (hc:rows.length<=c) (hm:rows.length=m) (hl:∀x,x∈rows->x.length=n) (hs:m+(n+1)<=16) (hN:n+m<16):
 Calls Try.prog 33 #[.slice A rows.length c,.int .i64 (n:Int),.int .i64 sum,.int .i64 right] w fun e w'=>∃cs',e= .returned (.agg cs')/\gD cs' m (n+m) (n+1) (init n m (fun i j=>(((rows.getD i []).getD j 0:Int):Rat)) (fun _=>(right:Rat)) (sum:Rat))/\Below w.heap.size w w':=by
 have hu:=Try.underlying62
 have HC:=Aside0.mk hC
 have HM:=Aside0.mk hm
 have HL:=Aside0.mk hl
 have HW:=Aside0.mk (fun x W=>vP.calls x x 1 W rfl)
 have hw1:IntKind.i64.wrap ((n:Int)+(rows.length:Int))=((n+m:Nat):Int):=by rw [hm,cZ,cL (by omega) (by omega)];rfl
 have hw2:IntKind.i64.wrap ((n:Int)+1)=((n+1:Nat):Int):=by rw [cZ,cL (by omega) (by omega)];rfl
 clear hC hl
 go_enter Try.func33,Try.ntmps33
 have eV:Aside0 (((w.alloc (.cells Try.zeroCells62 62)).alloc (.cells Try.zeroCells62 62)).heap[w.heap.size+1]? =some (.cells Try.zeroCells62 62 (0,0))):=⟨by have:=bW (w.alloc (.cells Try.zeroCells62 62)) (.cells Try.zeroCells62 62);rw [kL] at this;exact this⟩
 have pE:Aside0 (((w.alloc (.cells Try.zeroCells62 62)).alloc (.cells Try.zeroCells62 62)).heap[w.heap.size]? =some (.cells Try.zeroCells62 62 (0,0))):=⟨aq (bW w _) _⟩
 have jo:Aside0 (Below w.heap.size w ((w.alloc (.cells Try.zeroCells62 62)).alloc (.cells Try.zeroCells62 62))):=⟨aK (aK (Below.refl _ _) _) _⟩
 have eL:=Aside0.mk (b0e m (n+m) (n+1))
 have HI:Aside0 ((Try.prog.info? 62).map (·.size)=some 531):=⟨by kernel_rfl⟩
 have HZ:Aside0 ((Try.zeroCells62).size=531):=⟨by kernel_rfl⟩
 go_wp2_with (first|((with_reducible refine iX (t:=62) (p:=9) rfl ?_);refine wpList_store_row rfl 62 (.tmp 9) (.tmp 25) rfl (w.heap.size+1) (bt m ((n+m:Nat):Int) ((n+1:Nat):Int)) rfl rfl 62 Try.zeroCells62 eV.out (by rw [eL.out.size];exact HI.out) (by rw [eL.out.size];exact HZ.out) eL.out.one ?_))
 have HA:Aside0 ((((w.alloc (.cells Try.zeroCells62 62)).alloc (.cells Try.zeroCells62 62)).setRow (w.heap.size+1) (bt m ((n+m:Nat):Int) ((n+1:Nat):Int))).heap[w.heap.size+1]? =some (.cells (bt m ((n+m:Nat):Int) ((n+1:Nat):Int)) 62 (0,0))):=⟨rE eV.out⟩
 have jD:Aside0 ((((w.alloc (.cells Try.zeroCells62 62)).alloc (.cells Try.zeroCells62 62)).setRow (w.heap.size+1) (bt m ((n+m:Nat):Int) ((n+1:Nat):Int))).heap[w.heap.size]? =some (.cells Try.zeroCells62 62 (0,0))):=⟨tN pE.out (by omega)⟩
 have bL:Aside0 (Below w.heap.size w (((w.alloc (.cells Try.zeroCells62 62)).alloc (.cells Try.zeroCells62 62)).setRow (w.heap.size+1) (bt m ((n+m:Nat):Int) ((n+1:Nat):Int)))):=⟨pM jo.out (by omega)⟩
 change Code.wp _ _ _ _ (((w.alloc (.cells Try.zeroCells62 62)).alloc (.cells Try.zeroCells62 62)).setRow (w.heap.size+1) (bt m ((n+m:Nat):Int) ((n+1:Nat):Int)))
 clear pE eV jo
 generalize ((w.alloc (.cells Try.zeroCells62 62)).alloc (.cells Try.zeroCells62 62)).setRow (w.heap.size+1) (bt m ((n+m:Nat):Int) ((n+1:Nat):Int))=w2 at*
 generalize bt m ((n+m:Nat):Int) ((n+1:Nat):Int)=cs0 at*
 go_loopw [26] (fun iv wr=>∃(i:Nat) (cs1:Array Value),iv= .int .i64 (i:Int)/\i<=16/\Aside0 (∃f,nk cs1 f (fun _=>0) m (n+m) (n+1)/\∀i' j',i'<i->j'<16->f i' j'=(0,1))/\Aside0 (wr.heap[w.heap.size+1]? =some (.cells cs1 62 (0,0)))/\Aside0 (wr.heap[w.heap.size]? =some (.cells Try.zeroCells62 62 (0,0)))/\Aside0 (Below w.heap.size w wr)) (fun iv _=>16 -(intOf iv).toNat)
 case atStart=>exact ⟨0,cs0,rfl,by omega,⟨_,eL.out,fun i' j' h=>by omega⟩,HA,jD,bL⟩
 case round=>
  clear HA jD bL eL
  obtain ⟨i,cs1,rfl,hi,HF,HA,jD,bL⟩:=hrel
  by_cases a1N:i<16
  ·have nr:=Aside0.mk a1N
   have g1:(0:Int)<=(i:Int):=by omega
   have g2:(i:Int)<16:=by omega
   have YE:decide ((i:Int)<16)=true:=decide_eq_true g2
   have fy:Aside0 (wrap64 ((i:Int)+1)=((i+1:Nat):Int)):=⟨eD (by omega)⟩
   clear a1N hi
   go_wp2
   go_loopw [29] (fun jv wr=>∃(j:Nat) (cs1:Array Value),jv= .int .i64 (j:Int)/\j<=16/\Aside0 (∃f,nk cs1 f (fun _=>0) m (n+m) (n+1)/\∀i' j',(i'<i∨(i'=i/\j'<j))->j'<16->f i' j'=(0,1))/\Aside0 (wr.heap[w.heap.size+1]? =some (.cells cs1 62 (0,0)))/\Aside0 (wr.heap[w.heap.size]? =some (.cells Try.zeroCells62 62 (0,0)))/\Aside0 (Below w.heap.size w wr)) (fun jv _=>16 -(intOf jv).toNat)
   case atStart=>exact ⟨0,cs1,rfl,by omega,⟨by obtain ⟨f,h1,h2⟩:=HF.out;exact ⟨f,h1,fun i' j' h hj=>h2 i' j' (by omega) hj⟩⟩,HA,jD,bL⟩
   case round=>
    clear HA jD bL HF
    obtain ⟨j,cs1,rfl,hj,HF,HA,jD,bL⟩:=hrel
    by_cases Vp:j<16
    ·have oW:=Aside0.mk Vp
     have g3:(0:Int)<=(j:Int):=by omega
     have g4:(j:Int)<16:=by omega
     have YF:decide ((j:Int)<16)=true:=decide_eq_true g4
     have kC:Aside0 (wrap64 ((j:Int)+1)=((j+1:Nat):Int)):=⟨eD (by omega)⟩
     obtain ⟨f,mV,hf2⟩:=HF.out
     have wZ:Aside0 (∃f,nk ((cs1.setIfInBounds (i*32+j*2) (.int .i64 0)).setIfInBounds (i*32+j*2+1) (.int .i64 1)) f (fun _=>0) m (n+m) (n+1)/\∀i' j',(i'<i∨(i'=i/\j'<j+1))->j'<16->f i' j'=(0,1)):=⟨_,mV.put nr.out Vp (0,1),fun i' j' h hj'=>by
      show (if i'=i/\j'=j then _ else _)=_
      by_cases e:i'=i/\j'=j
      ·rw [if_pos e]
      ·rw [if_neg e];exact hf2 i' j' (by omega) hj'⟩
     have gV:=Aside0.mk mV
     clear Vp hj mV hf2 HF
     go_wp2
     have HD:=Aside0.mk (ak HA.out)
     have uP:=Aside0.mk (ak jD.out)
     have oc:=Aside0.mk (bn bL.out)
     clear HA jD bL
     refine eG (n:=7) (S:=fun w_=>True) (ds:=[6]) #[false,false,false,false,false,false,false] (by kernel_rfl) rfl rfl trivial (fun hHeld=>?_)
     generalize wr.drew=w4 at*
     refine aI (i:=0) (N:=some 32) ?_
     refine aI (i:=1) (N:=some 33) ?_
     refine aI (i:=3) (N:=some 35) ?_
     refine aI (i:=4) (N:=some 36) ?_
     refine fK (i:=2) (N:=some 34) #[true,true,true,true,true,false,false] rfl rfl (by kernel_rfl) (by decide) (fun K hK=>?_)
     refine om Try.func55 (by kernel_rfl) rfl #[.int .i64 0] (by rfl) rfl rfl (by (try simp only [List.map_toArray,List.map_cons,List.map_nil]);first|done|rfl) ?_
     refine (HW.out _ _).mono ?_
     rintro e w5 ⟨rfl,jm⟩
     have HE:=Aside0.mk (ah HD.out jm)
     have uQ:=Aside0.mk (ah uP.out jm)
     have pP:=Aside0.mk (ai oc.out jm)
     clear HD uP oc jm
     refine ⟨_,rfl,?_⟩
     refine hK.out _ _ trivial (fun hHeld=>?_)
     clear hK K hHeld
     refine eP (a':=?_) ?_ ?_
     rotate_left
     ·show Act.put _ (some 34) _=_
      simp only [Act.put,List.setIfInBounds_toArray,List.set_cons_zero,List.set_cons_succ,cZ,eo]
      rfl
     refine aI (i:=5) (N:=some 37) ?_
     refine nu (i:=6) (N:=none) #[true,true,true,true,true,true,true] rfl rfl (by kernel_rfl) (by decide) (fun K hK=>?_)
     have h1:=bz HE.out (gV.out.num i j (by have:=nr.out;omega) (by have:=oW.out;omega))
     have h2:=bz HE.out (gV.out.den i j (by have:=nr.out;omega) (by have:=oW.out;omega))
     have h3:=aa HE.out (i*32+j*2)
     have h4:=aa HE.out (i*32+j*2+1)
     refine ku (w1:=?_) (by rfl) rfl ?_ ?_
     rotate_left
     ·go_simp
      rfl
     refine hK.out _ _ ?_
     clear hK K
     refine fl (by kernel_rfl) ?_
     have HA:Aside0 (((w5.setCell ⟨w.heap.size+1,i*32+j*2,none⟩ (.int .i64 0)).setCell ⟨w.heap.size+1,i*32+j*2+1,none⟩ (.int .i64 1)).heap[w.heap.size+1]? =some (.cells ((cs1.setIfInBounds (i*32+j*2) (.int .i64 0)).setIfInBounds (i*32+j*2+1) (.int .i64 1)) 62 (0,0))):=⟨heap_set (heap_set HE.out)⟩
     have jD:Aside0 (((w5.setCell ⟨w.heap.size+1,i*32+j*2,none⟩ (.int .i64 0)).setCell ⟨w.heap.size+1,i*32+j*2+1,none⟩ (.int .i64 1)).heap[w.heap.size]? =some (.cells Try.zeroCells62 62 (0,0))):=⟨bA (bA uQ.out (by omega)) (by omega)⟩
     have bL:Aside0 (Below w.heap.size w ((w5.setCell ⟨w.heap.size+1,i*32+j*2,none⟩ (.int .i64 0)).setCell ⟨w.heap.size+1,i*32+j*2+1,none⟩ (.int .i64 1))):=⟨br (br pP.out (by omega)) (by omega)⟩
     clear HE uQ pP h1 h2 h3 h4 gV
     generalize ((w5.setCell ⟨w.heap.size+1,i*32+j*2,none⟩ (.int .i64 0)).setCell ⟨w.heap.size+1,i*32+j*2+1,none⟩ (.int .i64 1))=w6 at*
     generalize ((cs1.setIfInBounds (i*32+j*2) (.int .i64 0)).setIfInBounds (i*32+j*2+1) (.int .i64 1))=Ck at*
     go_wp2
     go_roundw
     case rel=>exact ⟨j+1,Ck,by first|(rw [kC.out];done)|rfl|(simp;done),oW.out,wZ,HA,jD,bL⟩
     case measure=>(try rw [kC.out]);have:=oW.out;simp [intOf];omega
    ·have YF:decide ((j:Int)<16)=false:=decide_eq_false (by omega)
     have hj':j=16:=by omega
     have Iw:Aside0 (∃f,nk cs1 f (fun _=>0) m (n+m) (n+1)/\∀i' j',i'<i+1->j'<16->f i' j'=(0,1)):=⟨by obtain ⟨f,h1,h2⟩:=HF.out;exact ⟨f,h1,fun i' j' h hj=>h2 i' j' (by omega) hj⟩⟩
     clear hj' Vp hj HF
     go_wp2
     go_roundw
     case rel=>exact ⟨i+1,cs1,by first|(rw [fy.out];done)|rfl|(simp;done),nr.out,Iw,HA,jD,bL⟩
     case measure=>(try rw [fy.out]);have:=nr.out;simp [intOf];omega
  ·have YE:decide ((i:Int)<16)=false:=decide_eq_false (by omega)
   have rR:Aside0 (∃f,nk cs1 f (fun _=>0) m (n+m) (n+1)/\∀i' j',i'<16->j'<16->f i' j'=(0,1)):=⟨by obtain ⟨f,h1,h2⟩:=HF.out;exact ⟨f,h1,fun i' j' h hj=>h2 i' j' (by omega) hj⟩⟩
   clear a1N hi HF
   go_wp2
   go_loopw [42] (fun iv wr=>∃(i:Nat) (cs1:Array Value),iv= .int .i64 (i:Int)/\i<=m/\Aside0 (∃f fc,nk cs1 f fc m (n+m) (n+1)/\(∀i' j',i'<16->j'<16->f i' j'=if i'<i then CE rows n m right i' j' else (0,1))/\∀i',i'<i->fc i'=(n:Int)+(i':Int))/\Aside0 (wr.heap[w.heap.size+1]? =some (.cells cs1 62 (0,0)))/\Aside0 (wr.heap[w.heap.size]? =some (.cells Try.zeroCells62 62 (0,0)))/\Aside0 (Below w.heap.size w wr)) (fun iv _=>m -(intOf iv).toNat)
   case atStart=>exact ⟨0,cs1,rfl,by omega,⟨by obtain ⟨f,h1,h2⟩:=rR.out;exact ⟨f,_,h1,fun i' j' h hj=>by rw [if_neg (by omega)];exact h2 i' j' h hj,fun i' h=>by omega⟩⟩,HA,jD,bL⟩
   case round=>
    clear HA jD bL rR YE
    obtain ⟨i,cs1,rfl,hi,HF,HA,jD,bL⟩:=hrel
    by_cases wY:i<m
    ·have YG:=Aside0.mk wY
     have vF:i<rows.length:=by omega
     obtain ⟨ad,A1,c1,e,hx,hlx,IJ⟩:=zJ HC.out i vF
     have hlen:=HL.out _ (List.getElem_mem vF)
     rw [hlen] at hx hlx IJ
     cases e
     have HX:=Aside0.mk hx
     have HCx:=Aside0.mk IJ
     have rH:Aside0 (∀j,(rows.getD i []).getD j 0=(rows[i]).getD j 0):=⟨fun j=>by rw [List.getD_eq_getElem?_getD (l:=rows),List.getElem?_eq_getElem vF];rfl⟩
     have SQ:=Aside0.mk hlen
     generalize rows[i]=row at*
     have hx2:wr.cell? (ad.add i)=some (.slice A1 n c1):=(bL.out.cell (World.block_lt_of_cell? w _ hx)).trans hx
     have g1:(0:Int)<=(i:Int):=by omega
     have g2:(i:Int)<(m:Int):=by omega
     have YE:decide ((i:Int)<(m:Int))=true:=decide_eq_true g2
     have Br:decide (i<m)=true:=decide_eq_true wY
     have g16:(i:Int)<16:=by omega
     have fy:Aside0 (wrap64 ((i:Int)+1)=((i+1:Nat):Int)):=⟨eD (by omega)⟩
     have nr:Aside0 (i<16):=⟨by omega⟩
     clear wY hi vF hx hlx IJ hlen
     go_wp2
     clear hx2
     go_loopw [49] (fun jv wr=>∃(j:Nat) (cs1:Array Value),jv= .int .i64 (j:Int)/\j<=n/\Aside0 (∃f fc,nk cs1 f fc m (n+m) (n+1)/\(∀i' j',i'<16->j'<16->f i' j'=if i'<i then CE rows n m right i' j' else if i'=i/\j'<j then (row.getD j' 0,1) else (0,1))/\∀i',i'<i->fc i'=(n:Int)+(i':Int))/\Aside0 (wr.heap[w.heap.size+1]? =some (.cells cs1 62 (0,0)))/\Aside0 (wr.heap[w.heap.size]? =some (.cells Try.zeroCells62 62 (0,0)))/\Aside0 (Below w.heap.size w wr)) (fun jv _=>n -(intOf jv).toNat)
     case atStart=>exact ⟨0,cs1,rfl,by omega,⟨by obtain ⟨f,fc,h1,h2,h3⟩:=HF.out;exact ⟨f,fc,h1,fun i' j' h hj=>by rw [h2 i' j' h hj,if_neg (show ¬(i'=i/\j'<0) by omega)],h3⟩⟩,HA,jD,bL⟩
     case round=>
      clear HA jD bL HF
      obtain ⟨j,cs1,rfl,hj,HF,HA,jD,bL⟩:=hrel
      by_cases hjn:j<n
      ·have ID:=Aside0.mk hjn
       obtain ⟨IC,e,hy⟩:=Kd.fC HCx.out (j:Int) (by omega) (by omega)
       cases e
       have hjr:j<row.length:=by rw [SQ.out];exact hjn
       have hrd:rd row (j:Int)=row.getD j 0:=rfl
       rw [hrd] at hy
       have EE:wr.cell? (IC.add j)=some (.int .i64 (row.getD j 0)):=by rw [Int.toNat_natCast] at hy;exact (bL.out.cell (World.block_lt_of_cell? w _ hy)).trans hy
       obtain ⟨f,fc,mV,hf2,hf3⟩:=HF.out
       have wZ:Aside0 (∃f fc,nk ((cs1.setIfInBounds (i*32+j*2) (.int .i64 (row.getD j 0))).setIfInBounds (i*32+j*2+1) (.int .i64 1)) f fc m (n+m) (n+1)/\(∀i' j',i'<16->j'<16->f i' j'=if i'<i then CE rows n m right i' j' else if i'=i/\j'<j+1 then (row.getD j' 0,1) else (0,1))/\∀i',i'<i->fc i'=(n:Int)+(i':Int)):=⟨_,fc,mV.put nr.out (show j<16 by omega) (row.getD j 0,1),fun i' j' h hj'=>by
        show (if i'=i/\j'=j then _ else _)=_
        by_cases e:i'=i/\j'=j
        ·rw [if_pos e,if_neg (by omega),if_pos (by omega),e.2]
        ·rw [if_neg e,hf2 i' j' h hj']
         by_cases e1:i'<i
         ·rw [if_pos e1,if_pos e1]
         ·rw [if_neg e1,if_neg e1]
          by_cases e2:i'=i/\j'<j
          ·rw [if_pos e2,if_pos (by omega)]
          ·rw [if_neg e2,if_neg (by omega)],hf3⟩
       generalize row.getD j 0=vx at*
       have g3:(0:Int)<=(j:Int):=by omega
       have g4:(j:Int)<(n:Int):=by omega
       have YF:decide ((j:Int)<(n:Int))=true:=decide_eq_true g4
       have EM:decide (j<n)=true:=decide_eq_true hjn
       have g5:(j:Int)<16:=by omega
       have kC:Aside0 (wrap64 ((j:Int)+1)=((j+1:Nat):Int)):=⟨eD (by omega)⟩
       have oW:Aside0 (j<16):=⟨by omega⟩
       have gV:=Aside0.mk mV
       clear hjn hj mV hf2 hf3 HF hy hjr hrd
       go_wp2
       have HD:=Aside0.mk (ak HA.out)
       have uP:=Aside0.mk (ak jD.out)
       have oc:=Aside0.mk (bn bL.out)
       clear HA jD bL
       refine eG (n:=8) (S:=fun w_=>True) (ds:=[7]) #[false,false,false,false,false,false,false,false] (by kernel_rfl) rfl rfl trivial (fun hHeld=>?_)
       generalize wr.drew=w4 at*
       refine aI (i:=0) (N:=some 54) ?_
       refine aI (i:=1) (N:=some 55) ?_
       refine aI (i:=2) (N:=some 56) ?_
       refine aI (i:=4) (N:=some 58) ?_
       refine aI (i:=5) (N:=some 59) ?_
       refine fK (i:=3) (N:=some 57) #[true,true,true,true,true,true,false,false] rfl rfl (by kernel_rfl) (by decide) (fun K hK=>?_)
       refine om Try.func55 (by kernel_rfl) rfl #[.int .i64 vx] (by rfl) rfl rfl (by (try simp only [List.map_toArray,List.map_cons,List.map_nil]);first|done|rfl) ?_
       refine (HW.out _ _).mono ?_
       rintro e w5 ⟨rfl,jm⟩
       have HE:=Aside0.mk (ah HD.out jm)
       have uQ:=Aside0.mk (ah uP.out jm)
       have pP:=Aside0.mk (ai oc.out jm)
       clear HD uP oc jm
       refine ⟨_,rfl,?_⟩
       refine hK.out _ _ trivial (fun hHeld=>?_)
       clear hK K hHeld
       refine eP (a':=?_) ?_ ?_
       rotate_left
       ·show Act.put _ (some 57) _=_
        simp only [Act.put,List.setIfInBounds_toArray,List.set_cons_zero,List.set_cons_succ,cZ,eo]
        rfl
       refine aI (i:=6) (N:=some 60) ?_
       refine nu (i:=7) (N:=none) #[true,true,true,true,true,true,true,true] rfl rfl (by kernel_rfl) (by decide) (fun K hK=>?_)
       have h1:=bz HE.out (gV.out.num i j (by exact nr.out) (by exact oW.out))
       have h2:=bz HE.out (gV.out.den i j (by exact nr.out) (by exact oW.out))
       have h3:=aa HE.out (i*32+j*2)
       have h4:=aa HE.out (i*32+j*2+1)
       refine ku (w1:=?_) (by rfl) rfl ?_ ?_
       rotate_left
       ·go_simp
        rfl
       refine hK.out _ _ ?_
       clear hK K
       refine fl (by kernel_rfl) ?_
       have HA:Aside0 (((w5.setCell ⟨w.heap.size+1,i*32+j*2,none⟩ (.int .i64 vx)).setCell ⟨w.heap.size+1,i*32+j*2+1,none⟩ (.int .i64 1)).heap[w.heap.size+1]? =some (.cells ((cs1.setIfInBounds (i*32+j*2) (.int .i64 vx)).setIfInBounds (i*32+j*2+1) (.int .i64 1)) 62 (0,0))):=⟨heap_set (heap_set HE.out)⟩
       have jD:Aside0 (((w5.setCell ⟨w.heap.size+1,i*32+j*2,none⟩ (.int .i64 vx)).setCell ⟨w.heap.size+1,i*32+j*2+1,none⟩ (.int .i64 1)).heap[w.heap.size]? =some (.cells Try.zeroCells62 62 (0,0))):=⟨bA (bA uQ.out (by omega)) (by omega)⟩
       have bL:Aside0 (Below w.heap.size w ((w5.setCell ⟨w.heap.size+1,i*32+j*2,none⟩ (.int .i64 vx)).setCell ⟨w.heap.size+1,i*32+j*2+1,none⟩ (.int .i64 1))):=⟨br (br pP.out (by omega)) (by omega)⟩
       clear HE uQ pP h1 h2 h3 h4 gV
       generalize ((w5.setCell ⟨w.heap.size+1,i*32+j*2,none⟩ (.int .i64 vx)).setCell ⟨w.heap.size+1,i*32+j*2+1,none⟩ (.int .i64 1))=w6 at*
       generalize ((cs1.setIfInBounds (i*32+j*2) (.int .i64 vx)).setIfInBounds (i*32+j*2+1) (.int .i64 1))=Ck at*
       go_wp2
       go_roundw
       case rel=>exact ⟨j+1,Ck,by first|(rw [kC.out];done)|rfl|(simp;done),ID.out,wZ,HA,jD,bL⟩
       case measure=>(try rw [kC.out]);have:=ID.out;simp [intOf];omega
      ·have YF:decide ((j:Int)<(n:Int))=false:=decide_eq_false (by omega)
       have EM:decide (j<n)=false:=decide_eq_false hjn
       have hj':j=n:=by omega
       rw [hj'] at HF
       have h0c:∀f fc,nk cs1 f fc m (n+m) (n+1)->True:=fun _ _ _=>trivial
       obtain ⟨k2,hk2⟩:∃k2,k2=n+i:=⟨_,rfl⟩
       have hw3:IntKind.i64.wrap ((n:Int)+(i:Int))=(k2:Int):=by rw [hk2,cZ,cL (by omega) (by omega)];rfl
       have qJ:=Aside0.mk hk2
       obtain ⟨nm,hnm⟩:∃nm,nm=n+m:=⟨_,rfl⟩
       have HNM:=Aside0.mk hnm
       have g6:(0:Int)<=(k2:Int):=by omega
       have g7:(k2:Int)<16:=by have:=YG.out;omega
       have g8:(0:Int)<=(nm:Int):=by omega
       have g9:(nm:Int)<16:=by omega
       obtain ⟨f,fc,mV,hf2,hf3⟩:=HF.out
       have gV:=Aside0.mk mV
       have oW:Aside0 (k2<16):=⟨by have:=YG.out;omega⟩
       have Gc:Aside0 (nm<16):=⟨by omega⟩
       have xo:=Aside0.mk (mV.put nr.out oW.out (1,1))
       have b0h:=Aside0.mk (xo.out.put nr.out Gc.out (right,1))
       have b8d:=Aside0.mk (b0h.out.b8c nr.out (k2:Int))
       have wZ:Aside0 (∃f fc,nk (((((cs1.setIfInBounds (i*32+k2*2) (.int .i64 1)).setIfInBounds (i*32+k2*2+1) (.int .i64 1)).setIfInBounds (i*32+nm*2) (.int .i64 right)).setIfInBounds (i*32+nm*2+1) (.int .i64 1)).setIfInBounds (512+i) (.int .i64 (k2:Int))) f fc m (n+m) (n+1)/\(∀i' j',i'<16->j'<16->f i' j'=if i'<i+1 then CE rows n m right i' j' else (0,1))/\∀i',i'<i+1->fc i'=(n:Int)+(i':Int)):=⟨_,_,b8d.out,fun i' j' h hj'=>by
        show (if i'=i/\j'=nm then _ else if i'=i/\j'=k2 then _ else _)=_
        have hIm:=YG.out
        by_cases e1:i'=i
        ·subst e1
         rw [if_pos (show i'<i'+1 by omega)]
         unfold CE
         by_cases e2:j'=nm
         ·rw [if_pos ⟨rfl,e2⟩,if_neg (by omega),if_pos (by omega)]
         ·rw [if_neg (by omega)]
          by_cases e3:j'=k2
          ·rw [if_pos ⟨rfl,e3⟩,if_neg (by omega),if_neg (by omega),if_pos (by omega)]
          ·rw [if_neg (by omega),hf2 i' j' h hj',if_neg (by omega)]
           by_cases e4:j'<n
           ·rw [if_pos ⟨rfl,e4⟩,if_pos e4,rH.out]
           ·rw [if_neg (by omega),if_neg e4,if_neg (by omega),if_neg (by omega)]
        ·rw [if_neg (by omega),if_neg (by omega),hf2 i' j' h hj',if_neg (show ¬(i'=i/\j'<n) by omega)]
         by_cases e5:i'<i
         ·rw [if_pos e5,if_pos (by omega)]
         ·rw [if_neg e5,if_neg (by omega)],fun i' h=>by
        show (if i'=i then _ else _)=_
        by_cases e:i'=i
        ·rw [if_pos e,e,hk2];rfl
        ·rw [if_neg e];exact hf3 i' (by omega)⟩
       have a4w:∀(W:World) (cs:Array Value) (f:Nat->Nat->Int×Int) (fc:Nat->Int),W.heap[w.heap.size+1]? =some (.cells cs 62 (0,0))->nk cs f fc m (n+m) (n+1)->W.cell? ⟨w.heap.size+1,529,none⟩=some (.int .i64 (nm:Int)):=fun W cs f fc h hr=>by rw [HNM.out];exact bz h hr.ni
       have Qd:=Aside0.mk a4w
       clear hj' hjn hj mV hf2 hf3 HF hk2 hnm a4w h0c rH
       go_wp2
       have HD:=Aside0.mk (ak HA.out)
       have uP:=Aside0.mk (ak jD.out)
       have oc:=Aside0.mk (bn bL.out)
       clear HA jD bL
       refine eG (n:=9) (S:=fun w_=>True) (ds:=[8]) #[false,false,false,false,false,false,false,false,false] (by kernel_rfl) rfl rfl trivial (fun hHeld=>?_)
       generalize wr.drew=w4 at*
       refine aI (i:=0) (N:=some 62) ?_
       refine aI (i:=1) (N:=some 63) ?_
       refine aI (i:=2) (N:=some 64) ?_
       refine aI (i:=3) (N:=some 65) ?_
       refine aI (i:=5) (N:=some 67) ?_
       refine aI (i:=6) (N:=some 68) ?_
       refine fK (i:=4) (N:=some 66) #[true,true,true,true,true,true,true,false,false] rfl rfl (by kernel_rfl) (by decide) (fun K hK=>?_)
       refine om Try.func55 (by kernel_rfl) rfl #[.int .i64 1] (by rfl) rfl rfl (by (try simp only [List.map_toArray,List.map_cons,List.map_nil]);first|done|rfl) ?_
       refine (HW.out _ _).mono ?_
       rintro e w5 ⟨rfl,jm⟩
       have HE:=Aside0.mk (ah HD.out jm)
       have uQ:=Aside0.mk (ah uP.out jm)
       have pP:=Aside0.mk (ai oc.out jm)
       clear HD uP oc jm
       refine ⟨_,rfl,?_⟩
       refine hK.out _ _ trivial (fun hHeld=>?_)
       clear hK K hHeld
       refine eP (a':=?_) ?_ ?_
       rotate_left
       ·show Act.put _ (some 66) _=_
        simp only [Act.put,List.setIfInBounds_toArray,List.set_cons_zero,List.set_cons_succ,cZ,eo]
        rfl
       refine aI (i:=7) (N:=some 69) ?_
       refine nu (i:=8) (N:=none) #[true,true,true,true,true,true,true,true,true] rfl rfl (by kernel_rfl) (by decide) (fun K hK=>?_)
       have h1:=bz HE.out (gV.out.num i k2 (by exact nr.out) (by exact oW.out))
       have h2:=bz HE.out (gV.out.den i k2 (by exact nr.out) (by exact oW.out))
       have h3:=aa HE.out (i*32+k2*2)
       have h4:=aa HE.out (i*32+k2*2+1)
       refine ku (w1:=?_) (by rfl) rfl ?_ ?_
       rotate_left
       ·go_simp
        rfl
       refine hK.out _ _ ?_
       clear hK K
       refine fl (by kernel_rfl) ?_
       have HA:Aside0 (((w5.setCell ⟨w.heap.size+1,i*32+k2*2,none⟩ (.int .i64 1)).setCell ⟨w.heap.size+1,i*32+k2*2+1,none⟩ (.int .i64 1)).heap[w.heap.size+1]? =some (.cells ((cs1.setIfInBounds (i*32+k2*2) (.int .i64 1)).setIfInBounds (i*32+k2*2+1) (.int .i64 1)) 62 (0,0))):=⟨heap_set (heap_set HE.out)⟩
       have jD:Aside0 (((w5.setCell ⟨w.heap.size+1,i*32+k2*2,none⟩ (.int .i64 1)).setCell ⟨w.heap.size+1,i*32+k2*2+1,none⟩ (.int .i64 1)).heap[w.heap.size]? =some (.cells Try.zeroCells62 62 (0,0))):=⟨bA (bA uQ.out (by omega)) (by omega)⟩
       have bL:Aside0 (Below w.heap.size w ((w5.setCell ⟨w.heap.size+1,i*32+k2*2,none⟩ (.int .i64 1)).setCell ⟨w.heap.size+1,i*32+k2*2+1,none⟩ (.int .i64 1))):=⟨br (br pP.out (by omega)) (by omega)⟩
       clear HE uQ pP h1 h2 h3 h4 gV
       generalize ((w5.setCell ⟨w.heap.size+1,i*32+k2*2,none⟩ (.int .i64 1)).setCell ⟨w.heap.size+1,i*32+k2*2+1,none⟩ (.int .i64 1))=w6 at*
       generalize ((cs1.setIfInBounds (i*32+k2*2) (.int .i64 1)).setIfInBounds (i*32+k2*2+1) (.int .i64 1))=iB at*
       go_wp2
       have LS:=Qd.out _ _ _ _ HA.out xo.out
       have HD:=Aside0.mk (ak HA.out)
       have uP:=Aside0.mk (ak jD.out)
       have oc:=Aside0.mk (bn bL.out)
       clear HA jD bL
       refine eG (n:=9) (S:=fun w'=>w'.cell? ⟨w.heap.size+1,529,none⟩=some (.int .i64 (nm:Int))) (ds:=[8]) #[false,false,false,false,false,false,false,false,false] (by kernel_rfl) rfl rfl LS (fun hHeld=>?_)
       generalize wr.drew=w4 at*
       refine aI (i:=0) (N:=some 70) ?_
       refine aI (i:=1) (N:=some 71) ?_
       refine cE (i:=2) (N:=some 72) (v:=?_) (a':=?_) #[true,true,true,false,false,false,false,false,false] rfl rfl (by kernel_rfl) (fun _ _ _ h=>h) (Or.inl ⟨by rfl,?_⟩) hHeld ?_ ?_
       rotate_left
       ·intro w' s0
        go_simp
        with_reducible rfl
       rotate_left
       ·exact dx
       refine aI (i:=3) (N:=some 73) ?_
       refine aI (i:=5) (N:=some 75) ?_
       refine aI (i:=6) (N:=some 76) ?_
       refine fK (i:=4) (N:=some 74) #[true,true,true,true,true,true,true,false,false] rfl rfl (by kernel_rfl) (by decide) (fun K hK=>?_)
       refine om Try.func55 (by kernel_rfl) rfl #[.int .i64 right] (by rfl) rfl rfl (by (try simp only [List.map_toArray,List.map_cons,List.map_nil]);first|done|rfl) ?_
       refine (HW.out _ _).mono ?_
       rintro e w5 ⟨rfl,jm⟩
       have HE:=Aside0.mk (ah HD.out jm)
       have uQ:=Aside0.mk (ah uP.out jm)
       have pP:=Aside0.mk (ai oc.out jm)
       clear HD uP oc jm
       refine ⟨_,rfl,?_⟩
       refine hK.out _ _ (Qd.out _ _ _ _ HE.out xo.out) (fun hHeld=>?_)
       clear hK K hHeld
       refine eP (a':=?_) ?_ ?_
       rotate_left
       ·show Act.put _ (some 74) _=_
        simp only [Act.put,List.setIfInBounds_toArray,List.set_cons_zero,List.set_cons_succ,cZ,eo]
        rfl
       refine aI (i:=7) (N:=some 77) ?_
       refine nu (i:=8) (N:=none) #[true,true,true,true,true,true,true,true,true] rfl rfl (by kernel_rfl) (by decide) (fun K hK=>?_)
       have h1:=bz HE.out (xo.out.num i nm (by exact nr.out) (by exact Gc.out))
       have h2:=bz HE.out (xo.out.den i nm (by exact nr.out) (by exact Gc.out))
       have h3:=aa HE.out (i*32+nm*2)
       have h4:=aa HE.out (i*32+nm*2+1)
       refine ku (w1:=?_) (by rfl) rfl ?_ ?_
       rotate_left
       ·go_simp
        rfl
       refine hK.out _ _ ?_
       clear hK K
       refine fl (by kernel_rfl) ?_
       have HA:Aside0 (((w5.setCell ⟨w.heap.size+1,i*32+nm*2,none⟩ (.int .i64 right)).setCell ⟨w.heap.size+1,i*32+nm*2+1,none⟩ (.int .i64 1)).heap[w.heap.size+1]? =some (.cells ((iB.setIfInBounds (i*32+nm*2) (.int .i64 right)).setIfInBounds (i*32+nm*2+1) (.int .i64 1)) 62 (0,0))):=⟨heap_set (heap_set HE.out)⟩
       have jD:Aside0 (((w5.setCell ⟨w.heap.size+1,i*32+nm*2,none⟩ (.int .i64 right)).setCell ⟨w.heap.size+1,i*32+nm*2+1,none⟩ (.int .i64 1)).heap[w.heap.size]? =some (.cells Try.zeroCells62 62 (0,0))):=⟨bA (bA uQ.out (by omega)) (by omega)⟩
       have bL:Aside0 (Below w.heap.size w ((w5.setCell ⟨w.heap.size+1,i*32+nm*2,none⟩ (.int .i64 right)).setCell ⟨w.heap.size+1,i*32+nm*2+1,none⟩ (.int .i64 1))):=⟨br (br pP.out (by omega)) (by omega)⟩
       clear HE uQ pP h1 h2 h3 h4
       generalize ((w5.setCell ⟨w.heap.size+1,i*32+nm*2,none⟩ (.int .i64 right)).setCell ⟨w.heap.size+1,i*32+nm*2+1,none⟩ (.int .i64 1))=w6 at*
       generalize ((iB.setIfInBounds (i*32+nm*2) (.int .i64 right)).setIfInBounds (i*32+nm*2+1) (.int .i64 1))=Eu at*
       have hb1:=bz HA.out (b0h.out.fc i nr.out)
       have hb2:=aa HA.out (512+i)
       go_wp2
       have fW:=Aside0.mk (heap_set (k:=512+i) (v:= .int .i64 (k2:Int)) HA.out)
       go_roundw
       case rel=>exact ⟨i+1,_,by first|(rw [fy.out];done)|rfl|(simp;done),YG.out,wZ,fW,⟨bA jD.out (by omega)⟩,⟨br bL.out (by omega)⟩⟩
       case measure=>(try rw [fy.out]);have:=YG.out;simp [intOf];omega
    ·have Lg:i=m:=by omega
     have YE:decide ((i:Int)<(m:Int))=false:=decide_eq_false (by omega)
     have Br:decide (i<m)=false:=decide_eq_false wY
     rw [Lg] at HF
     clear Lg wY hi
     go_wp2
     go_loopw [86] (fun jv wr=>∃(j:Nat) (cs1:Array Value),jv= .int .i64 (j:Int)/\j<=n/\Aside0 (∃f fc,nk cs1 f fc m (n+m) (n+1)/\(∀i' j',i'<16->j'<16->f i' j'=if i'<m then CE rows n m right i' j' else AO m sum j i' j')/\∀i',i'<m->fc i'=(n:Int)+(i':Int))/\Aside0 (wr.heap[w.heap.size+1]? =some (.cells cs1 62 (0,0)))/\Aside0 (wr.heap[w.heap.size]? =some (.cells Try.zeroCells62 62 (0,0)))/\Aside0 (Below w.heap.size w wr)) (fun jv _=>n -(intOf jv).toNat)
     case atStart=>exact ⟨0,cs1,rfl,by omega,⟨by obtain ⟨f,fc,h1,h2,h3⟩:=HF.out;exact ⟨f,fc,h1,fun i' j' h hj=>by rw [h2 i' j' h hj];unfold AO;rw [if_neg (show ¬((i'=m/\j'<0)) by omega),if_neg (show ¬(j'<0/\i'=m+1+j') by omega)],h3⟩⟩,HA,jD,bL⟩
     case round=>
      clear HA jD bL HF YE Br
      obtain ⟨j,cs1,rfl,hj,HF,HA,jD,bL⟩:=hrel
      by_cases hjn:j<n
      ·have ID:=Aside0.mk hjn
       obtain ⟨f,fc,mV,hf2,hf3⟩:=HF.out
       obtain ⟨m1,EI⟩:∃m1,m1=m+1:=⟨_,rfl⟩
       obtain ⟨k2,hk2⟩:∃k2,k2=m1+j:=⟨_,rfl⟩
       have hw3:IntKind.i64.wrap ((m:Int)+1)=(m1:Int):=by rw [EI,cZ,cL (by omega) (by omega)];rfl
       have hw4:IntKind.i64.wrap ((m1:Int)+(j:Int))=(k2:Int):=by rw [hk2,cZ,cL (by omega) (by omega)];rfl
       have g3:(0:Int)<=(j:Int):=by omega
       have g4:(j:Int)<(n:Int):=by omega
       have YF:decide ((j:Int)<(n:Int))=true:=decide_eq_true g4
       have EM:decide (j<n)=true:=decide_eq_true hjn
       have g5:(j:Int)<16:=by omega
       have g6:(0:Int)<=(m:Int):=by omega
       have g7:(m:Int)<16:=by omega
       have g8:(0:Int)<=(k2:Int):=by omega
       have g9:(k2:Int)<16:=by omega
       have kC:Aside0 (wrap64 ((j:Int)+1)=((j+1:Nat):Int)):=⟨eD (by omega)⟩
       have oW:Aside0 (j<16):=⟨by omega⟩
       have nr:Aside0 (m<16):=⟨by omega⟩
       have Gc:Aside0 (k2<16):=⟨by omega⟩
       have gV:=Aside0.mk mV
       have xo:=Aside0.mk (mV.put nr.out oW.out (sum,1))
       have wZ:Aside0 (∃f fc,nk ((((cs1.setIfInBounds (m*32+j*2) (.int .i64 sum)).setIfInBounds (m*32+j*2+1) (.int .i64 1)).setIfInBounds (k2*32+j*2) (.int .i64 1)).setIfInBounds (k2*32+j*2+1) (.int .i64 1)) f fc m (n+m) (n+1)/\(∀i' j',i'<16->j'<16->f i' j'=if i'<m then CE rows n m right i' j' else AO m sum (j+1) i' j')/\∀i',i'<m->fc i'=(n:Int)+(i':Int)):=⟨_,fc,xo.out.put Gc.out oW.out (1,1),fun i' j' h hj'=>by
        show (if i'=k2/\j'=j then _ else if i'=m/\j'=j then _ else _)=_
        by_cases e1:i'=k2/\j'=j
        ·rw [if_pos e1,if_neg (by omega)]
         unfold AO
         rw [if_neg (by omega),if_pos (by omega)]
        ·rw [if_neg e1]
         by_cases e2:i'=m/\j'=j
         ·rw [if_pos e2,if_neg (by omega)]
          unfold AO
          rw [if_pos (by omega)]
         ·rw [if_neg e2,hf2 i' j' h hj']
          by_cases e3:i'<m
          ·rw [if_pos e3,if_pos e3]
          ·rw [if_neg e3,if_neg e3]
           unfold AO
           by_cases e4:i'=m/\j'<j
           ·rw [if_pos e4,if_pos (by omega)]
           ·rw [if_neg e4,if_neg (show ¬(i'=m/\j'<j+1) by omega)]
            by_cases e5:j'<j/\i'=m+1+j'
            ·rw [if_pos e5,if_pos (by omega)]
            ·rw [if_neg e5,if_neg (by omega)],hf3⟩
       have hro:∀(W:World) (cs:Array Value) (f:Nat->Nat->Int×Int) (fc:Nat->Int),W.heap[w.heap.size+1]? =some (.cells cs 62 (0,0))->nk cs f fc m (n+m) (n+1)->W.cell? ⟨w.heap.size+1,528,none⟩=some (.int .i64 (m:Int)):=fun W cs f fc h hr=>bz h hr.rows
       have Qd:=Aside0.mk hro
       clear hjn hj mV hf2 hf3 HF EI hk2 hro
       go_wp2
       have LS:=Qd.out _ _ _ _ HA.out gV.out
       have HD:=Aside0.mk (ak HA.out)
       have uP:=Aside0.mk (ak jD.out)
       have oc:=Aside0.mk (bn bL.out)
       clear HA jD bL
       refine eG (n:=9) (S:=fun w'=>w'.cell? ⟨w.heap.size+1,528,none⟩=some (.int .i64 (m:Int))) (ds:=[8]) #[false,false,false,false,false,false,false,false,false] (by kernel_rfl) rfl rfl LS (fun hHeld=>?_)
       generalize wr.drew=w4 at*
       refine aI (i:=0) (N:=some 89) ?_
       refine cE (i:=1) (N:=some 90) (v:=?_) (a':=?_) #[true,true,false,false,false,false,false,false,false] rfl rfl (by kernel_rfl) (fun _ _ _ h=>h) (Or.inl ⟨by rfl,?_⟩) hHeld ?_ ?_
       rotate_left
       ·intro w' s0
        go_simp
        with_reducible rfl
       rotate_left
       ·exact dx
       refine aI (i:=2) (N:=some 91) ?_
       refine aI (i:=3) (N:=some 92) ?_
       refine aI (i:=5) (N:=some 94) ?_
       refine aI (i:=6) (N:=some 95) ?_
       refine fK (i:=4) (N:=some 93) #[true,true,true,true,true,true,true,false,false] rfl rfl (by kernel_rfl) (by decide) (fun K hK=>?_)
       refine om Try.func55 (by kernel_rfl) rfl #[.int .i64 sum] (by rfl) rfl rfl (by (try simp only [List.map_toArray,List.map_cons,List.map_nil]);first|done|rfl) ?_
       refine (HW.out _ _).mono ?_
       rintro e w5 ⟨rfl,jm⟩
       have HE:=Aside0.mk (ah HD.out jm)
       have uQ:=Aside0.mk (ah uP.out jm)
       have pP:=Aside0.mk (ai oc.out jm)
       clear HD uP oc jm
       refine ⟨_,rfl,?_⟩
       refine hK.out _ _ (Qd.out _ _ _ _ HE.out gV.out) (fun hHeld=>?_)
       clear hK K hHeld
       refine eP (a':=?_) ?_ ?_
       rotate_left
       ·show Act.put _ (some 93) _=_
        simp only [Act.put,List.setIfInBounds_toArray,List.set_cons_zero,List.set_cons_succ,cZ,eo]
        rfl
       refine aI (i:=7) (N:=some 96) ?_
       refine nu (i:=8) (N:=none) #[true,true,true,true,true,true,true,true,true] rfl rfl (by kernel_rfl) (by decide) (fun K hK=>?_)
       have h1:=bz HE.out (gV.out.num m j (by exact nr.out) (by exact oW.out))
       have h2:=bz HE.out (gV.out.den m j (by exact nr.out) (by exact oW.out))
       have h3:=aa HE.out (m*32+j*2)
       have h4:=aa HE.out (m*32+j*2+1)
       refine ku (w1:=?_) (by rfl) rfl ?_ ?_
       rotate_left
       ·go_simp
        rfl
       refine hK.out _ _ ?_
       clear hK K
       refine fl (by kernel_rfl) ?_
       have HA:Aside0 (((w5.setCell ⟨w.heap.size+1,m*32+j*2,none⟩ (.int .i64 sum)).setCell ⟨w.heap.size+1,m*32+j*2+1,none⟩ (.int .i64 1)).heap[w.heap.size+1]? =some (.cells ((cs1.setIfInBounds (m*32+j*2) (.int .i64 sum)).setIfInBounds (m*32+j*2+1) (.int .i64 1)) 62 (0,0))):=⟨heap_set (heap_set HE.out)⟩
       have jD:Aside0 (((w5.setCell ⟨w.heap.size+1,m*32+j*2,none⟩ (.int .i64 sum)).setCell ⟨w.heap.size+1,m*32+j*2+1,none⟩ (.int .i64 1)).heap[w.heap.size]? =some (.cells Try.zeroCells62 62 (0,0))):=⟨bA (bA uQ.out (by omega)) (by omega)⟩
       have bL:Aside0 (Below w.heap.size w ((w5.setCell ⟨w.heap.size+1,m*32+j*2,none⟩ (.int .i64 sum)).setCell ⟨w.heap.size+1,m*32+j*2+1,none⟩ (.int .i64 1))):=⟨br (br pP.out (by omega)) (by omega)⟩
       clear HE uQ pP h1 h2 h3 h4 gV
       generalize ((w5.setCell ⟨w.heap.size+1,m*32+j*2,none⟩ (.int .i64 sum)).setCell ⟨w.heap.size+1,m*32+j*2+1,none⟩ (.int .i64 1))=w6 at*
       generalize ((cs1.setIfInBounds (m*32+j*2) (.int .i64 sum)).setIfInBounds (m*32+j*2+1) (.int .i64 1))=iB at*
       go_wp2
       have LS:=Qd.out _ _ _ _ HA.out xo.out
       have HD:=Aside0.mk (ak HA.out)
       have uP:=Aside0.mk (ak jD.out)
       have oc:=Aside0.mk (bn bL.out)
       clear HA jD bL
       refine eG (n:=11) (S:=fun w'=>w'.cell? ⟨w.heap.size+1,528,none⟩=some (.int .i64 (m:Int))) (ds:=[10]) #[false,false,false,false,false,false,false,false,false,false,false] (by kernel_rfl) rfl rfl LS (fun hHeld=>?_)
       generalize wr.drew=w4 at*
       refine aI (i:=0) (N:=some 97) ?_
       refine cE (i:=1) (N:=some 98) (v:=?_) (a':=?_) #[true,true,false,false,false,false,false,false,false,false,false] rfl rfl (by kernel_rfl) (fun _ _ _ h=>h) (Or.inl ⟨by rfl,?_⟩) hHeld ?_ ?_
       rotate_left
       ·intro w' s0
        go_simp
        with_reducible rfl
       rotate_left
       ·exact dx
       refine aI (i:=2) (N:=some 99) ?_
       refine aI (i:=3) (N:=some 100) ?_
       refine aI (i:=4) (N:=some 101) ?_
       refine aI (i:=5) (N:=some 102) ?_
       refine aI (i:=7) (N:=some 104) ?_
       refine aI (i:=8) (N:=some 105) ?_
       refine fK (i:=6) (N:=some 103) #[true,true,true,true,true,true,true,true,true,false,false] rfl rfl (by kernel_rfl) (by decide) (fun K hK=>?_)
       refine om Try.func55 (by kernel_rfl) rfl #[.int .i64 1] (by rfl) rfl rfl (by (try simp only [List.map_toArray,List.map_cons,List.map_nil]);first|done|rfl) ?_
       refine (HW.out _ _).mono ?_
       rintro e w5 ⟨rfl,jm⟩
       have HE:=Aside0.mk (ah HD.out jm)
       have uQ:=Aside0.mk (ah uP.out jm)
       have pP:=Aside0.mk (ai oc.out jm)
       clear HD uP oc jm
       refine ⟨_,rfl,?_⟩
       refine hK.out _ _ (Qd.out _ _ _ _ HE.out xo.out) (fun hHeld=>?_)
       clear hK K hHeld
       refine eP (a':=?_) ?_ ?_
       rotate_left
       ·show Act.put _ (some 103) _=_
        simp only [Act.put,List.setIfInBounds_toArray,List.set_cons_zero,List.set_cons_succ,cZ,eo]
        rfl
       refine aI (i:=9) (N:=some 106) ?_
       refine nu (i:=10) (N:=none) #[true,true,true,true,true,true,true,true,true,true,true] rfl rfl (by kernel_rfl) (by decide) (fun K hK=>?_)
       have h1:=bz HE.out (xo.out.num k2 j (by exact Gc.out) (by exact oW.out))
       have h2:=bz HE.out (xo.out.den k2 j (by exact Gc.out) (by exact oW.out))
       have h3:=aa HE.out (k2*32+j*2)
       have h4:=aa HE.out (k2*32+j*2+1)
       refine ku (w1:=?_) (by rfl) rfl ?_ ?_
       rotate_left
       ·go_simp
        rfl
       refine hK.out _ _ ?_
       clear hK K
       refine fl (by kernel_rfl) ?_
       have HA:Aside0 (((w5.setCell ⟨w.heap.size+1,k2*32+j*2,none⟩ (.int .i64 1)).setCell ⟨w.heap.size+1,k2*32+j*2+1,none⟩ (.int .i64 1)).heap[w.heap.size+1]? =some (.cells ((iB.setIfInBounds (k2*32+j*2) (.int .i64 1)).setIfInBounds (k2*32+j*2+1) (.int .i64 1)) 62 (0,0))):=⟨heap_set (heap_set HE.out)⟩
       have jD:Aside0 (((w5.setCell ⟨w.heap.size+1,k2*32+j*2,none⟩ (.int .i64 1)).setCell ⟨w.heap.size+1,k2*32+j*2+1,none⟩ (.int .i64 1)).heap[w.heap.size]? =some (.cells Try.zeroCells62 62 (0,0))):=⟨bA (bA uQ.out (by omega)) (by omega)⟩
       have bL:Aside0 (Below w.heap.size w ((w5.setCell ⟨w.heap.size+1,k2*32+j*2,none⟩ (.int .i64 1)).setCell ⟨w.heap.size+1,k2*32+j*2+1,none⟩ (.int .i64 1))):=⟨br (br pP.out (by omega)) (by omega)⟩
       clear HE uQ pP h1 h2 h3 h4
       generalize ((w5.setCell ⟨w.heap.size+1,k2*32+j*2,none⟩ (.int .i64 1)).setCell ⟨w.heap.size+1,k2*32+j*2+1,none⟩ (.int .i64 1))=w6 at*
       generalize ((iB.setIfInBounds (k2*32+j*2) (.int .i64 1)).setIfInBounds (k2*32+j*2+1) (.int .i64 1))=Eu at*
       go_wp2
       go_roundw
       case rel=>exact ⟨j+1,Eu,by first|(rw [kC.out];done)|rfl|(simp;done),ID.out,wZ,HA,jD,bL⟩
       case measure=>(try rw [kC.out]);have:=ID.out;simp [intOf];omega
      ·have YF:decide ((j:Int)<(n:Int))=false:=decide_eq_false (by omega)
       have EM:decide (j<n)=false:=decide_eq_false hjn
       have hj':j=n:=by omega
       rw [hj'] at HF
       have Vq:Aside0 (gD cs1 m (n+m) (n+1) (init n m (fun i j=>(((rows.getD i []).getD j 0:Int):Rat)) (fun _=>(right:Rat)) (sum:Rat))):=⟨by
        obtain ⟨f,fc,h1,h2,h3⟩:=HF.out
        have key:∀i' j',i'<m+(n+1)->j'<=n+m->f i' j'=(((init n m (fun i j=>(((rows.getD i []).getD j 0:Int):Rat)) (fun _=>(right:Rat)) (sum:Rat)).cell i' j').num,(((init n m (fun i j=>(((rows.getD i []).getD j 0:Int):Rat)) (fun _=>(right:Rat)) (sum:Rat)).cell i' j').den:Int)):=by
         intro i' j' hi' hj'
         rw [h2 i' j' (by omega) (by omega)]
         simp only [init,CE,AO]
         by_cases e:i'<m
         ·rw [if_pos e,if_pos e]
          by_cases e1:j'<n
          ·rw [if_pos e1,if_pos e1];rfl
          ·rw [if_neg e1,if_neg e1]
           by_cases e2:j'=n+m
           ·rw [if_pos e2,if_pos e2];rfl
           ·rw [if_neg e2,if_neg e2]
            by_cases e3:j'=n+i'
            ·rw [if_pos e3,if_pos e3];rfl
            ·rw [if_neg e3,if_neg e3];rfl
         ·rw [if_neg e,if_neg e]
          by_cases e1:i'=m
          ·rw [if_pos e1]
           by_cases e2:j'<n
           ·rw [if_pos ⟨e1,e2⟩,if_pos e2];rfl
           ·rw [if_neg (by omega),if_neg (by omega),if_neg e2];rfl
          ·rw [if_neg e1,if_neg (by omega)]
           by_cases e2:j'<n/\i'=m+1+j'
           ·rw [if_pos e2,if_pos (by omega)];rfl
           ·rw [if_neg e2,if_neg (by omega)];rfl
        refine ⟨h1.size,h1.one,fun i' j' hi' hj'=>?_,fun i' j' hi' hj'=>?_,fun r hr=>?_,h1.rows,h1.ni,h1.costs,hs,hN⟩
        ·rw [h1.num i' j' (by omega) (by omega),key i' j' hi' hj']
        ·rw [h1.den i' j' (by omega) (by omega),key i' j' hi' hj']
        ·rw [h1.fc r (by omega),h3 r hr];rfl⟩
       have SR:Aside0 ((Try.prog.info? 62).map (·.size)=some cs1.size):=⟨by rw [Vq.out.size];exact HI.out⟩
       have PM:Aside0 ((Try.zeroCells62).size=cs1.size):=⟨by rw [Vq.out.size];exact HZ.out⟩
       clear hj' hjn hj HF
       go_wp2_with (first|((with_reducible refine bk (N:=108) rfl ?_);refine wpList_load_row rfl 62 (.tmp 9) rfl (w.heap.size+1) rfl 62 cs1 (0,0) _ HA.out hu (by rfl) SR.out ?_)|((with_reducible refine iX (t:=62) (p:=8) rfl ?_);refine wpList_store_row rfl 62 (.tmp 8) (.tmp 108) rfl w.heap.size cs1 rfl rfl 62 Try.zeroCells62 jD.out SR.out PM.out Vq.out.one ?_))
       refine bodyPost_ret (results_cell_row rfl _ _ w.heap.size 62 cs1 (0,0) _ rfl (rE jD.out) hu (by rfl) SR.out) rfl ?_
       exact ⟨cs1,rfl,Vq.out,pM bL.out (Nat.le_refl _)⟩
end Go.Proofs.Ytnhknojfpjheoaa.PT
namespace Go.Proofs.Ytnhknojfpjheoaa.P
open Go.RowKit Go.Proofs.YtnhknojfpjheoaaW.PrintWords Go.Proofs.YtnhknojfpjheoaaW.PrintLast Go.Proofs.YtnhknojfpjheoaaW.PrintMore
attribute [local go_sem] max2_int min2_int max_two min_two max_three min_three max_four min_four
set_option linter.all false
def ja.f (k:Nat) (l0:List Int):Option (Bool):=(cW.f k l0).bind fun Lh=>(some (!Lh))
theorem ja.mono:∀a0 k,aW (ja.f k a0) (ja.f (k+1) a0):=by
 intro a0 k
 unfold ja.f
 repeat' first
  |(with_reducible exact cW.mono _ _)
  |(with_reducible exact aW.refl _)
  |(with_reducible exact aW.none _)
  |(with_reducible refine aW.ite ?_ ?_)
  |(with_reducible refine aW.bind ?_ (fun _=>?_))
set_option maxHeartbeats 8000000 in
set_option maxRecDepth 100000 in
theorem ja.calls (k:Nat) (A0:Option Addr) (c0:Nat) (l0:List Int) (r:Bool) (w:World) (fE:Kd.C (Kd.int .i64) w A0 l0.length l0) (hc0:l0.length<=c0) (h:ja.f k l0=some r):
 Calls Try.prog 52 #[.slice A0 l0.length c0] w fun e w'=>e= .returned (.bool r)/\bl w w':=by
 have eL:=Aside0.mk fE
 have kB:=Aside0.mk hc0
 clear fE hc0
 have H:((cW.f k l0).bind fun Lh=>(some (!Lh)))=some r:=h
 clear h
 replace H:=Option.bind_eq_some_iff.mp H
 obtain ⟨Lh,WX,H⟩:=H
 replace H:(some (!Lh))=some r:=H
 have A2:=Aside0.mk WX
 clear WX
 obtain rfl:=Option.some.inj H
 go_enter Try.func52,Try.ntmps52
 go_wp2_with (first|((with_reducible refine aZ (f:=27) rfl ?_);refine bO (some 4) rfl rfl Try.func27 (by kernel_rfl) rfl #[.slice A0 l0.length c0] rfl (by (try simp only [List.map_toArray,List.map_cons,List.map_nil]);first|done|rfl|(simp only [List.length_drop,List.length_take];rfl)) ?_;(with_reducible refine (cW.calls k _ _ l0 Lh _ ?bX ?bY A2.out).mono ?_);(case bX=>repeat (first|exact eL.out|(with_reducible refine Kd.cO ?_ _)|(with_reducible refine Kd.cP ?_ _)|(with_reducible refine Kd.dw ?_)));(case bY=>exact kB.out);rintro e w' ⟨rfl,⟨nd,rfl⟩⟩;refine ⟨_,rfl,?_⟩))
 go_ret
 exact ⟨by first|rfl|(simp;done)|(simp [*];done),by repeat (first|exact bl.refl _|apply bl.step)⟩
def bF.l0:Nat->List Int->Int->Int->Int->Option (Int)
 |0,_,_,_,_=>none
 |k+1,x0,x1,x7,x8=>if x8<x7 then (if 0<=x8 then (if x8<(x0.length:Int) then (if x1=(rd x0 x8) then (some x8) else (bF.l0 k x0 x1 x7 (wrap64 (x8+1)))) else (none)) else (none)) else (some (-1))
def bF.f (k:Nat) (l0:List Int) (a1:Int):Option (Int):=bF.l0 k l0 a1 (l0.length:Int) 0
theorem bF.cH:∀k,(∀y0 y1 y2 y3,aW (bF.l0 k y0 y1 y2 y3) (bF.l0 (k+1) y0 y1 y2 y3))
 |0=>fun _ _ _ _ r h=>by simp [bF.l0] at h
 |k+1=>by
  have dP:=bF.cH k
  ·intro y0 y1 y2 y3
   unfold bF.l0
   repeat' first
   |(with_reducible exact dP _ _ _ _)
   |(with_reducible exact aW.refl _)
   |(with_reducible exact aW.none _)
   |(with_reducible refine aW.ite ?_ ?_)
   |(with_reducible refine aW.bind ?_ (fun _=>?_))
theorem bF.mono:∀a0 a1 k,aW (bF.f k a0 a1) (bF.f (k+1) a0 a1):=by
 intro a0 a1 k
 have dP:=bF.cH k
 unfold bF.f
 repeat' first
  |(with_reducible exact dP _ _ _ _)
  |(with_reducible exact aW.refl _)
  |(with_reducible exact aW.none _)
  |(with_reducible refine aW.ite ?_ ?_)
  |(with_reducible refine aW.bind ?_ (fun _=>?_))
set_option maxHeartbeats 8000000 in
set_option maxRecDepth 100000 in
theorem bF.calls (k:Nat) (A0:Option Addr) (c0:Nat) (l0:List Int) (a1:Int) (r:Int) (w:World) (fE:Kd.C (Kd.int .i64) w A0 l0.length l0) (hc0:l0.length<=c0) (h:bF.f k l0 a1=some r):
 Calls Try.prog 54 #[.slice A0 l0.length c0,.int .i64 a1] w fun e w'=>e= .returned (.int .i64 r)/\bl w w':=by
 have eL:=Aside0.mk fE
 have kB:=Aside0.mk hc0
 clear fE hc0
 have H:(bF.l0 k l0 a1 (l0.length:Int) 0)=some r:=h
 clear h
 have H':=Aside0.mk H
 clear H
 go_enter Try.func54,Try.ntmps54
 go_wp2
 go_loopg [8] k (fun kq v8 w'=>∃(fo:Int),v8= .int .i64 fo/\Aside0 (bF.l0 kq l0 a1 (l0.length:Int) fo=some r)/\Aside0 (kq<=k)/\bl w w')
 case atStart=>exact ⟨(0),(by first|rfl|(simp;done)|(simp [*];done)),H',⟨Nat.le_refl _⟩,by repeat (first|exact bl.refl _|apply bl.step)⟩
 case round=>
  clear H'
  try clear p2
  obtain ⟨fo,rfl,HA,fI,⟨m1,rfl⟩⟩:=hrel
  cases gk with
  |zero=>exact absurd HA.out (by simp [bF.l0])
  |succ k1=>
   have H:=HA.out
   clear HA
   simp only [bF.l0] at H
   by_cases c3:fo<(l0.length:Int)
   ·rw [if_pos c3] at H
    have gw:decide (fo<(l0.length:Int))=true:=decide_eq_true c3
    clear c3
    by_cases c4:0<=fo
    ·rw [if_pos c4] at H
     have kP:decide (0<=fo)=true:=decide_eq_true c4
     clear c4
     by_cases c5:fo<(l0.length:Int)
     ·rw [if_pos c5] at H
      have sZ:decide (fo<(l0.length:Int))=true:=decide_eq_true c5
      clear c5
      by_cases c6:a1=(rd l0 fo)
      ·rw [if_pos c6] at H
       have oQ:(a1==(rd l0 fo))=true:=beq_iff_eq.mpr c6
       have OL:(a1 !=(rd l0 fo))=false:=bne_eq_false_iff_eq.mpr c6
       clear c6
       obtain rfl:=Option.some.inj H
       have Gd:0<=(fo:Int):=of_decide_eq_true (by first|(with_reducible assumption)|assumption)
       have Ge:fo<(l0.length:Int):=of_decide_eq_true (by first|(with_reducible assumption)|assumption)
       obtain ⟨b4a,a1O,a6T⟩:=Kd.fC eL.out fo Gd Ge
       cases a1O
       replace Gd:=eq_true Gd
       replace Ge:=eq_true Ge
       go_wp2
       go_ret
       exact ⟨by first|rfl|(simp;done)|(simp [*];done),by repeat (first|exact bl.refl _|apply bl.step)⟩
      ·rw [if_neg c6] at H
       have oQ:(a1==(rd l0 fo))=false:=beq_eq_false_iff_ne.mpr c6
       have OL:(a1 !=(rd l0 fo))=true:=bne_iff_ne.mpr c6
       have H':=Aside0.mk H
       clear H
       have Gd:0<=(fo:Int):=of_decide_eq_true (by first|(with_reducible assumption)|assumption)
       have Ge:fo<(l0.length:Int):=of_decide_eq_true (by first|(with_reducible assumption)|assumption)
       obtain ⟨b4a,a1O,a6T⟩:=Kd.fC eL.out fo Gd Ge
       cases a1O
       replace Gd:=eq_true Gd
       replace Ge:=eq_true Ge
       go_wp2
       go_roundg k1
       case measure=>have:=fI.out;omega
       case rel=>exact ⟨(wrap64 (fo+1)),(by first|rfl|(simp;done)|(simp [*];done)),H',⟨by have:=fI.out;omega⟩,by repeat (first|exact bl.refl _|apply bl.step)⟩
     ·rw [if_neg c5] at H
      exact absurd H (by simp)
    ·rw [if_neg c4] at H
     exact absurd H (by simp)
   ·rw [if_neg c3] at H
    have gw:decide (fo<(l0.length:Int))=false:=decide_eq_false c3
    clear c3
    obtain rfl:=Option.some.inj H
    go_wp2
    go_ret
    exact ⟨by first|rfl|(simp;done)|(simp [*];done),by repeat (first|exact bl.refl _|apply bl.step)⟩
def dY.f (k:Nat) (l0:List Int) (a1:Int):Option (Bool):=(bF.f k l0 a1).bind fun Li=>(some (decide (Li>=0)))
theorem dY.mono:∀a0 a1 k,aW (dY.f k a0 a1) (dY.f (k+1) a0 a1):=by
 intro a0 a1 k
 unfold dY.f
 repeat' first
  |(with_reducible exact bF.mono _ _ _)
  |(with_reducible exact aW.refl _)
  |(with_reducible exact aW.none _)
  |(with_reducible refine aW.ite ?_ ?_)
  |(with_reducible refine aW.bind ?_ (fun _=>?_))
set_option maxHeartbeats 8000000 in
set_option maxRecDepth 100000 in
theorem dY.calls (k:Nat) (A0:Option Addr) (c0:Nat) (l0:List Int) (a1:Int) (r:Bool) (w:World) (fE:Kd.C (Kd.int .i64) w A0 l0.length l0) (hc0:l0.length<=c0) (h:dY.f k l0 a1=some r):
 Calls Try.prog 31 #[.slice A0 l0.length c0,.int .i64 a1] w fun e w'=>e= .returned (.bool r)/\bl w w':=by
 have eL:=Aside0.mk fE
 have kB:=Aside0.mk hc0
 clear fE hc0
 have H:((bF.f k l0 a1).bind fun Li=>(some (decide (Li>=0))))=some r:=h
 clear h
 replace H:=Option.bind_eq_some_iff.mp H
 obtain ⟨Li,iO,H⟩:=H
 replace H:(some (decide (Li>=0)))=some r:=H
 have A3:=Aside0.mk iO
 clear iO
 obtain rfl:=Option.some.inj H
 go_enter Try.func31,Try.ntmps31
 go_wp2_with (first|((with_reducible refine aZ (f:=54) rfl ?_);refine bO (some 7) rfl rfl Try.func54 (by kernel_rfl) rfl #[.slice A0 l0.length c0,.int .i64 a1] rfl (by (try simp only [List.map_toArray,List.map_cons,List.map_nil]);first|done|rfl|(simp only [List.length_drop,List.length_take];rfl)) ?_;(with_reducible refine (bF.calls k _ _ l0 a1 Li _ ?bX ?bY A3.out).mono ?_);(case bX=>repeat (first|exact eL.out|(with_reducible refine Kd.cO ?_ _)|(with_reducible refine Kd.cP ?_ _)|(with_reducible refine Kd.dw ?_)));(case bY=>exact kB.out);rintro e w' ⟨rfl,⟨nd,rfl⟩⟩;refine ⟨_,rfl,?_⟩))
 go_ret
 exact ⟨by first|rfl|(simp;done)|(simp [*];done),by repeat (first|exact bl.refl _|apply bl.step)⟩
end Go.Proofs.Ytnhknojfpjheoaa.P
namespace Go.Proofs.Ytnhknojfpjheoaa.PT
open Go.RowKit Go.Proofs.Ytnhknojfpjheoaa.P Go.Proofs.YtnhknojfpjheoaaW.PrintWords Go.Proofs.YtnhknojfpjheoaaW.PrintLast Go.Proofs.Ytnhknojfpjheoaa.EvKit
set_option linter.all false
def Gf (v:Int):List Int->Nat->Int
 | [],_=> -1
 |x::r,i=>if v=x then i else Gf v r (i+1)
theorem Qe (v:Int):∀(l:List Int) (i:Nat),0<=Gf v l i↔v∈l
 | [],i=>by simp [Gf]
 |x::r,i=>by
  simp only [Gf]
  by_cases h:v=x
  ·rw [if_pos h];subst h;simp
  ·rw [if_neg h,Qe v r (i+1)];simp [h]
theorem Rs (l:List Int) (v:Int) (hl:l.length<=1048576):Ev (fun k=>bF.f k l v) (Gf v l 0):=by
 unfold bF.f
 have:=Ev.loop (g:=fun k i=>bF.l0 k l v (l.length:Int) (i:Int)) (n:=l.length) (R:=fun i=>Gf v (l.drop i) i) ?_ ?_ 0 (Nat.zero_le _)
 ·simpa using this
 ·refine Ev.succ ?_
  simp only [bF.l0]
  rw [List.drop_of_length_le (l:=l) (Nat.le_refl _)]
  exact Ev.neg (by omega) (Ev.now _)
 ·intro i hi ih
  refine Ev.succ ?_
  simp only [bF.l0,qa hi,eD (show i<=9223372036854775806 by omega)]
  rw [yK hi]
  refine Ev.pos (by omega) (Ev.pos (by omega) (Ev.pos (by omega) ?_))
  simp only [Gf]
  by_cases c:v=l[i]
  ·rw [if_pos c];exact Ev.pos c (Ev.now _)
  ·rw [if_neg c];exact Ev.neg c ih
theorem zK (l:List Int) (v:Int) (hl:l.length<=1048576):Ev (fun k=>dY.f k l v) (decide (v∈l)):=by
 unfold dY.f
 refine Ev.bind (Rs l v hl) (Ev.to (Ev.now _) ?_)
 rw [decide_eq_decide]
 exact Qe v l 0
def gm (p:List Int->Bool):List (List Int)->Nat->Int
 | [],_=> -1
 |x::r,i=>if p x=true then i else gm p r (i+1)
theorem AP (p:List Int->Bool):∀(l:List (List Int)) (i:Nat),decide (gm p l i>=0)=l.any p
 | [],i=>rfl
 |x::r,i=>by
  by_cases h:p x=true
  ·have e:gm p (x::r) i=(i:Int):=if_pos h
   rw [e,List.any_cons,h,Bool.true_or];exact decide_eq_true (by omega)
  ·have e:gm p (x::r) i=gm p r (i+1):=if_neg h
   rw [e,AP p r (i+1),List.any_cons,Bool.eq_false_iff.mpr h,Bool.false_or]
theorem iV {w w':World} (h:bl w w'):Below w.heap.size w w':=by
 obtain ⟨n,rfl⟩:=h
 exact gj (Below.refl _ _) n
set_option maxHeartbeats 2000000 in
set_option maxRecDepth 100000 in
theorem Rt (p:List Int->Bool) (A:Option Addr) (c:Nat) (l:List (List Int)) (w:World) (hr:Kd.C BA w A l.length l) (hc:l.length<=c)
 (hF:∀row,row∈l->∀A1 c1 W,Below w.heap.size w W->Kd.C (Kd.int .i64) W A1 row.length row->row.length<=c1->Calls Try.prog 52 #[.slice A1 row.length c1] W fun e w'=>e= .returned (.bool (p row))/\Below W.heap.size W w'):
 Calls Try.prog 53 #[.slice A l.length c,.func (.func 52) #[] #[]] w fun e w'=>e= .returned (.int .i64 (gm p l 0))/\Below w.heap.size w w':=by
 have HR:=Aside0.mk hr
 have hlen:l.length<=9223372036854775807:=hr.2.1
 have HF:=Aside0.mk hF
 clear hr hF
 go_enter Try.func53,Try.ntmps53
 go_wp2
 go_loopw [8] (fun iv wr=>∃i:Nat,iv= .int .i64 (i:Int)/\i<=l.length/\Aside0 (gm p l 0=gm p (l.drop i) i)/\Aside0 (Below w.heap.size w wr)) (fun iv _=>l.length -(intOf iv).toNat)
 case atStart=>exact ⟨0,rfl,by omega,⟨by simp⟩,⟨by repeat (first|exact Below.refl _ _|apply bn)⟩⟩
 case round=>
  obtain ⟨i,rfl,hi,HE,HB⟩:=hrel
  by_cases hlt:i<l.length
  ·obtain ⟨ad,A1,c1,e,hx,hlx,IJ⟩:=zJ HR.out i hlt
   have vX:=Aside0.mk (HF.out l[i] (List.getElem_mem hlt) A1 c1 wr HB.out (Kd.bQ IJ HB.out) hlx)
   have kZ:Aside0 (gm p l 0=if p l[i]=true then (i:Int) else gm p (l.drop (i+1)) (i+1)):=⟨by rw [HE.out,List.drop_eq_getElem_cons hlt];rfl⟩
   cases e
   have hx2:wr.cell? (ad.add i)=some (.slice A1 (l[i]).length c1):=(HB.out.cell (World.block_lt_of_cell? w _ hx)).trans hx
   have HI:=Aside0.mk hlt
   have fy:Aside0 (wrap64 ((i:Int)+1)=((i+1:Nat):Int)):=⟨eD (by omega)⟩
   have g0:(0:Int)<=(i:Int):=by omega
   have g1:(i:Int)<(l.length:Int):=by omega
   have vH:decide ((i:Int)<(l.length:Int))=true:=decide_eq_true g1
   have sD:decide (i<l.length)=true:=decide_eq_true hlt
   clear hx hlx IJ hi HE
   generalize l[i]=row at*
   generalize p row=y at*
   clear hlt
   cases y with
   |true=>
    have mX:Aside0 (gm p l 0=(i:Int)):=⟨by rw [kZ.out,if_pos rfl]⟩
    clear kZ
    go_wp2_with (first|(go_at_call 52;(with_reducible refine vX.out.mono ?_);rintro e w1 ⟨rfl,hb1⟩;have dG:=Aside0.mk (ai HB.out hb1);clear hb1 vX))
    go_ret
    exact ⟨by rw [mX.out];first|done|rfl,dG.out⟩
   |false=>
    have mX:Aside0 (gm p l 0=gm p (l.drop (i+1)) (i+1)):=⟨by rw [kZ.out,if_neg (by decide)]⟩
    clear kZ
    go_wp2_with (first|(go_at_call 52;(with_reducible refine vX.out.mono ?_);rintro e w1 ⟨rfl,hb1⟩;have dG:=Aside0.mk (ai HB.out hb1);clear hb1 vX))
    go_roundw
    case rel=>exact ⟨i+1,by first|(rw [fy.out];done)|rfl|(simp;done),HI.out,mX,dG⟩
    case measure=>(try rw [fy.out]);have:=HI.out;simp [intOf];omega
  ·have hil:i=l.length:=by omega
   have mX:Aside0 (gm p l 0= -1):=⟨by rw [HE.out,hil,List.drop_length];rfl⟩
   have vH:decide ((i:Int)<(l.length:Int))=false:=decide_eq_false (by omega)
   have sD:decide (i<l.length)=false:=decide_eq_false hlt
   clear hil hlt hi HE
   go_wp2
   go_ret
   exact ⟨by rw [mX.out];first|done|rfl,HB.out⟩
set_option maxHeartbeats 2000000 in
set_option maxRecDepth 100000 in
theorem Lj (p:List Int->Bool) (A:Option Addr) (c:Nat) (l:List (List Int)) (w:World) (hr:Kd.C BA w A l.length l) (hc:l.length<=c)
 (hF:∀row,row∈l->∀A1 c1 W,Below w.heap.size w W->Kd.C (Kd.int .i64) W A1 row.length row->row.length<=c1->Calls Try.prog 52 #[.slice A1 row.length c1] W fun e w'=>e= .returned (.bool (p row))/\Below W.heap.size W w'):
 Calls Try.prog 29 #[.slice A l.length c,.func (.func 52) #[] #[]] w fun e w'=>e= .returned (.bool (l.any p))/\Below w.heap.size w w':=by
 have HI:=Aside0.mk (Rt p A c l w hr hc hF)
 have HA:Aside0 (decide (gm p l 0>=0)=l.any p):=⟨AP p l 0⟩
 clear hr hc hF
 generalize gm p l 0=x at*
 go_enter Try.func29,Try.ntmps29
 go_wp2_with (first|(go_at_call 53;(with_reducible refine HI.out.mono ?_);rintro e w1 ⟨rfl,hb1⟩;have dG:=Aside0.mk hb1;clear hb1))
 go_ret
 exact ⟨by rw [<-HA.out];first|done|rfl,dG.out⟩
set_option maxHeartbeats 2000000 in
set_option maxRecDepth 100000 in
theorem Ru (p:List Int->Bool) (A:Option Addr) (c:Nat) (l:List (List Int)) (g:Nat) (w:World) (hr:Kd.C BA w A l.length l) (hc:l.length<=c)
 (hF:∀row,row∈l->∀A1 c1 W,Below w.heap.size w W->Kd.C (Kd.int .i64) W A1 row.length row->row.length<=c1->Calls Try.prog 30 #[.slice A1 row.length c1,.pointer (some ⟨g,0,none⟩)] W fun e w'=>e= .returned (.bool (p row))/\Below W.heap.size W w'):
 Calls Try.prog 53 #[.slice A l.length c,.func (.func 30) #[] #[.pointer (some ⟨g,0,none⟩)]] w fun e w'=>e= .returned (.int .i64 (gm p l 0))/\Below w.heap.size w w':=by
 have HR:=Aside0.mk hr
 have hlen:l.length<=9223372036854775807:=hr.2.1
 have HF:=Aside0.mk hF
 clear hr hF
 go_enter Try.func53,Try.ntmps53
 go_wp2
 go_loopw [8] (fun iv wr=>∃i:Nat,iv= .int .i64 (i:Int)/\i<=l.length/\Aside0 (gm p l 0=gm p (l.drop i) i)/\Aside0 (Below w.heap.size w wr)) (fun iv _=>l.length -(intOf iv).toNat)
 case atStart=>exact ⟨0,rfl,by omega,⟨by simp⟩,⟨by repeat (first|exact Below.refl _ _|apply bn)⟩⟩
 case round=>
  obtain ⟨i,rfl,hi,HE,HB⟩:=hrel
  by_cases hlt:i<l.length
  ·obtain ⟨ad,A1,c1,e,hx,hlx,IJ⟩:=zJ HR.out i hlt
   have vX:=Aside0.mk (HF.out l[i] (List.getElem_mem hlt) A1 c1 wr HB.out (Kd.bQ IJ HB.out) hlx)
   have kZ:Aside0 (gm p l 0=if p l[i]=true then (i:Int) else gm p (l.drop (i+1)) (i+1)):=⟨by rw [HE.out,List.drop_eq_getElem_cons hlt];rfl⟩
   cases e
   have hx2:wr.cell? (ad.add i)=some (.slice A1 (l[i]).length c1):=(HB.out.cell (World.block_lt_of_cell? w _ hx)).trans hx
   have HI:=Aside0.mk hlt
   have fy:Aside0 (wrap64 ((i:Int)+1)=((i+1:Nat):Int)):=⟨eD (by omega)⟩
   have g0:(0:Int)<=(i:Int):=by omega
   have g1:(i:Int)<(l.length:Int):=by omega
   have vH:decide ((i:Int)<(l.length:Int))=true:=decide_eq_true g1
   have sD:decide (i<l.length)=true:=decide_eq_true hlt
   clear hx hlx IJ hi HE
   generalize l[i]=row at*
   generalize p row=y at*
   clear hlt
   cases y with
   |true=>
    have mX:Aside0 (gm p l 0=(i:Int)):=⟨by rw [kZ.out,if_pos rfl]⟩
    clear kZ
    go_wp2_with (first|(go_at_call 30;(with_reducible refine vX.out.mono ?_);rintro e w1 ⟨rfl,hb1⟩;have dG:=Aside0.mk (ai HB.out hb1);clear hb1 vX))
    go_ret
    exact ⟨by rw [mX.out];first|done|rfl,dG.out⟩
   |false=>
    have mX:Aside0 (gm p l 0=gm p (l.drop (i+1)) (i+1)):=⟨by rw [kZ.out,if_neg (by decide)]⟩
    clear kZ
    go_wp2_with (first|(go_at_call 30;(with_reducible refine vX.out.mono ?_);rintro e w1 ⟨rfl,hb1⟩;have dG:=Aside0.mk (ai HB.out hb1);clear hb1 vX))
    go_roundw
    case rel=>exact ⟨i+1,by first|(rw [fy.out];done)|rfl|(simp;done),HI.out,mX,dG⟩
    case measure=>(try rw [fy.out]);have:=HI.out;simp [intOf];omega
  ·have hil:i=l.length:=by omega
   have mX:Aside0 (gm p l 0= -1):=⟨by rw [HE.out,hil,List.drop_length];rfl⟩
   have vH:decide ((i:Int)<(l.length:Int))=false:=decide_eq_false (by omega)
   have sD:decide (i<l.length)=false:=decide_eq_false hlt
   clear hil hlt hi HE
   go_wp2
   go_ret
   exact ⟨by rw [mX.out];first|done|rfl,HB.out⟩
set_option maxHeartbeats 2000000 in
set_option maxRecDepth 100000 in
theorem Lk (p:List Int->Bool) (A:Option Addr) (c:Nat) (l:List (List Int)) (g:Nat) (w:World) (hr:Kd.C BA w A l.length l) (hc:l.length<=c)
 (hF:∀row,row∈l->∀A1 c1 W,Below w.heap.size w W->Kd.C (Kd.int .i64) W A1 row.length row->row.length<=c1->Calls Try.prog 30 #[.slice A1 row.length c1,.pointer (some ⟨g,0,none⟩)] W fun e w'=>e= .returned (.bool (p row))/\Below W.heap.size W w'):
 Calls Try.prog 29 #[.slice A l.length c,.func (.func 30) #[] #[.pointer (some ⟨g,0,none⟩)]] w fun e w'=>e= .returned (.bool (l.any p))/\Below w.heap.size w w':=by
 have HI:=Aside0.mk (Ru p A c l g w hr hc hF)
 have HA:Aside0 (decide (gm p l 0>=0)=l.any p):=⟨AP p l 0⟩
 clear hr hc hF
 generalize gm p l 0=x at*
 go_enter Try.func29,Try.ntmps29
 go_wp2_with (first|(go_at_call 53;(with_reducible refine HI.out.mono ?_);rintro e w1 ⟨rfl,hb1⟩;have dG:=Aside0.mk hb1;clear hb1))
 go_ret
 exact ⟨by rw [<-HA.out];first|done|rfl,dG.out⟩
set_option maxHeartbeats 1000000 in
theorem Vr (A:Option Addr) (c:Nat) (l:List Int) (w:World) (hr:Kd.C (Kd.int .i64) w A l.length l) (hc:l.length<=c) (hl:l.length<=1048576):
 Calls Try.prog 52 #[.slice A l.length c] w fun e w'=>e= .returned (.bool (!jY (-1) l))/\Below w.heap.size w w':=by
 have hev:Ev (fun k=>ja.f k l) (!jY (-1) l):=by
  unfold ja.f
  exact Ev.bind (Av l (by omega)) (Ev.now _)
 obtain ⟨k,hk⟩:=Ev.rounds hev
 refine (ja.calls k A c l _ w hr hc hk).mono ?_
 rintro e w1 ⟨rfl,h⟩
 exact ⟨rfl,iV h⟩
set_option maxHeartbeats 1000000 in
theorem YH (A:Option Addr) (c:Nat) (l:List Int) (g:Nat) (v:Int) (w:World) (hr:Kd.C (Kd.int .i64) w A l.length l) (hc:l.length<=c) (hl:l.length<=1048576) (hv:w.cell? ⟨g,0,none⟩=some (.int .i64 v)):
 Calls Try.prog 30 #[.slice A l.length c,.pointer (some ⟨g,0,none⟩)] w fun e w'=>e= .returned (.bool (decide (v∈l)))/\Below w.heap.size w w':=by
 obtain ⟨k,hk⟩:=Ev.rounds (zK l v hl)
 have HC:=Aside0.mk (dY.calls k A c l v _ w hr hc hk)
 clear hr hk
 generalize decide (v∈l)=y at*
 go_enter Try.func30,Try.ntmps30
 go_wp2_with (first|(go_at_call 31;(with_reducible refine HC.out.mono ?_);rintro e w1 ⟨rfl,hb1⟩;have dG:=Aside0.mk (iV hb1);clear hb1))
 go_ret
 exact ⟨rfl,dG.out⟩
set_option maxHeartbeats 1000000 in
theorem EN (A:Option Addr) (c:Nat) (l:List (List Int)) (w:World) (hr:Kd.C BA w A l.length l) (hc:l.length<=c) (hl:∀x,x∈l->x.length<=1048576):
 Calls Try.prog 28 #[.slice A l.length c] w fun e w'=>e= .returned (.bool (decide (l.length<=7)&&l.all (jY (-1))))/\Below w.heap.size w w':=by
 have HC:=Aside0.mk (Lj (fun l=> !jY (-1) l) A c l w hr hc (fun row hrow A1 c1 W hb hC hc1=>Vr A1 c1 row W hC hc1 (hl row hrow)))
 have HE:Aside0 ((!l.any (fun l=> !jY (-1) l))=l.all (jY (-1))):=⟨by
  rw [List.all_eq_not_any_not]⟩
 clear hr hl
 generalize l.any (fun l=> !jY (-1) l)=y at*
 by_cases h7:l.length<=7
 ·have g1:decide ((l.length:Int)<=7)=true:=decide_eq_true (by omega)
  have HD:Aside0 (decide (l.length<=7)=true):=⟨decide_eq_true h7⟩
  have sD:decide (l.length<=7)=true:=HD.out
  clear h7
  go_enter Try.func28,Try.ntmps28
  go_wp2_with (first|(go_at_call 29;(with_reducible refine HC.out.mono ?_);rintro e w1 ⟨rfl,hb1⟩;have dG:=Aside0.mk hb1;clear hb1))
  go_ret
  exact ⟨by rw [HD.out,<-HE.out];first|done|rfl|simp,dG.out⟩
 ·have g1:decide ((l.length:Int)<=7)=false:=decide_eq_false (by omega)
  have HD:Aside0 (decide (l.length<=7)=false):=⟨decide_eq_false h7⟩
  have sD:decide (l.length<=7)=false:=HD.out
  clear h7
  go_enter Try.func28,Try.ntmps28
  go_wp2_with (first|(go_at_call 29;(with_reducible refine HC.out.mono ?_);rintro e w1 ⟨rfl,hb1⟩;have dG:=Aside0.mk hb1;clear hb1))
  go_ret
  exact ⟨by rw [HD.out];first|done|rfl|simp,Below.refl _ _⟩
structure rU (W:World) (base n:Nat) (vs:Nat->Value) (rows:Nat->List Int):Prop where
 own:∀i,i<n->Kd.R (Kd.int .i64) 3 W base (fun _=>True) (vs i) (rows i)
 apart:∀i j,i<n->j<n->i≠j->∀k,(vs i).ownBlock=some k->(vs j).ownBlock≠some k
theorem Oa {W W1:World} {base:Nat} {v:Value} {xs:List Int} (h:Kd.R (Kd.int .i64) 3 W base (fun _=>True) v xs) (hm:∀k,v.ownBlock=some k->W1.heap[k]? =W.heap[k]?):Kd.R (Kd.int .i64) 3 W1 base (fun _=>True) v xs:=by
 have h':Kd.R (Kd.int .i64) 3 W base (fun k=>v.ownBlock=some k) v xs:=⟨fun k hk=>hk,h.2.ny (fun _ _ hp=>hp)⟩
 exact Kd.dU (Kd.wF h' hm) (fun _ _=>trivial)
theorem zL {W:World} {base:Nat} {v:Value} {xs:List Int} (h:Kd.R (Kd.int .i64) 3 W base (fun _=>True) v xs) {k:Nat} (hk:v.ownBlock=some k):base<=k/\k<W.heap.size/\∃cells,W.heap[k]? =some (.cells cells 3 (0,0)):=by
 obtain ⟨_,inner,ho,_⟩:=h
 exact ⟨rA ho k hk,Gx ho k hk,pH ho k hk⟩
theorem rU.move {W W1:World} {base n:Nat} {vs:Nat->Value} {rows:Nat->List Int} (h:rU W base n vs rows) (hm:∀k,base<=k->k<W.heap.size->(∃cells,W.heap[k]? =some (.cells cells 3 (0,0)))->W1.heap[k]? =W.heap[k]?):rU W1 base n vs rows:=
 ⟨fun i hi=>Oa (h.own i hi) (fun k hk=>by obtain ⟨h1,h2,h3⟩:=zL (h.own i hi) hk;exact hm k h1 h2 h3),h.apart⟩
theorem rU.below {W W1:World} {base n:Nat} {vs:Nat->Value} {rows:Nat->List Int} (h:rU W base n vs rows) (hb:Below W.heap.size W W1):rU W1 base n vs rows:=
 h.move (fun k _ hk _=>hb.block k hk)
theorem rU.put {W:World} {base n:Nat} {vs:Nat->Value} {rows:Nat->List Int} (h:rU W base n vs rows) {g:Nat} {cs:Array Value} {t:TypeId} (hg:W.heap[g]? =some (.cells cs t (0,0))) (ht:t≠3) (i:Nat) (v:Value):rU (W.setCell ⟨g,i,none⟩ v) base n vs rows:=
 h.move (fun k _ _ ⟨cells,hk⟩=>by
  have hne:k≠g:=by
   intro e;rw [e,hg] at hk;simp only [Option.some.injEq,Obj.cells.injEq] at hk;exact ht hk.2.1
  exact (bA (W:=W) (o:= .cells cells 3 (0,0)) hk hne).trans hk.symm)
theorem rU.app {W w1:World} {base n:Nat} {vs:Nat->Value} {rows:Nat->List Int} (h:rU W base n vs rows) {i:Nat} (hi:i<n) {v1:Value} {xs:List Int} (ho:Kd.R (Kd.int .i64) 3 w1 base (fun _=>True) v1 xs) (hg:W.grownBy w1 (vs i).ownBlock) (hat:v1.ownBlock=(vs i).ownBlock∨∃b,v1.ownBlock=some b/\W.heap.size<=b):
 rU w1 base n (fun k=>if k=i then v1 else vs k) (fun k=>if k=i then xs else rows k):=by
 have hlt:∀j,j<n->∀k,(vs j).ownBlock=some k->k<W.heap.size:=fun j hj k hk=>(zL (h.own j hj) hk).2.1
 refine ⟨fun j hj=>?_,fun j l hj hl hne k hk=>?_⟩
 ·by_cases e:j=i
  ·subst e;rw [if_pos rfl,if_pos rfl];exact ho
  ·rw [if_neg e,if_neg e]
   exact Oa (h.own j hj) (fun k hk=>hg.block k (hlt j hj k hk) (fun e2=>h.apart j i hj hi e k hk e2.symm))
 ·by_cases e:j=i
  ·subst e
   rw [if_pos rfl] at hk
   rw [if_neg (fun e=>hne e.symm)]
   rcases hat with hat|⟨b,hb,hsz⟩
   ·rw [hat] at hk;exact h.apart j l hj hl hne k hk
   ·rw [hb] at hk
    intro h2
    have:=hlt l hl k h2
    have:b=k:=Option.some.inj hk
    omega
  ·rw [if_neg e] at hk
   by_cases e2:l=i
   ·subst e2
    rw [if_pos rfl]
    rcases hat with hat|⟨b,hb,hsz⟩
    ·rw [hat];exact h.apart j l hj hl hne k hk
    ·rw [hb]
     intro h2
     have:=hlt j hj k hk
     have:b=k:=Option.some.inj h2
     omega
   ·rw [if_neg e2];exact h.apart j l hj hl hne k hk
def lu (W:World) (g n off:Nat) (vs:Nat->Value):Prop:=∃cs:Array Value,W.heap[g]? =some (.cells cs 22 (0,0))/\cs.size=n/\∀i,i<n->cs[i]? =some (vs (off+i))
theorem lu.move {W W1:World} {g n off:Nat} {vs:Nat->Value} (h:lu W g n off vs) (e:W1.heap[g]? =W.heap[g]?):lu W1 g n off vs:=by
 obtain ⟨cs,h1,h2⟩:=h;exact ⟨cs,e.trans h1,h2⟩
theorem lu.lt {W:World} {g n off:Nat} {vs:Nat->Value} (h:lu W g n off vs):g<W.heap.size:=by
 obtain ⟨cs,h1,_⟩:=h;exact aY h1
theorem lu.below {W W1:World} {g n off:Nat} {vs:Nat->Value} (h:lu W g n off vs) (hb:Below W.heap.size W W1):lu W1 g n off vs:=h.move (hb.block _ h.lt)
theorem lu.grown {W W1:World} {g n off:Nat} {vs:Nat->Value} (h:lu W g n off vs) {v:Value} {base:Nat} {xs:List Int} (hR:Kd.R (Kd.int .i64) 3 W base (fun _=>True) v xs) (hg:W.grownBy W1 v.ownBlock):lu W1 g n off vs:=
 h.move (hg.block g h.lt (fun e=>by
  obtain ⟨cs,h1,_⟩:=h
  obtain ⟨_,_,cells,hk⟩:=zL hR e.symm
  rw [h1] at hk;simp only [Option.some.injEq,Obj.cells.injEq] at hk
  exact absurd hk.2.1 (by decide)))
theorem lu.at {W:World} {g n off:Nat} {vs:Nat->Value} (h:lu W g n off vs) {i:Nat} (hi:i<n):W.cell? ⟨g,i,none⟩=some (vs (off+i)):=by
 obtain ⟨cs,h1,_,h2⟩:=h;exact bz h1 (h2 i hi)
theorem lu.frozen {W:World} {g n off:Nat} {vs:Nat->Value} (h:lu W g n off vs) (i:Nat):W.frozen? ⟨g,i,none⟩=false:=by
 obtain ⟨cs,h1,_⟩:=h;exact aa h1 i
theorem lu.put {W:World} {g n off:Nat} {vs:Nat->Value} (h:lu W g n off vs) {i:Nat} (hi:i<n) (v:Value):lu (W.setCell ⟨g,i,none⟩ v) g n off (fun k=>if k=off+i then v else vs k):=by
 obtain ⟨cs,h1,h2,h3⟩:=h
 refine ⟨_,heap_set h1,by simp [h2],fun j hj=>?_⟩
 by_cases e:j=i
 ·subst e;rw [Array.getElem?_setIfInBounds,if_pos rfl,if_pos (by omega)]
  show some v=some (if off+j=off+j then v else vs (off+j))
  rw [if_pos rfl]
 ·rw [Array.getElem?_setIfInBounds_ne (by omega),h3 j hj]
  show some (vs (off+j))=some (if off+j=off+i then v else vs (off+j))
  rw [if_neg (by omega)]
theorem lu.other {W:World} {g g' n off i:Nat} {vs:Nat->Value} {v:Value} (h:lu W g n off vs) (hne:g≠g'):lu (W.setCell ⟨g',i,none⟩ v) g n off vs:=by
 obtain ⟨cs,h1,h2⟩:=h;exact ⟨cs,bA h1 hne,h2⟩
theorem lu.congr {W:World} {g n off:Nat} {vs vs':Nat->Value} (h:lu W g n off vs) (e:∀i,i<n->vs' (off+i)=vs (off+i)):lu W g n off vs':=by
 obtain ⟨cs,h1,h2,h3⟩:=h;exact ⟨cs,h1,h2,fun i hi=>by rw [e i hi];exact h3 i hi⟩
theorem MM {W:World} {base N g n off:Nat} {vs:Nat->Value} {rows:Nat->List Int} (hF:rU W base N vs rows) (hC:lu W g n off vs) (hN:off+n<=N) (hn:n<=1048576):Kd.C BA W (some ⟨g,0,none⟩) n ((List.range n).map (fun i=>rows (off+i))):=by
 obtain ⟨cs,h1,h2,h3⟩:=hC
 refine ⟨by simp,by omega,fun _=>⟨_,rfl,fun j p hp=>?_⟩⟩
 have hj:j<n:=by
  have:=(List.getElem?_eq_some_iff.1 hp).1;simpa using this
 have RF:p=rows (off+j):=by simpa [hj] using hp.symm
 obtain ⟨A,c,he,hl,hc⟩:=Kd.sW (hF.own (off+j) (by omega))
 refine ⟨[vs (off+j)],rfl,⟨A,c,by rw [he,RF],by rw [RF];exact hl,by rw [RF];exact hc⟩,fun i u hu=>?_⟩
 have hi:i=0:=by
  have:=(List.getElem?_eq_some_iff.1 hu).1;simp at this;exact this
 subst hi
 have YI:u=vs (off+j):=by simpa using hu.symm
 rw [YI,show (BA).sz=1 from rfl,Nat.mul_one,Nat.add_zero,add_plain]
 exact bz h1 (h3 j hj)
def lM (n:Nat):Array Value:=(List.replicate n (Value.slice none 0 0)).toArray
theorem YJ (n:Nat) (h:n<=1048576) (w:World):(Instr.makeSlice 23 (.int .i64 (n:Int)) (.int .i64 (n:Int))).run Try.prog w= .ok (.slice (some ⟨w.heap.size,0,none⟩) n n) (w.alloc (.cells (lM n) 22)):=by
 obtain ⟨i,hi,hz,hs,hb⟩:=info_parts (show (Try.prog.info? 22).map (fun i=>(i.zero,i.size,i.bytes))=some (some (.slice none 0 0),1,24) by kernel_rfl)
 have hr:=run_make (P:=Try.prog) w 23 22 i (.slice none 0 0) Try.underlying23 hi hz .i64 .i64 n n (by omega) (by omega) (by rw [hb];omega) (by omega)
 have e:(Value.slice none 0 0).cells= #[.slice none 0 0]:=rfl
 have e2:madeCells #[Value.slice none 0 0] n=lM n:=by
  apply Array.ext
  ·rw [size_madeCells];simp [lM]
  ·intro i h1 h2
   simp [madeCells,lM]
   rw [Nat.mod_one];rfl
 rw [e] at hr
 simpa [hs,e2] using hr
theorem Qf {W:World} {g n off:Nat} (h:W.heap[g]? =some (.cells (lM n) 22 (0,0))):lu W g n off (fun _=> .slice none 0 0):=
 ⟨_,h,by simp [lM],fun i hi=>by unfold lM;rw [List.getElem?_toArray,List.getElem?_replicate,if_pos hi]⟩
theorem a1P (W:World) (base n:Nat):rU W base n (fun _=> .slice none 0 0) (fun _=>[]):=
 ⟨fun i hi=>Kd.rX _ _ _ _ _,fun i j _ _ _ k hk=>by simp [Value.ownBlock] at hk⟩
end Go.Proofs.Ytnhknojfpjheoaa.PT
namespace Go.Proofs.Ytnhknojfpjheoaa.PT
open Go.RowKit Go.Proofs.Ytnhknojfpjheoaa.P Go.Proofs.YtnhknojfpjheoaaW.PrintWords Go.Proofs.YtnhknojfpjheoaaW.PrintLast Go.Proofs.Ytnhknojfpjheoaa.EvKit Go.Proofs.Ytnhknojfpjheoaa.Num Go.Proofs.Ytnhknojfpjheoaa.Lp
set_option linter.all false
theorem b4b {B m N K r b c:Nat} {T:bw} {cs:Array Value} (HR:gD cs m N K T) (hr:r<m+K) (hb:b<m+K) (hc:c<=N) (w':World) (h:w'.heap[B]? =some (.cells cs 62 (0,0))):w'.cell? ⟨B,529,none⟩=some (.int .i64 (N:Int))/\w'.cell? ⟨B,r*32+N*2,none⟩=some (.int .i64 (T.cell r N).num)/\w'.cell? ⟨B,r*32+N*2+1,none⟩=some (.int .i64 ((T.cell r N).den:Int))/\w'.cell? ⟨B,r*32+c*2,none⟩=some (.int .i64 (T.cell r c).num)/\w'.cell? ⟨B,r*32+c*2+1,none⟩=some (.int .i64 ((T.cell r c).den:Int))/\w'.cell? ⟨B,b*32+N*2,none⟩=some (.int .i64 (T.cell b N).num)/\w'.cell? ⟨B,b*32+N*2+1,none⟩=some (.int .i64 ((T.cell b N).den:Int))/\w'.cell? ⟨B,b*32+c*2,none⟩=some (.int .i64 (T.cell b c).num)/\w'.cell? ⟨B,b*32+c*2+1,none⟩=some (.int .i64 ((T.cell b c).den:Int)):=
 ⟨bz h HR.ni,bz h (HR.num r N hr (Nat.le_refl _)),bz h (HR.den r N hr (Nat.le_refl _)),bz h (HR.num r c hr hc),bz h (HR.den r c hr hc),bz h (HR.num b N hb (Nat.le_refl _)),bz h (HR.den b N hb (Nat.le_refl _)),bz h (HR.num b c hb hc),bz h (HR.den b c hb hc)⟩
theorem Ll {q:Rat}:0<jC q↔0<q:=by
 unfold jC
 by_cases h1:q<0
 ·rw [if_pos h1];constructor
  ·intro h;omega
  ·intro h;grind
 ·rw [if_neg h1]
  by_cases h2:0<q
  ·rw [if_pos h2];exact ⟨fun _=>h2,fun _=>by omega⟩
  ·rw [if_neg h2];exact ⟨fun h=>by omega,fun h=>absurd h h2⟩
theorem lA.diff {D C m N K:Nat} {T:bw} (h:lA D C m N K T) (hp:∀r,r<m->0<=T.cell r N) {r b c:Nat} (hr:r<m) (hb:b<m) (hc:c<=N) (hrc:0<T.cell r c) (hbc:0<T.cell b c):Ok (T.cell r N/T.cell r c - T.cell b N/T.cell b c):=by
 obtain ⟨x,y,hy,e,hx,hyb⟩:=h.quot hr (Nat.le_refl N) hc (fun h0=>by rw [h0] at hrc;grind)
 obtain ⟨x',y',hy',e',hx',b8e⟩:=h.quot hb (Nat.le_refl N) hc (fun h0=>by rw [h0] at hbc;grind)
 have h1:0<=T.cell r N/T.cell r c:=vO (hp r hr) hrc
 have h2:0<=T.cell b N/T.cell b c:=vO (hp b hb) hbc
 generalize T.cell r N/T.cell r c=p at*
 generalize T.cell b N/T.cell b c=q at*
 have EF:p.num.natAbs<=D/\p.den<=D:=Qu.num ⟨x,y,hy,e,hx,hyb⟩
 have hqn:q.num.natAbs<=D/\q.den<=D:=Qu.num ⟨x',y',hy',e',hx',b8e⟩
 have hp0:0<=p.num:=Rat.num_nonneg.2 h1
 have Yg:0<=q.num:=Rat.num_nonneg.2 h2
 have a1Q:=FN p
 have b4c:=FN q
 refine Qu.ok (a:=D*D) (b:=D*D) ⟨p.num*q.den - q.num*p.den,p.den*q.den,by have:=Int.mul_pos a1Q b4c;omega,sub_mul p q,?_,?_⟩ h.dd h.dd
 ·have k1:0<=p.num*(q.den:Int):=Int.mul_nonneg hp0 (by omega)
  have k2:0<=q.num*(p.den:Int):=Int.mul_nonneg Yg (by omega)
  have k3:(p.num*(q.den:Int)).natAbs<=D*D:=lV EF.1 (by rw [jW];exact hqn.2)
  have k4:(q.num*(p.den:Int)).natAbs<=D*D:=lV hqn.1 (by rw [jW];exact EF.2)
  omega
 ·rw [Int.natAbs_mul,jW,jW];exact Nat.mul_le_mul EF.2 hqn.2
set_option maxHeartbeats 2000000 in
set_option maxRecDepth 100000 in
theorem Vs (D C L m N K:Nat) (T0:bw) (Inv:bw->Prop) (cs:Array Value) (w:World) (hR:gD cs m N K T0) (IK:Road D C L m N K (fun T T'=>Nonempty (mh m N K T T')) Inv T0) (hpos:∀T,Inv T->∀r,r<m->0<=T.cell r N) (b0k:∀T,Inv T->∀c,c<N->eW K (T.cost m c)->∃r,r<m/\0<T.cell r c):
 Calls Try.prog 35 #[.agg cs] w fun e w'=>∃cs' T,e= .returned (.agg cs')/\gD cs' m N K T/\Inv T/\(∀c,c<N->¬eW K (T.cost m c))/\Below w.heap.size w w':=by
 have hu:=Try.underlying62
 have HR:=Aside0.mk hR
 have sH:=Aside0.mk IK
 have b8f:=Aside0.mk hpos
 have HUb:=Aside0.mk b0k
 clear hR IK hpos b0k
 go_enter Try.func35,Try.ntmps35
 go_wp2
 have pE:Aside0 (((w.alloc (.cells cs 62)).alloc (.cells Try.zeroCells62 62)).heap[w.heap.size]? =some (.cells cs 62 (0,0))):=⟨aq (bW w _) _⟩
 have Qg:Aside0 (((w.alloc (.cells cs 62)).alloc (.cells Try.zeroCells62 62)).heap[w.heap.size+1]? =some (.cells Try.zeroCells62 62 (0,0))):=⟨by have:=bW (w.alloc (.cells cs 62)) (.cells Try.zeroCells62 62);rw [kL] at this;exact this⟩
 have jo:Aside0 (Below w.heap.size w ((w.alloc (.cells cs 62)).alloc (.cells Try.zeroCells62 62))):=⟨aK (aK (Below.refl _ _) _) _⟩
 go_loopg [3] L (fun G s3 wr=>∃(n:Nat) (T:bw) (cs1:Array Value),L - n<=G/\Aside0 (Reach (fun T T'=>Nonempty (mh m N K T T')) T0 n T)/\Aside0 (Inv T)/\Aside0 (gD cs1 m N K T)/\Aside0 (wr.heap[w.heap.size]? =some (.cells cs1 62 (0,0)))/\Aside0 (wr.heap[w.heap.size+1]? =some (.cells Try.zeroCells62 62 (0,0)))/\Aside0 (Below w.heap.size w wr))
 case atStart=>exact ⟨0,T0,cs,by omega,⟨Reach.zero _ _⟩,⟨sH.out.start⟩,HR,pE,Qg,jo⟩
 case round=>
  clear pE Qg jo HR
  obtain ⟨n,T,cs1,hG,xY,yu,HR,HA,eV,bL⟩:=hrel
  have HnL:=Aside0.mk (sH.out.few xY.out)
  have HF:=Aside0.mk (sH.out.fine T yu.out)
  go_wp2
  go_loopw [3] (fun cv wr=>∃c:Nat,cv= .int .i64 (c:Int)/\c<=N/\Aside0 (∀j,j<c->¬eW K (T.cost m j))/\Aside0 (wr.heap[w.heap.size]? =some (.cells cs1 62 (0,0)))/\Aside0 (wr.heap[w.heap.size+1]? =some (.cells Try.zeroCells62 62 (0,0)))/\Aside0 (Below w.heap.size w wr)) (fun cv _=>N -(intOf cv).toNat)
  case atStart=>exact ⟨0,rfl,Nat.zero_le _,⟨fun j hj=>by omega⟩,HA,eV,bL⟩
  case round=>
   clear HA eV bL
   obtain ⟨c,rfl,hcN,HQ,HA,eV,bL⟩:=hrel
   have h0:=bz HA.out HR.out.ni
   by_cases hc:c<N
   ·have g1:decide ((c:Int)<(N:Int))=true:=decide_eq_true (by omega)
    have sD:decide (c<N)=true:=decide_eq_true hc
    have g2:((c:Int)==(N:Int))=false:=beq_eq_false_iff_ne.mpr (by omega)
    have Br:(c==N)=false:=beq_eq_false_iff_ne.mpr (by omega)
    have HC:=Aside0.mk (Nq w.heap.size m N K c T wr ⟨cs1,HA.out,HR.out⟩ (by omega))
    have oa:Aside0 (wrap64 ((c:Int)+1)=((c+1:Nat):Int)):=⟨eD (by have:=HR.out.hN;omega)⟩
    have vK:=Aside0.mk hc
    by_cases hneg:eW K (T.cost m c)
    ·have hz:mm T m c 0 K<0:=Mj.2 hneg
     obtain ⟨z,hz'⟩:∃z,z=mm T m c 0 K:=⟨_,rfl⟩
     rw [<-hz'] at hz HC
     have g3:decide (z>=0)=false:=decide_eq_false (by omega)
     have Mm:decide (0<=z)=false:=decide_eq_false (by omega)
     have b0n:=Aside0.mk hneg
     clear hz hz' hneg hc hcN
     go_wp2_with (first|(go_at_call 58;(with_reducible refine HC.out.mono ?_);rintro e w1 ⟨rfl,hb1⟩;have fW:=Aside0.mk (ah HA.out hb1);have gh:=Aside0.mk (ah eV.out hb1);have fG:=Aside0.mk (ai bL.out hb1);have h0':=bz fW.out HR.out.ni;have h0r:=bz fW.out HR.out.rows;clear hb1 HC))
     clear HA eV bL h0 h0' g3 Mm
     go_loopw [4,25] (fun bv rv wr=>∃(x:Int) (r:Nat),bv= .int .i64 x/\rv= .int .i64 (r:Int)/\r<=m/\Aside0 (jA T N c r x)/\Aside0 (wr.heap[w.heap.size]? =some (.cells cs1 62 (0,0)))/\Aside0 (wr.heap[w.heap.size+1]? =some (.cells Try.zeroCells62 62 (0,0)))/\Aside0 (Below w.heap.size w wr)) (fun _ rv _=>m -(intOf rv).toNat)
     case atStart=>exact ⟨-1,0,rfl,rfl,Nat.zero_le _,⟨jA.zero _ _ _⟩,fW,gh,fG⟩
     case round=>
      clear fW gh fG h0r
      obtain ⟨x,r,rfl,rfl,Mo,uh,HA,eV,bL⟩:=hrel
      by_cases hr:r<m
      ·have nO:=Aside0.mk hr
       have Co:r<m+K:=by omega
       have vw:c<=N:=Nat.le_of_lt vK.out
       have h1:=bz HA.out (HR.out.num r c Co vw)
       have h2:=bz HA.out (HR.out.den r c Co vw)
       have b0:(0:Int)<=(r:Int):=by omega
       have b1:(r:Int)<16:=by have:=HR.out.hm;omega
       have b2:(0:Int)<=(c:Int):=by omega
       have b3:(c:Int)<16:=by have:=HR.out.hN;have:=vK.out;omega
       have nt:Aside0 (wrap64 ((r:Int)+1)=((r+1:Nat):Int)):=⟨eD (by have:=HR.out.hm;omega)⟩
       have hm:=zq
       have jc:=Aside0.mk (fun W=>wV (T.cell r c) W)
       have g4:decide ((r:Int)<(m:Int))=true:=decide_eq_true (by omega)
       have EM:decide (r<m)=true:=decide_eq_true hr
       by_cases hp:0<T.cell r c
       ·have hz:0<jC (T.cell r c):=Ll.2 hp
        have HP:=Aside0.mk hp
        obtain ⟨z,hz'⟩:∃z,z=jC (T.cell r c):=⟨_,rfl⟩
        rw [<-hz'] at hz jc
        have g5:decide (z<=0)=false:=decide_eq_false (by omega)
        clear hz hz' hp hr
        by_cases hx:x= -1
        ·have g6:decide (x>=0)=false:=decide_eq_false (by omega)
         have g6n:decide (0<=x)=false:=decide_eq_false (by omega)
         have pV:Aside0 (jA T N c (r+1) (r:Int)):=⟨jA.first (hx ▸ uh.out) HP.out⟩
         clear hx
         go_wp2_with (first|(go_at_call 87;(with_reducible refine (jc.out _).mono ?_);rintro e w1 ⟨rfl,hb1⟩;have fW:=Aside0.mk (ah HA.out hb1);have gh:=Aside0.mk (ah eV.out hb1);have fG:=Aside0.mk (ai bL.out hb1);clear hb1))
         go_roundw
         case rel=>exact ⟨r,r+1,rfl,by first|(rw [nt.out];done)|rfl|(simp;done),nO.out,pV,fW,gh,fG⟩
         case measure=>(try rw [nt.out]);have:=nO.out;simp [intOf];omega
        ·obtain ⟨b,rfl,hbr,sS⟩:=uh.out.index hx
         clear hx
         have hbK:b<m+K:=by omega
         have HBP:=Aside0.mk sS
         have HbR:=Aside0.mk hbr
         have g6:decide ((b:Int)>=0)=true:=decide_eq_true (by omega)
         have g6n:decide (0<=(b:Int))=true:=decide_eq_true (by omega)
         have b4:(0:Int)<=(b:Int):=by omega
         have b5:(b:Int)<16:=by have:=HR.out.hm;omega
         have b6:(0:Int)<=(N:Int):=by omega
         have b7:(N:Int)<16:=by have:=HR.out.hN;omega
         have CF:T.cell r c≠0:=fun h0=>by have:=HP.out;rw [h0] at this;grind
         have CG:T.cell b c≠0:=fun h0=>by have:=HBP.out;rw [h0] at this;grind
         have hdd:=HF.out.dd
         have hd1:=HF.out.d1
         have iJ:=Aside0.mk (fun W=>Ci W (Qu.sz (HF.out.row nO.out (Nat.le_refl N))) (Qu.sz (HF.out.row nO.out vw)) (by omega) (by omega) CF (Qu.ok (HF.out.quot nO.out (Nat.le_refl N) vw CF) (by omega) (by omega)))
         have nN:=Aside0.mk (fun W=>Ci W (Qu.sz (HF.out.row (show b<m by omega) (Nat.le_refl N))) (Qu.sz (HF.out.row (show b<m by omega) vw)) (by omega) (by omega) CG (Qu.ok (HF.out.quot (show b<m by omega) (Nat.le_refl N) vw CG) (by omega) (by omega)))
         have Bu:=Aside0.mk (fun W=>KR W (Qu.sz (HF.out.quot nO.out (Nat.le_refl N) vw CF)) (Qu.sz (HF.out.quot (show b<m by omega) (Nat.le_refl N) vw CG)) (by omega) (by omega) (HF.out.diff (b8f.out T yu.out) nO.out (by omega) vw HP.out HBP.out))
         have Yc:=Aside0.mk (fun W=>wV (T.cell r N/T.cell r c - T.cell b N/T.cell b c) W)
         have HS:=Aside0.mk (b4b (B:=w.heap.size) HR.out Co hbK vw)
         have hm2:=Pq
         have hm3:=KS
         clear CF CG hdd hd1 sS
         go_wp2_with (first|(go_at_call 87;(with_reducible refine (jc.out _).mono ?_);rintro e w1 ⟨rfl,hb1⟩;have fW:=Aside0.mk (ah HA.out hb1);have gh:=Aside0.mk (ah eV.out hb1);have fG:=Aside0.mk (ai bL.out hb1);clear hb1))
         clear HA eV bL jc h1 h2
         go_cut [6] from 39 to 72 (fun s_ wx=>s_= .int .i64 (jC (T.cell r N/T.cell r c - T.cell b N/T.cell b c))/\Aside0 (Below w1.heap.size w1 wx))
         case first=>
          have qK:=Aside0.mk (Below.refl w1.heap.size w1)
          go_region_held3 (fun w'=>w'.cell? ⟨w.heap.size,529,none⟩=some (.int .i64 (N:Int))/\w'.cell? ⟨w.heap.size,r*32+N*2,none⟩=some (.int .i64 (T.cell r N).num)/\w'.cell? ⟨w.heap.size,r*32+N*2+1,none⟩=some (.int .i64 ((T.cell r N).den:Int))/\w'.cell? ⟨w.heap.size,r*32+c*2,none⟩=some (.int .i64 (T.cell r c).num)/\w'.cell? ⟨w.heap.size,r*32+c*2+1,none⟩=some (.int .i64 ((T.cell r c).den:Int))/\w'.cell? ⟨w.heap.size,b*32+N*2,none⟩=some (.int .i64 (T.cell b N).num)/\w'.cell? ⟨w.heap.size,b*32+N*2+1,none⟩=some (.int .i64 ((T.cell b N).den:Int))/\w'.cell? ⟨w.heap.size,b*32+c*2,none⟩=some (.int .i64 (T.cell b c).num)/\w'.cell? ⟨w.heap.size,b*32+c*2+1,none⟩=some (.int .i64 ((T.cell b c).den:Int))) (first|(with_reducible exact Ez.out)|exact HS.out _ (ak fW.out)) (first
           |(go_at_call 86;(with_reducible refine (iJ.out _).mono ?_);rintro e wz ⟨rfl,hb⟩;have kD:=ai (by first|exact qK.out|exact bn qK.out) hb;clear qK;have qK:=Aside0.mk kD;have Ez:=Aside0.mk (HS.out _ (ah fW.out qK.out));clear hb kD)
           |(go_at_call 86;(with_reducible refine (nN.out _).mono ?_);rintro e wz ⟨rfl,hb⟩;have kD:=ai (by first|exact qK.out|exact bn qK.out) hb;clear qK;have qK:=Aside0.mk kD;have Ez:=Aside0.mk (HS.out _ (ah fW.out qK.out));clear hb kD)
           |(go_at_call 85;(with_reducible refine (Bu.out _).mono ?_);rintro e wz ⟨rfl,hb⟩;have kD:=ai (by first|exact qK.out|exact bn qK.out) hb;clear qK;have qK:=Aside0.mk kD;have Ez:=Aside0.mk (HS.out _ (ah fW.out qK.out));clear hb kD)
           |(go_at_call 87;(with_reducible refine (Yc.out _).mono ?_);rintro e wz ⟨rfl,hb⟩;have kD:=ai (by first|exact qK.out|exact bn qK.out) hb;clear qK;have qK:=Aside0.mk kD;have Ez:=Aside0.mk (HS.out _ (ah fW.out qK.out));clear hb kD))
          all_goals
           go_wp2_with fail
           go_meet
           case rel=>exact ⟨rfl,qK⟩
         case rest=>
         obtain ⟨rfl,iw⟩:=hcut
         have iA:=Aside0.mk (ah fW.out iw.out)
         have qz:=Aside0.mk (ah gh.out iw.out)
         have CH:=Aside0.mk (ai fG.out iw.out)
         clear fW gh fG iw iJ nN Bu Yc HS
         generalize wc=w2 at*
         have h3:=bz iA.out (HR.out.fc r nO.out)
         have h4:=bz iA.out (HR.out.fc b (by omega))
         generalize hx3:(T.basis r:Int)=xr at h3
         generalize zw:(T.basis b:Int)=xb at h4
         obtain ⟨zd,hzd⟩:∃zd,zd=jC (T.cell r N/T.cell r c - T.cell b N/T.cell b c):=⟨_,rfl⟩
         rw [<-hzd]
         by_cases hgt:T.cell b N/T.cell b c<T.cell r N/T.cell r c
         ·have hz:0<zd:=by rw [hzd];exact Ll.2 (by grind)
          have e1:decide (zd>0)=true:=decide_eq_true hz
          have YK:decide (0<zd)=true:=decide_eq_true hz
          have pV:=Aside0.mk (jA.keep uh.out (.inl hgt))
          clear hz hzd hgt hx3 zw
          go_wp2
          repeat (go_quiet (fail);try go_wp2)
          go_roundw
          case rel=>exact ⟨(b:Int),r+1,rfl,by first|(rw [nt.out];done)|rfl|(simp;done),nO.out,pV,⟨by first|exact iA.out|exact au iA.out _|exact ak iA.out⟩,⟨by first|exact qz.out|exact au qz.out _|exact ak qz.out⟩,⟨by repeat (first|exact CH.out|apply bn|apply gj)⟩⟩
          case measure=>(try rw [nt.out]);have:=nO.out;simp [intOf];omega
         ·by_cases heq:T.cell b N/T.cell b c=T.cell r N/T.cell r c
          ·have hz:zd=0:=by rw [hzd];exact rD.2 (by grind)
           have e1:decide (zd>0)=false:=decide_eq_false (by omega)
           have YK:decide (0<zd)=false:=decide_eq_false (by omega)
           have e2:(zd==0)=true:=by rw [hz];rfl
           clear hz hzd
           by_cases xm:T.basis b<T.basis r
           ·have e3:decide (xr>xb)=true:=decide_eq_true (by omega)
            have e3n:decide (xb<xr)=true:=decide_eq_true (by omega)
            have pV:=Aside0.mk (jA.keep uh.out (.inr ⟨heq,Nat.le_of_lt xm⟩))
            clear heq xm hgt hx3 zw
            go_wp2
            repeat (go_quiet (fail);try go_wp2)
            go_roundw
            case rel=>exact ⟨(b:Int),r+1,rfl,by first|(rw [nt.out];done)|rfl|(simp;done),nO.out,pV,⟨by first|exact iA.out|exact au iA.out _|exact ak iA.out⟩,⟨by first|exact qz.out|exact au qz.out _|exact ak qz.out⟩,⟨by repeat (first|exact CH.out|apply bn|apply gj)⟩⟩
            case measure=>(try rw [nt.out]);have:=nO.out;simp [intOf];omega
           ·have e3:decide (xr>xb)=false:=decide_eq_false (by omega)
            have e3n:decide (xb<xr)=false:=decide_eq_false (by omega)
            have pV:=Aside0.mk (jA.take uh.out HP.out (.inr ⟨heq.symm,by omega⟩))
            clear heq xm hgt hx3 zw
            go_wp2
            repeat (go_quiet (fail);try go_wp2)
            go_roundw
            case rel=>exact ⟨(r:Int),r+1,rfl,by first|(rw [nt.out];done)|rfl|(simp;done),nO.out,pV,⟨by first|exact iA.out|exact au iA.out _|exact ak iA.out⟩,⟨by first|exact qz.out|exact au qz.out _|exact ak qz.out⟩,⟨by repeat (first|exact CH.out|apply bn|apply gj)⟩⟩
            case measure=>(try rw [nt.out]);have:=nO.out;simp [intOf];omega
          ·have hlt':T.cell r N/T.cell r c<T.cell b N/T.cell b c:=by grind
           have hz:zd<0:=by rw [hzd];unfold jC;rw [if_pos (by grind)];omega
           have e1:decide (zd>0)=false:=decide_eq_false (by omega)
           have YK:decide (0<zd)=false:=decide_eq_false (by omega)
           have e2:(zd==0)=false:=beq_eq_false_iff_ne.mpr (by omega)
           have pV:=Aside0.mk (jA.take uh.out HP.out (.inl hlt'))
           clear hz hzd hgt heq hlt' hx3 zw
           go_wp2
           repeat (go_quiet (fail);try go_wp2)
           go_roundw
           case rel=>exact ⟨(r:Int),r+1,rfl,by first|(rw [nt.out];done)|rfl|(simp;done),nO.out,pV,⟨by first|exact iA.out|exact au iA.out _|exact ak iA.out⟩,⟨by first|exact qz.out|exact au qz.out _|exact ak qz.out⟩,⟨by repeat (first|exact CH.out|apply bn|apply gj)⟩⟩
           case measure=>(try rw [nt.out]);have:=nO.out;simp [intOf];omega
       ·have hz:¬0<jC (T.cell r c):=fun h=>hp (Ll.1 h)
        obtain ⟨z,hz'⟩:∃z,z=jC (T.cell r c):=⟨_,rfl⟩
        rw [<-hz'] at hz jc
        have g5:decide (z<=0)=true:=decide_eq_true (by omega)
        have pV:=Aside0.mk (uh.out.skip hp)
        clear hz hz' hp hr
        go_wp2_with (first|(go_at_call 87;(with_reducible refine (jc.out _).mono ?_);rintro e w1 ⟨rfl,hb1⟩;have fW:=Aside0.mk (ah HA.out hb1);have gh:=Aside0.mk (ah eV.out hb1);have fG:=Aside0.mk (ai bL.out hb1);clear hb1))
        go_roundw
        case rel=>exact ⟨x,r+1,rfl,by first|(rw [nt.out];done)|rfl|(simp;done),nO.out,pV,fW,gh,fG⟩
        case measure=>(try rw [nt.out]);have:=nO.out;simp [intOf];omega
      ·have g4:decide ((r:Int)<(m:Int))=false:=decide_eq_false (by omega)
       have EM:decide (r<m)=false:=decide_eq_false hr
       have b8g:r=m:=by omega
       obtain ⟨i,hi,hip⟩:=HUb.out T yu.out c vK.out b0n.out
       have hx:x≠ -1:=by
        intro hx
        rcases uh.out with ⟨_,h⟩|⟨b,e,_⟩
        ·exact h i (by omega) hip
        ·omega
       obtain ⟨b,rfl,hbr,sS⟩:=uh.out.index hx
       have g6:decide ((b:Int)<0)=false:=decide_eq_false (by omega)
       have qL:b<m:=by omega
       have hne:T.cell b c≠0:=fun h0=>by rw [h0] at sS;grind
       have hst:Nonempty (mh m N K T (T.pivot b c)):=⟨⟨b,c,qL,vK.out,b0n.out,HQ.out,sS,fun i hi pO=>by
        rcases uh.out with ⟨e,_⟩|⟨b',e,_,_,h⟩
        ·omega
        ·have e2:b'=b:=by omega
         subst e2
         exact h i (by omega) pO,rfl⟩⟩
       have MN:=Aside0.mk (sH.out.step T _ yu.out hst)
       have a1R:=Aside0.mk (xY.out.next hst)
       have HP:=Aside0.mk (fun W=>Il D C m N K b c T cs1 W HR.out qL vK.out hne HF.out (sH.out.fine _ MN.out))
       have HI:Aside0 ((Try.prog.info? 62).map (·.size)=some cs1.size):=⟨by rw [HR.out.size];kernel_rfl⟩
       clear hx sS hst hne hip hi b8g hbr
       go_wp2_with (first|((with_reducible refine bk (N:=95) rfl ?_);refine wpList_load_row rfl 62 (.tmp 1) rfl w.heap.size rfl 62 cs1 (0,0) _ HA.out hu (by rfl) HI.out ?_)|(go_at_call 57;(with_reducible refine (HP.out _).mono ?_);rintro e w1 ⟨iB,rfl,Qh,hb1⟩;have IL:=Aside0.mk Qh;have fW:=Aside0.mk (ah HA.out hb1);have gh:=Aside0.mk (ah eV.out hb1);have fG:=Aside0.mk (ai bL.out hb1);have a1S:Aside0 ((Try.prog.info? 62).map (·.size)=some iB.size):=⟨by rw [IL.out.size];kernel_rfl⟩;have HZs:Aside0 (cs1.size=iB.size):=⟨by rw [HR.out.size,IL.out.size]⟩;clear hb1 Qh)|((with_reducible refine iX (t:=62) (p:=1) rfl ?_);refine wpList_store_row rfl 62 (.tmp 1) (.tmp 98) rfl w.heap.size iB rfl rfl 62 cs1 fW.out a1S.out HZs.out IL.out.one ?_))
       go_roundg (L -(n+1))
       case measure=>have:=HnL.out;omega
       case rel=>exact ⟨n+1,T.pivot b c,iB,Nat.le_refl _,a1R,MN,IL,⟨rE fW.out⟩,⟨tN gh.out (by omega)⟩,⟨pM fG.out (Nat.le_refl _)⟩⟩
    ·have hz:¬mm T m c 0 K<0:=fun h=>hneg (Mj.1 h)
     obtain ⟨z,hz'⟩:∃z,z=mm T m c 0 K:=⟨_,rfl⟩
     rw [<-hz'] at hz HC
     have g3:decide (z>=0)=true:=decide_eq_true (by omega)
     have Mm:decide (0<=z)=true:=decide_eq_true (by omega)
     have HQ':Aside0 (∀j,j<c+1->¬eW K (T.cost m j)):=⟨fun j hj=>by
      by_cases e:j=c
      ·rw [e];exact hneg
      ·exact HQ.out j (by omega)⟩
     clear hz hz' hneg hc
     go_wp2_with (first|(go_at_call 58;(with_reducible refine HC.out.mono ?_);rintro e w1 ⟨rfl,hb1⟩;have fW:=Aside0.mk (ah HA.out hb1);have gh:=Aside0.mk (ah eV.out hb1);have fG:=Aside0.mk (ai bL.out hb1);clear hb1 HC))
     go_roundw
     case rel=>exact ⟨c+1,by first|(rw [oa.out];done)|rfl|(simp;done),vK.out,HQ',fW,gh,fG⟩
     case measure=>(try rw [oa.out]);have:=vK.out;simp [intOf];omega
   ·have g1:decide ((c:Int)<(N:Int))=false:=decide_eq_false (by omega)
    have sD:decide (c<N)=false:=decide_eq_false hc
    have g2:((c:Int)==(N:Int))=true:=by rw [show c=N by omega];simp
    have Br:(c==N)=true:=by rw [show c=N by omega];simp
    have Sm:Aside0 (∀c,c<N->¬eW K (T.cost m c)):=⟨fun j hj=>HQ.out j (by omega)⟩
    clear HQ
    have HQ:=Sm
    clear hc hcN Sm
    have HI:Aside0 ((Try.prog.info? 62).map (·.size)=some cs1.size):=⟨by rw [HR.out.size];kernel_rfl⟩
    have HZ:Aside0 ((Try.zeroCells62).size=cs1.size):=⟨by rw [HR.out.size];kernel_rfl⟩
    go_wp2_with (first|((with_reducible refine bk (N:=22) rfl ?_);refine wpList_load_row rfl 62 (.tmp 1) rfl w.heap.size rfl 62 cs1 (0,0) _ HA.out hu (by rfl) HI.out ?_)|((with_reducible refine iX (t:=62) (p:=2) rfl ?_);refine wpList_store_row rfl 62 (.tmp 2) (.tmp 22) rfl (w.heap.size+1) cs1 rfl rfl 62 Try.zeroCells62 eV.out HI.out HZ.out HR.out.one ?_))
    refine bodyPost_ret (results_cell_row rfl _ _ (w.heap.size+1) 62 cs1 (0,0) _ rfl (rE eV.out) hu (by rfl) HI.out) rfl ?_
    exact ⟨cs1,T,rfl,HR.out,yu.out,HQ.out,pM bL.out (by omega)⟩
end Go.Proofs.Ytnhknojfpjheoaa.PT
