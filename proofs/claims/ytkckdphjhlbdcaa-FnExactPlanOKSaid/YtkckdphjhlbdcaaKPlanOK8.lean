/-
  Part 8 of the proof of this: The law FnExactPlanOK answers true at every argument.
-/
import Derived.Test.YtkckdphjhlbdcaaKPlanOK2
import Derived.Test.YtkckdphjhlbdcaaKPlanOK4
import Derived.Test.YtkckdphjhlbdcaaKPlanOK5
import Derived.Test.YtkckdphjhlbdcaaKPlanOK7
namespace Go.Proofs.Ytkckdphjhlbdcaa.PT
open Go.RowKit Go.Proofs.Ytkckdphjhlbdcaa.P Go.Proofs.YtkckdphjhlbdcaaW.PrintWords Go.Proofs.YtkckdphjhlbdcaaW.PrintLast Go.Proofs.Ytkckdphjhlbdcaa.EvKit Go.Proofs.Ytkckdphjhlbdcaa.Num Go.Proofs.Ytkckdphjhlbdcaa.Lp
set_option linter.all false
abbrev mN:Kd (List Int):=Kd.slice 3 (Kd.int .i64)
theorem Ad {W:World} {A:Option Addr} {n:Nat} {xs:List (List Int)} (h:Kd.C mN W A n xs) (i:Nat) (hi:i<xs.length):
 ∃ad A1 c1,A=some ad/\W.cell? (ad.add i)=some (.slice A1 (xs[i]).length c1)/\(xs[i]).length<=c1/\Kd.C (Kd.int .i64) W A1 (xs[i]).length xs[i]:=by
 have hn:=h.1
 obtain ⟨ad,e,hc⟩:=h.2.2 (by omega)
 obtain ⟨c,hs,⟨A1,c1,rfl,hl,hC⟩,hcell⟩:=hc i _ (List.getElem?_eq_getElem hi)
 have:=hcell 0 _ rfl
 rw [show (mN).sz=1 from rfl,Nat.mul_one,Nat.add_zero] at this
 exact ⟨ad,A1,c1,e,this,hl,hC⟩
structure oh (cs:Array Value) (f:Nat->Nat->Int×Int) (fG:Nat->Int) (m N K:Nat):Prop where
 size:cs.size=531
 one:cs.all (·.oneCell')=true
 num:∀i j,i<16->j<16->cs[i*32+j*2]? =some (.int .i64 (f i j).1)
 den:∀i j,i<16->j<16->cs[i*32+j*2+1]? =some (.int .i64 (f i j).2)
 fG:∀r,r<16->cs[512+r]? =some (.int .i64 (fG r))
 rows:cs[528]? =some (.int .i64 (m:Int))
 od:cs[529]? =some (.int .i64 (N:Int))
 costs:cs[530]? =some (.int .i64 (K:Int))
theorem oh.put {cs:Array Value} {f:Nat->Nat->Int×Int} {fG:Nat->Int} {m N K:Nat} (h:oh cs f fG m N K) {i j:Nat} (hi:i<16) (hj:j<16) (p:Int×Int):
 oh ((cs.setIfInBounds (i*32+j*2) (.int .i64 p.1)).setIfInBounds (i*32+j*2+1) (.int .i64 p.2)) (fun i' j'=>if i'=i/\j'=j then p else f i' j') fG m N K:=by
 have hs:=h.size
 have far:∀k,512<=k->((cs.setIfInBounds (i*32+j*2) (.int .i64 p.1)).setIfInBounds (i*32+j*2+1) (.int .i64 p.2))[k]? =cs[k]? :=by
  intro k hk
  rw [Array.getElem?_setIfInBounds_ne (by omega),Array.getElem?_setIfInBounds_ne (by omega)]
 refine ⟨by simp [hs],ry (ry h.one rfl) rfl,fun i' j' hi' hj'=>?_,fun i' j' hi' hj'=>?_,fun r hr=>?_,?_,?_,?_⟩
 ·by_cases e:i'=i/\j'=j
  ·obtain ⟨rfl,rfl⟩:=e
   rw [Array.getElem?_setIfInBounds_ne (by omega),Array.getElem?_setIfInBounds,if_pos rfl,if_pos (by omega),if_pos ⟨rfl,rfl⟩]
  ·rw [Array.getElem?_setIfInBounds_ne (by omega),Array.getElem?_setIfInBounds_ne (by omega),h.num i' j' hi' hj',if_neg e]
 ·by_cases e:i'=i/\j'=j
  ·obtain ⟨rfl,rfl⟩:=e
   rw [Array.getElem?_setIfInBounds,if_pos rfl,if_pos (by simp;omega),if_pos ⟨rfl,rfl⟩]
  ·rw [Array.getElem?_setIfInBounds_ne (by omega),Array.getElem?_setIfInBounds_ne (by omega),h.den i' j' hi' hj',if_neg e]
 ·rw [far _ (by omega)];exact h.fG r hr
 ·rw [far _ (by omega)];exact h.rows
 ·rw [far _ (by omega)];exact h.od
 ·rw [far _ (by omega)];exact h.costs
theorem oh.b7k {cs:Array Value} {f:Nat->Nat->Int×Int} {fG:Nat->Int} {m N K:Nat} (h:oh cs f fG m N K) {i:Nat} (hi:i<16) (x:Int):
 oh (cs.setIfInBounds (512+i) (.int .i64 x)) f (fun r=>if r=i then x else fG r) m N K:=by
 have hs:=h.size
 refine ⟨by simp [hs],ry h.one rfl,fun i' j' hi' hj'=>?_,fun i' j' hi' hj'=>?_,fun r hr=>?_,?_,?_,?_⟩
 ·rw [Array.getElem?_setIfInBounds_ne (by omega)];exact h.num i' j' hi' hj'
 ·rw [Array.getElem?_setIfInBounds_ne (by omega)];exact h.den i' j' hi' hj'
 ·by_cases e:r=i
  ·subst e
   rw [Array.getElem?_setIfInBounds,if_pos rfl,if_pos (by omega),if_pos rfl]
  ·rw [Array.getElem?_setIfInBounds_ne (by omega),if_neg e];exact h.fG r hr
 ·rw [Array.getElem?_setIfInBounds_ne (by omega)];exact h.rows
 ·rw [Array.getElem?_setIfInBounds_ne (by omega)];exact h.od
 ·rw [Array.getElem?_setIfInBounds_ne (by omega)];exact h.costs
noncomputable abbrev bt (m N K:Int):Array Value:=((Try.zeroCells79.setIfInBounds 528 (.int .i64 m)).setIfInBounds 529 (.int .i64 N)).setIfInBounds 530 (.int .i64 K)
theorem WG:Try.zeroCells79=(List.replicate 531 (Value.int .i64 0)).toArray:=by kernel_rfl
theorem b3k (k:Nat) (h:k<531):(Try.zeroCells79)[k]? =some (.int .i64 0):=by
 rw [WG,List.getElem?_toArray,List.getElem?_replicate,if_pos h]
theorem a9N:(Try.zeroCells79).all (·.oneCell')=true:=by
 rw [WG,Array.all_eq_true_iff_forall_mem]
 intro x hx
 have:=List.eq_of_mem_replicate (List.mem_toArray.1 hx)
 rw [this];rfl
theorem a9O (m N K:Nat):oh (bt m N K) (fun _ _=>(0,0)) (fun _=>0) m N K:=by
 have hs:(Try.zeroCells79).size=531:=by rw [WG,List.size_toArray,List.length_replicate]
 have at0:∀k,k<528->(bt m N K)[k]? =some (.int .i64 0):=by
  intro k hk
  rw [Array.getElem?_setIfInBounds_ne (by omega),Array.getElem?_setIfInBounds_ne (by omega),Array.getElem?_setIfInBounds_ne (by omega),b3k k (by omega)]
 refine ⟨by simp [hs],ry (ry (ry a9N rfl) rfl) rfl,fun i j hi hj=>at0 _ (by omega),fun i j hi hj=>at0 _ (by omega),fun r hr=>at0 _ (by omega),?_,?_,?_⟩
 ·rw [Array.getElem?_setIfInBounds_ne (by omega),Array.getElem?_setIfInBounds_ne (by omega),Array.getElem?_setIfInBounds,if_pos rfl,if_pos (by rw [hs];omega)]
 ·rw [Array.getElem?_setIfInBounds_ne (by omega),Array.getElem?_setIfInBounds,if_pos rfl,if_pos (by simp [hs])]
 ·rw [Array.getElem?_setIfInBounds,if_pos rfl,if_pos (by simp [hs])]
def Bi (m:Nat) (sum:Int) (j i' j':Nat):Int×Int:=
 if i'=m/\j'<j then (sum,1) else if j'<j/\i'=m+1+j' then (1,1) else (0,1)
def Dc (rows:List (List Int)) (n m:Nat) (right:Int) (i j:Nat):Int×Int:=
 if j<n then ((rows.getD i []).getD j 0,1) else if j=n+m then (right,1) else if j=n+i then (1,1) else (0,1)
set_option maxHeartbeats 2000000 in
set_option maxRecDepth 100000 in
theorem Fm (n m:Nat) (rows:List (List Int)) (A:Option Addr) (c:Nat) (sum right:Int) (w:World) (hC:Kd.C mN w A rows.length rows) (hc:rows.length<=c) (hm:rows.length=m) (hl:∀x,x∈rows->x.length=n) (hs:m+(n+1)<=16) (hN:n+m<16):
 Calls Try.prog 60 #[.slice A rows.length c,.int .i64 (n:Int),.int .i64 sum,.int .i64 right] w fun e w'=>∃cs',e= .returned (.agg cs')/\ic cs' m (n+m) (n+1) (init n m (fun i j=>(((rows.getD i []).getD j 0:Int):Rat)) (fun _=>(right:Rat)) (sum:Rat))/\Below w.heap.size w w':=by
 have hu:=Try.underlying79
 have HC:=Aside0.mk hC
 have HM:=Aside0.mk hm
 have HL:=Aside0.mk hl
 have HW:=Aside0.mk (fun x W=>xg.calls x x 1 W rfl)
 have hw1:IntKind.i64.wrap ((n:Int)+(rows.length:Int))=((n+m:Nat):Int):=by rw [hm,dJ,cW (by omega) (by omega)];rfl
 have hw2:IntKind.i64.wrap ((n:Int)+1)=((n+1:Nat):Int):=by rw [dJ,cW (by omega) (by omega)];rfl
 clear hC hl
 go_enter Try.func60,Try.ntmps60
 have fB:Aside0 (((w.alloc (.cells Try.zeroCells79 79)).alloc (.cells Try.zeroCells79 79)).heap[w.heap.size+1]? =some (.cells Try.zeroCells79 79 (0,0))):=⟨by have:=dn (w.alloc (.cells Try.zeroCells79 79)) (.cells Try.zeroCells79 79);rw [qi] at this;exact this⟩
 have qj:Aside0 (((w.alloc (.cells Try.zeroCells79 79)).alloc (.cells Try.zeroCells79 79)).heap[w.heap.size]? =some (.cells Try.zeroCells79 79 (0,0))):=⟨ai (dn w _) _⟩
 have eN:Aside0 (Below w.heap.size w ((w.alloc (.cells Try.zeroCells79 79)).alloc (.cells Try.zeroCells79 79))):=⟨aT (aT (Below.refl _ _) _) _⟩
 have eu:=Aside0.mk (a9O m (n+m) (n+1))
 have HI:Aside0 ((Try.prog.info? 79).map (·.size)=some 531):=⟨by kernel_rfl⟩
 have HZ:Aside0 ((Try.zeroCells79).size=531):=⟨by kernel_rfl⟩
 go_wp2_with (first|((with_reducible refine kg (t:=79) (p:=9) rfl ?_);refine wpList_store_row rfl 79 (.tmp 9) (.tmp 25) rfl (w.heap.size+1) (bt m ((n+m:Nat):Int) ((n+1:Nat):Int)) rfl rfl 79 Try.zeroCells79 fB.out (by rw [eu.out.size];exact HI.out) (by rw [eu.out.size];exact HZ.out) eu.out.one ?_))
 have HA:Aside0 ((((w.alloc (.cells Try.zeroCells79 79)).alloc (.cells Try.zeroCells79 79)).setRow (w.heap.size+1) (bt m ((n+m:Nat):Int) ((n+1:Nat):Int))).heap[w.heap.size+1]? =some (.cells (bt m ((n+m:Nat):Int) ((n+1:Nat):Int)) 79 (0,0))):=⟨sL fB.out⟩
 have ke:Aside0 ((((w.alloc (.cells Try.zeroCells79 79)).alloc (.cells Try.zeroCells79 79)).setRow (w.heap.size+1) (bt m ((n+m:Nat):Int) ((n+1:Nat):Int))).heap[w.heap.size]? =some (.cells Try.zeroCells79 79 (0,0))):=⟨uy qj.out (by omega)⟩
 have cO:Aside0 (Below w.heap.size w (((w.alloc (.cells Try.zeroCells79 79)).alloc (.cells Try.zeroCells79 79)).setRow (w.heap.size+1) (bt m ((n+m:Nat):Int) ((n+1:Nat):Int)))):=⟨qG eN.out (by omega)⟩
 change Code.wp _ _ _ _ (((w.alloc (.cells Try.zeroCells79 79)).alloc (.cells Try.zeroCells79 79)).setRow (w.heap.size+1) (bt m ((n+m:Nat):Int) ((n+1:Nat):Int)))
 clear qj fB eN
 generalize ((w.alloc (.cells Try.zeroCells79 79)).alloc (.cells Try.zeroCells79 79)).setRow (w.heap.size+1) (bt m ((n+m:Nat):Int) ((n+1:Nat):Int))=w2 at*
 generalize bt m ((n+m:Nat):Int) ((n+1:Nat):Int)=cs0 at*
 go_loopw [26] (fun iv wr=>∃(i:Nat) (cs1:Array Value),iv= .int .i64 (i:Int)/\i<=16/\Aside0 (∃f,oh cs1 f (fun _=>0) m (n+m) (n+1)/\∀i' j',i'<i->j'<16->f i' j'=(0,1))/\Aside0 (wr.heap[w.heap.size+1]? =some (.cells cs1 79 (0,0)))/\Aside0 (wr.heap[w.heap.size]? =some (.cells Try.zeroCells79 79 (0,0)))/\Aside0 (Below w.heap.size w wr)) (fun iv _=>16 -(intOf iv).toNat)
 case atStart=>exact ⟨0,cs0,rfl,by omega,⟨_,eu.out,fun i' j' h=>by omega⟩,HA,ke,cO⟩
 case round=>
  clear HA ke cO eu
  obtain ⟨i,cs1,rfl,hi,HF,HA,ke,cO⟩:=hrel
  by_cases a2x:i<16
  ·have om:=Aside0.mk a2x
   have g1:(0:Int)<=(i:Int):=by omega
   have g2:(i:Int)<16:=by omega
   have ZM:decide ((i:Int)<16)=true:=decide_eq_true g2
   have fE:Aside0 (wrap64 ((i:Int)+1)=((i+1:Nat):Int)):=⟨dQ (by omega)⟩
   clear a2x hi
   go_wp2
   go_loopw [29] (fun jv wr=>∃(j:Nat) (cs1:Array Value),jv= .int .i64 (j:Int)/\j<=16/\Aside0 (∃f,oh cs1 f (fun _=>0) m (n+m) (n+1)/\∀i' j',(i'<i∨(i'=i/\j'<j))->j'<16->f i' j'=(0,1))/\Aside0 (wr.heap[w.heap.size+1]? =some (.cells cs1 79 (0,0)))/\Aside0 (wr.heap[w.heap.size]? =some (.cells Try.zeroCells79 79 (0,0)))/\Aside0 (Below w.heap.size w wr)) (fun jv _=>16 -(intOf jv).toNat)
   case atStart=>exact ⟨0,cs1,rfl,by omega,⟨by obtain ⟨f,h1,h2⟩:=HF.out;exact ⟨f,h1,fun i' j' h hj=>h2 i' j' (by omega) hj⟩⟩,HA,ke,cO⟩
   case round=>
    clear HA ke cO HF
    obtain ⟨j,cs1,rfl,hj,HF,HA,ke,cO⟩:=hrel
    by_cases WH:j<16
    ·have qf:=Aside0.mk WH
     have g3:(0:Int)<=(j:Int):=by omega
     have g4:(j:Int)<16:=by omega
     have ZN:decide ((j:Int)<16)=true:=decide_eq_true g4
     have rL:Aside0 (wrap64 ((j:Int)+1)=((j+1:Nat):Int)):=⟨dQ (by omega)⟩
     obtain ⟨f,pW,hf2⟩:=HF.out
     have xR:Aside0 (∃f,oh ((cs1.setIfInBounds (i*32+j*2) (.int .i64 0)).setIfInBounds (i*32+j*2+1) (.int .i64 1)) f (fun _=>0) m (n+m) (n+1)/\∀i' j',(i'<i∨(i'=i/\j'<j+1))->j'<16->f i' j'=(0,1)):=⟨_,pW.put om.out WH (0,1),fun i' j' h hj'=>by
      show (if i'=i/\j'=j then _ else _)=_
      by_cases e:i'=i/\j'=j
      ·rw [if_pos e]
      ·rw [if_neg e];exact hf2 i' j' (by omega) hj'⟩
     have gA:=Aside0.mk pW
     clear WH hj pW hf2 HF
     go_wp2
     have HD:=Aside0.mk (ak HA.out)
     have vX:=Aside0.mk (ak ke.out)
     have kN:=Aside0.mk (aI cO.out)
     clear HA ke cO
     refine fL (n:=7) (S:=fun w_=>True) (ds:=[6]) #[false,false,false,false,false,false,false] (by kernel_rfl) rfl rfl trivial (fun hHeld=>?_)
     generalize wr.drew=w4 at*
     refine bl (i:=0) (N:=some 32) ?_
     refine bl (i:=1) (N:=some 33) ?_
     refine bl (i:=3) (N:=some 35) ?_
     refine bl (i:=4) (N:=some 36) ?_
     refine gj (i:=2) (N:=some 34) #[true,true,true,true,true,false,false] rfl rfl (by kernel_rfl) (by decide) (fun K hK=>?_)
     refine pg Try.func75 (by kernel_rfl) rfl #[.int .i64 0] (by rfl) rfl rfl (by (try simp only [List.map_toArray,List.map_cons,List.map_nil]);first|done|rfl) ?_
     refine (HW.out _ _).mono ?_
     rintro e w5 ⟨rfl,jN⟩
     have HE:=Aside0.mk (aj HD.out jN)
     have vY:=Aside0.mk (aj vX.out jN)
     have qK:=Aside0.mk (ah kN.out jN)
     clear HD vX kN jN
     refine ⟨_,rfl,?_⟩
     refine hK.out _ _ trivial (fun hHeld=>?_)
     clear hK K hHeld
     refine fq (a':=?_) ?_ ?_
     rotate_left
     ·show Act.put _ (some 34) _=_
      simp only [Act.put,List.setIfInBounds_toArray,List.set_cons_zero,List.set_cons_succ,dJ,eD]
      rfl
     refine bl (i:=5) (N:=some 37) ?_
     refine rf (i:=6) (N:=none) #[true,true,true,true,true,true,true] rfl rfl (by kernel_rfl) (by decide) (fun K hK=>?_)
     have h1:=bB HE.out (gA.out.num i j (by have:=om.out;omega) (by have:=qf.out;omega))
     have h2:=bB HE.out (gA.out.den i j (by have:=om.out;omega) (by have:=qf.out;omega))
     have h3:=af HE.out (i*32+j*2)
     have h4:=af HE.out (i*32+j*2+1)
     refine lO (w1:=?_) (by rfl) rfl ?_ ?_
     rotate_left
     ·go_simp
      rfl
     refine hK.out _ _ ?_
     clear hK K
     refine gU (by kernel_rfl) ?_
     have HA:Aside0 (((w5.setCell ⟨w.heap.size+1,i*32+j*2,none⟩ (.int .i64 0)).setCell ⟨w.heap.size+1,i*32+j*2+1,none⟩ (.int .i64 1)).heap[w.heap.size+1]? =some (.cells ((cs1.setIfInBounds (i*32+j*2) (.int .i64 0)).setIfInBounds (i*32+j*2+1) (.int .i64 1)) 79 (0,0))):=⟨heap_set (heap_set HE.out)⟩
     have ke:Aside0 (((w5.setCell ⟨w.heap.size+1,i*32+j*2,none⟩ (.int .i64 0)).setCell ⟨w.heap.size+1,i*32+j*2+1,none⟩ (.int .i64 1)).heap[w.heap.size]? =some (.cells Try.zeroCells79 79 (0,0))):=⟨bz (bz vY.out (by omega)) (by omega)⟩
     have cO:Aside0 (Below w.heap.size w ((w5.setCell ⟨w.heap.size+1,i*32+j*2,none⟩ (.int .i64 0)).setCell ⟨w.heap.size+1,i*32+j*2+1,none⟩ (.int .i64 1))):=⟨bR (bR qK.out (by omega)) (by omega)⟩
     clear HE vY qK h1 h2 h3 h4 gA
     generalize ((w5.setCell ⟨w.heap.size+1,i*32+j*2,none⟩ (.int .i64 0)).setCell ⟨w.heap.size+1,i*32+j*2+1,none⟩ (.int .i64 1))=w6 at*
     generalize ((cs1.setIfInBounds (i*32+j*2) (.int .i64 0)).setIfInBounds (i*32+j*2+1) (.int .i64 1))=CF at*
     go_wp2
     go_roundw
     case rel=>exact ⟨j+1,CF,by first|(rw [rL.out];done)|rfl|(simp;done),qf.out,xR,HA,ke,cO⟩
     case measure=>(try rw [rL.out]);have:=qf.out;simp [intOf];omega
    ·have ZN:decide ((j:Int)<16)=false:=decide_eq_false (by omega)
     have hj':j=16:=by omega
     have Qv:Aside0 (∃f,oh cs1 f (fun _=>0) m (n+m) (n+1)/\∀i' j',i'<i+1->j'<16->f i' j'=(0,1)):=⟨by obtain ⟨f,h1,h2⟩:=HF.out;exact ⟨f,h1,fun i' j' h hj=>h2 i' j' (by omega) hj⟩⟩
     clear hj' WH hj HF
     go_wp2
     go_roundw
     case rel=>exact ⟨i+1,cs1,by first|(rw [fE.out];done)|rfl|(simp;done),om.out,Qv,HA,ke,cO⟩
     case measure=>(try rw [fE.out]);have:=om.out;simp [intOf];omega
  ·have ZM:decide ((i:Int)<16)=false:=decide_eq_false (by omega)
   have BP:Aside0 (∃f,oh cs1 f (fun _=>0) m (n+m) (n+1)/\∀i' j',i'<16->j'<16->f i' j'=(0,1)):=⟨by obtain ⟨f,h1,h2⟩:=HF.out;exact ⟨f,h1,fun i' j' h hj=>h2 i' j' (by omega) hj⟩⟩
   clear a2x hi HF
   go_wp2
   go_loopw [42] (fun iv wr=>∃(i:Nat) (cs1:Array Value),iv= .int .i64 (i:Int)/\i<=m/\Aside0 (∃f fG,oh cs1 f fG m (n+m) (n+1)/\(∀i' j',i'<16->j'<16->f i' j'=if i'<i then Dc rows n m right i' j' else (0,1))/\∀i',i'<i->fG i'=(n:Int)+(i':Int))/\Aside0 (wr.heap[w.heap.size+1]? =some (.cells cs1 79 (0,0)))/\Aside0 (wr.heap[w.heap.size]? =some (.cells Try.zeroCells79 79 (0,0)))/\Aside0 (Below w.heap.size w wr)) (fun iv _=>m -(intOf iv).toNat)
   case atStart=>exact ⟨0,cs1,rfl,by omega,⟨by obtain ⟨f,h1,h2⟩:=BP.out;exact ⟨f,_,h1,fun i' j' h hj=>by rw [if_neg (by omega)];exact h2 i' j' h hj,fun i' h=>by omega⟩⟩,HA,ke,cO⟩
   case round=>
    clear HA ke cO BP ZM
    obtain ⟨i,cs1,rfl,hi,HF,HA,ke,cO⟩:=hrel
    by_cases xQ:i<m
    ·have Rc:=Aside0.mk xQ
     have wS:i<rows.length:=by omega
     obtain ⟨ad,A1,c1,e,hx,hlx,kA⟩:=Ad HC.out i wS
     have hlen:=HL.out _ (List.getElem_mem wS)
     rw [hlen] at hx hlx kA
     cases e
     have HX:=Aside0.mk hx
     have oK:=Aside0.mk kA
     have qg:Aside0 (∀j,(rows.getD i []).getD j 0=(rows[i]).getD j 0):=⟨fun j=>by rw [List.getD_eq_getElem?_getD (l:=rows),List.getElem?_eq_getElem wS];rfl⟩
     have NI:=Aside0.mk hlen
     generalize rows[i]=row at*
     have hx2:wr.cell? (ad.add i)=some (.slice A1 n c1):=(cO.out.cell (World.block_lt_of_cell? w _ hx)).trans hx
     have g1:(0:Int)<=(i:Int):=by omega
     have g2:(i:Int)<(m:Int):=by omega
     have ZM:decide ((i:Int)<(m:Int))=true:=decide_eq_true g2
     have BL:decide (i<m)=true:=decide_eq_true xQ
     have g16:(i:Int)<16:=by omega
     have fE:Aside0 (wrap64 ((i:Int)+1)=((i+1:Nat):Int)):=⟨dQ (by omega)⟩
     have om:Aside0 (i<16):=⟨by omega⟩
     clear xQ hi wS hx hlx kA hlen
     go_wp2
     clear hx2
     go_loopw [49] (fun jv wr=>∃(j:Nat) (cs1:Array Value),jv= .int .i64 (j:Int)/\j<=n/\Aside0 (∃f fG,oh cs1 f fG m (n+m) (n+1)/\(∀i' j',i'<16->j'<16->f i' j'=if i'<i then Dc rows n m right i' j' else if i'=i/\j'<j then (row.getD j' 0,1) else (0,1))/\∀i',i'<i->fG i'=(n:Int)+(i':Int))/\Aside0 (wr.heap[w.heap.size+1]? =some (.cells cs1 79 (0,0)))/\Aside0 (wr.heap[w.heap.size]? =some (.cells Try.zeroCells79 79 (0,0)))/\Aside0 (Below w.heap.size w wr)) (fun jv _=>n -(intOf jv).toNat)
     case atStart=>exact ⟨0,cs1,rfl,by omega,⟨by obtain ⟨f,fG,h1,h2,h3⟩:=HF.out;exact ⟨f,fG,h1,fun i' j' h hj=>by rw [h2 i' j' h hj,if_neg (show ¬(i'=i/\j'<0) by omega)],h3⟩⟩,HA,ke,cO⟩
     case round=>
      clear HA ke cO HF
      obtain ⟨j,cs1,rfl,hj,HF,HA,ke,cO⟩:=hrel
      by_cases hjn:j<n
      ·have Je:=Aside0.mk hjn
       obtain ⟨Jc,e,hy⟩:=Kd.gL oK.out (j:Int) (by omega) (by omega)
       cases e
       have hjr:j<row.length:=by rw [NI.out];exact hjn
       have hrd:rd row (j:Int)=row.getD j 0:=rfl
       rw [hrd] at hy
       have Nq:wr.cell? (Jc.add j)=some (.int .i64 (row.getD j 0)):=by rw [Int.toNat_natCast] at hy;exact (cO.out.cell (World.block_lt_of_cell? w _ hy)).trans hy
       obtain ⟨f,fG,pW,hf2,hf3⟩:=HF.out
       have xR:Aside0 (∃f fG,oh ((cs1.setIfInBounds (i*32+j*2) (.int .i64 (row.getD j 0))).setIfInBounds (i*32+j*2+1) (.int .i64 1)) f fG m (n+m) (n+1)/\(∀i' j',i'<16->j'<16->f i' j'=if i'<i then Dc rows n m right i' j' else if i'=i/\j'<j+1 then (row.getD j' 0,1) else (0,1))/\∀i',i'<i->fG i'=(n:Int)+(i':Int)):=⟨_,fG,pW.put om.out (show j<16 by omega) (row.getD j 0,1),fun i' j' h hj'=>by
        show (if i'=i/\j'=j then _ else _)=_
        by_cases e:i'=i/\j'=j
        ·rw [if_pos e,if_neg (by omega),if_pos (by omega),e.2]
        ·rw [if_neg e,hf2 i' j' h hj']
         by_cases e1:i'<i
         ·rw [if_pos e1,if_pos e1]
         ·rw [if_neg e1,if_neg e1]
          by_cases e2:i'=i/\j'<j
          ·rw [if_pos e2,if_pos (by omega)]
          ·rw [if_neg e2,if_neg (by omega)],hf3⟩
       generalize row.getD j 0=vx at*
       have g3:(0:Int)<=(j:Int):=by omega
       have g4:(j:Int)<(n:Int):=by omega
       have ZN:decide ((j:Int)<(n:Int))=true:=decide_eq_true g4
       have Fo:decide (j<n)=true:=decide_eq_true hjn
       have g5:(j:Int)<16:=by omega
       have rL:Aside0 (wrap64 ((j:Int)+1)=((j+1:Nat):Int)):=⟨dQ (by omega)⟩
       have qf:Aside0 (j<16):=⟨by omega⟩
       have gA:=Aside0.mk pW
       clear hjn hj pW hf2 hf3 HF hy hjr hrd
       go_wp2
       have HD:=Aside0.mk (ak HA.out)
       have vX:=Aside0.mk (ak ke.out)
       have kN:=Aside0.mk (aI cO.out)
       clear HA ke cO
       refine fL (n:=8) (S:=fun w_=>True) (ds:=[7]) #[false,false,false,false,false,false,false,false] (by kernel_rfl) rfl rfl trivial (fun hHeld=>?_)
       generalize wr.drew=w4 at*
       refine bl (i:=0) (N:=some 54) ?_
       refine bl (i:=1) (N:=some 55) ?_
       refine bl (i:=2) (N:=some 56) ?_
       refine bl (i:=4) (N:=some 58) ?_
       refine bl (i:=5) (N:=some 59) ?_
       refine gj (i:=3) (N:=some 57) #[true,true,true,true,true,true,false,false] rfl rfl (by kernel_rfl) (by decide) (fun K hK=>?_)
       refine pg Try.func75 (by kernel_rfl) rfl #[.int .i64 vx] (by rfl) rfl rfl (by (try simp only [List.map_toArray,List.map_cons,List.map_nil]);first|done|rfl) ?_
       refine (HW.out _ _).mono ?_
       rintro e w5 ⟨rfl,jN⟩
       have HE:=Aside0.mk (aj HD.out jN)
       have vY:=Aside0.mk (aj vX.out jN)
       have qK:=Aside0.mk (ah kN.out jN)
       clear HD vX kN jN
       refine ⟨_,rfl,?_⟩
       refine hK.out _ _ trivial (fun hHeld=>?_)
       clear hK K hHeld
       refine fq (a':=?_) ?_ ?_
       rotate_left
       ·show Act.put _ (some 57) _=_
        simp only [Act.put,List.setIfInBounds_toArray,List.set_cons_zero,List.set_cons_succ,dJ,eD]
        rfl
       refine bl (i:=6) (N:=some 60) ?_
       refine rf (i:=7) (N:=none) #[true,true,true,true,true,true,true,true] rfl rfl (by kernel_rfl) (by decide) (fun K hK=>?_)
       have h1:=bB HE.out (gA.out.num i j (by exact om.out) (by exact qf.out))
       have h2:=bB HE.out (gA.out.den i j (by exact om.out) (by exact qf.out))
       have h3:=af HE.out (i*32+j*2)
       have h4:=af HE.out (i*32+j*2+1)
       refine lO (w1:=?_) (by rfl) rfl ?_ ?_
       rotate_left
       ·go_simp
        rfl
       refine hK.out _ _ ?_
       clear hK K
       refine gU (by kernel_rfl) ?_
       have HA:Aside0 (((w5.setCell ⟨w.heap.size+1,i*32+j*2,none⟩ (.int .i64 vx)).setCell ⟨w.heap.size+1,i*32+j*2+1,none⟩ (.int .i64 1)).heap[w.heap.size+1]? =some (.cells ((cs1.setIfInBounds (i*32+j*2) (.int .i64 vx)).setIfInBounds (i*32+j*2+1) (.int .i64 1)) 79 (0,0))):=⟨heap_set (heap_set HE.out)⟩
       have ke:Aside0 (((w5.setCell ⟨w.heap.size+1,i*32+j*2,none⟩ (.int .i64 vx)).setCell ⟨w.heap.size+1,i*32+j*2+1,none⟩ (.int .i64 1)).heap[w.heap.size]? =some (.cells Try.zeroCells79 79 (0,0))):=⟨bz (bz vY.out (by omega)) (by omega)⟩
       have cO:Aside0 (Below w.heap.size w ((w5.setCell ⟨w.heap.size+1,i*32+j*2,none⟩ (.int .i64 vx)).setCell ⟨w.heap.size+1,i*32+j*2+1,none⟩ (.int .i64 1))):=⟨bR (bR qK.out (by omega)) (by omega)⟩
       clear HE vY qK h1 h2 h3 h4 gA
       generalize ((w5.setCell ⟨w.heap.size+1,i*32+j*2,none⟩ (.int .i64 vx)).setCell ⟨w.heap.size+1,i*32+j*2+1,none⟩ (.int .i64 1))=w6 at*
       generalize ((cs1.setIfInBounds (i*32+j*2) (.int .i64 vx)).setIfInBounds (i*32+j*2+1) (.int .i64 1))=CF at*
       go_wp2
       go_roundw
       case rel=>exact ⟨j+1,CF,by first|(rw [rL.out];done)|rfl|(simp;done),Je.out,xR,HA,ke,cO⟩
       case measure=>(try rw [rL.out]);have:=Je.out;simp [intOf];omega
      ·have ZN:decide ((j:Int)<(n:Int))=false:=decide_eq_false (by omega)
       have Fo:decide (j<n)=false:=decide_eq_false hjn
       have hj':j=n:=by omega
       rw [hj'] at HF
       have h0c:∀f fG,oh cs1 f fG m (n+m) (n+1)->True:=fun _ _ _=>trivial
       obtain ⟨k2,hk2⟩:∃k2,k2=n+i:=⟨_,rfl⟩
       have hw3:IntKind.i64.wrap ((n:Int)+(i:Int))=(k2:Int):=by rw [hk2,dJ,cW (by omega) (by omega)];rfl
       have mq:=Aside0.mk hk2
       obtain ⟨nm,hnm⟩:∃nm,nm=n+m:=⟨_,rfl⟩
       have HNM:=Aside0.mk hnm
       have g6:(0:Int)<=(k2:Int):=by omega
       have g7:(k2:Int)<16:=by have:=Rc.out;omega
       have g8:(0:Int)<=(nm:Int):=by omega
       have g9:(nm:Int)<16:=by omega
       obtain ⟨f,fG,pW,hf2,hf3⟩:=HF.out
       have gA:=Aside0.mk pW
       have qf:Aside0 (k2<16):=⟨by have:=Rc.out;omega⟩
       have Gm:Aside0 (nm<16):=⟨by omega⟩
       have yc:=Aside0.mk (pW.put om.out qf.out (1,1))
       have a9R:=Aside0.mk (yc.out.put om.out Gm.out (right,1))
       have b7l:=Aside0.mk (a9R.out.b7k om.out (k2:Int))
       have xR:Aside0 (∃f fG,oh (((((cs1.setIfInBounds (i*32+k2*2) (.int .i64 1)).setIfInBounds (i*32+k2*2+1) (.int .i64 1)).setIfInBounds (i*32+nm*2) (.int .i64 right)).setIfInBounds (i*32+nm*2+1) (.int .i64 1)).setIfInBounds (512+i) (.int .i64 (k2:Int))) f fG m (n+m) (n+1)/\(∀i' j',i'<16->j'<16->f i' j'=if i'<i+1 then Dc rows n m right i' j' else (0,1))/\∀i',i'<i+1->fG i'=(n:Int)+(i':Int)):=⟨_,_,b7l.out,fun i' j' h hj'=>by
        show (if i'=i/\j'=nm then _ else if i'=i/\j'=k2 then _ else _)=_
        have hIm:=Rc.out
        by_cases e1:i'=i
        ·subst e1
         rw [if_pos (show i'<i'+1 by omega)]
         unfold Dc
         by_cases e2:j'=nm
         ·rw [if_pos ⟨rfl,e2⟩,if_neg (by omega),if_pos (by omega)]
         ·rw [if_neg (by omega)]
          by_cases e3:j'=k2
          ·rw [if_pos ⟨rfl,e3⟩,if_neg (by omega),if_neg (by omega),if_pos (by omega)]
          ·rw [if_neg (by omega),hf2 i' j' h hj',if_neg (by omega)]
           by_cases e4:j'<n
           ·rw [if_pos ⟨rfl,e4⟩,if_pos e4,qg.out]
           ·rw [if_neg (by omega),if_neg e4,if_neg (by omega),if_neg (by omega)]
        ·rw [if_neg (by omega),if_neg (by omega),hf2 i' j' h hj',if_neg (show ¬(i'=i/\j'<n) by omega)]
         by_cases e5:i'<i
         ·rw [if_pos e5,if_pos (by omega)]
         ·rw [if_neg e5,if_neg (by omega)],fun i' h=>by
        show (if i'=i then _ else _)=_
        by_cases e:i'=i
        ·rw [if_pos e,e,hk2];rfl
        ·rw [if_neg e];exact hf3 i' (by omega)⟩
       have a5a:∀(W:World) (cs:Array Value) (f:Nat->Nat->Int×Int) (fG:Nat->Int),W.heap[w.heap.size+1]? =some (.cells cs 79 (0,0))->oh cs f fG m (n+m) (n+1)->W.cell? ⟨w.heap.size+1,529,none⟩=some (.int .i64 (nm:Int)):=fun W cs f fG h hr=>by rw [HNM.out];exact bB h hr.od
       have Af:=Aside0.mk a5a
       clear hj' hjn hj pW hf2 hf3 HF hk2 hnm a5a h0c qg
       go_wp2
       have HD:=Aside0.mk (ak HA.out)
       have vX:=Aside0.mk (ak ke.out)
       have kN:=Aside0.mk (aI cO.out)
       clear HA ke cO
       refine fL (n:=9) (S:=fun w_=>True) (ds:=[8]) #[false,false,false,false,false,false,false,false,false] (by kernel_rfl) rfl rfl trivial (fun hHeld=>?_)
       generalize wr.drew=w4 at*
       refine bl (i:=0) (N:=some 62) ?_
       refine bl (i:=1) (N:=some 63) ?_
       refine bl (i:=2) (N:=some 64) ?_
       refine bl (i:=3) (N:=some 65) ?_
       refine bl (i:=5) (N:=some 67) ?_
       refine bl (i:=6) (N:=some 68) ?_
       refine gj (i:=4) (N:=some 66) #[true,true,true,true,true,true,true,false,false] rfl rfl (by kernel_rfl) (by decide) (fun K hK=>?_)
       refine pg Try.func75 (by kernel_rfl) rfl #[.int .i64 1] (by rfl) rfl rfl (by (try simp only [List.map_toArray,List.map_cons,List.map_nil]);first|done|rfl) ?_
       refine (HW.out _ _).mono ?_
       rintro e w5 ⟨rfl,jN⟩
       have HE:=Aside0.mk (aj HD.out jN)
       have vY:=Aside0.mk (aj vX.out jN)
       have qK:=Aside0.mk (ah kN.out jN)
       clear HD vX kN jN
       refine ⟨_,rfl,?_⟩
       refine hK.out _ _ trivial (fun hHeld=>?_)
       clear hK K hHeld
       refine fq (a':=?_) ?_ ?_
       rotate_left
       ·show Act.put _ (some 66) _=_
        simp only [Act.put,List.setIfInBounds_toArray,List.set_cons_zero,List.set_cons_succ,dJ,eD]
        rfl
       refine bl (i:=7) (N:=some 69) ?_
       refine rf (i:=8) (N:=none) #[true,true,true,true,true,true,true,true,true] rfl rfl (by kernel_rfl) (by decide) (fun K hK=>?_)
       have h1:=bB HE.out (gA.out.num i k2 (by exact om.out) (by exact qf.out))
       have h2:=bB HE.out (gA.out.den i k2 (by exact om.out) (by exact qf.out))
       have h3:=af HE.out (i*32+k2*2)
       have h4:=af HE.out (i*32+k2*2+1)
       refine lO (w1:=?_) (by rfl) rfl ?_ ?_
       rotate_left
       ·go_simp
        rfl
       refine hK.out _ _ ?_
       clear hK K
       refine gU (by kernel_rfl) ?_
       have HA:Aside0 (((w5.setCell ⟨w.heap.size+1,i*32+k2*2,none⟩ (.int .i64 1)).setCell ⟨w.heap.size+1,i*32+k2*2+1,none⟩ (.int .i64 1)).heap[w.heap.size+1]? =some (.cells ((cs1.setIfInBounds (i*32+k2*2) (.int .i64 1)).setIfInBounds (i*32+k2*2+1) (.int .i64 1)) 79 (0,0))):=⟨heap_set (heap_set HE.out)⟩
       have ke:Aside0 (((w5.setCell ⟨w.heap.size+1,i*32+k2*2,none⟩ (.int .i64 1)).setCell ⟨w.heap.size+1,i*32+k2*2+1,none⟩ (.int .i64 1)).heap[w.heap.size]? =some (.cells Try.zeroCells79 79 (0,0))):=⟨bz (bz vY.out (by omega)) (by omega)⟩
       have cO:Aside0 (Below w.heap.size w ((w5.setCell ⟨w.heap.size+1,i*32+k2*2,none⟩ (.int .i64 1)).setCell ⟨w.heap.size+1,i*32+k2*2+1,none⟩ (.int .i64 1))):=⟨bR (bR qK.out (by omega)) (by omega)⟩
       clear HE vY qK h1 h2 h3 h4 gA
       generalize ((w5.setCell ⟨w.heap.size+1,i*32+k2*2,none⟩ (.int .i64 1)).setCell ⟨w.heap.size+1,i*32+k2*2+1,none⟩ (.int .i64 1))=w6 at*
       generalize ((cs1.setIfInBounds (i*32+k2*2) (.int .i64 1)).setIfInBounds (i*32+k2*2+1) (.int .i64 1))=iy at*
       go_wp2
       have MS:=Af.out _ _ _ _ HA.out yc.out
       have HD:=Aside0.mk (ak HA.out)
       have vX:=Aside0.mk (ak ke.out)
       have kN:=Aside0.mk (aI cO.out)
       clear HA ke cO
       refine fL (n:=9) (S:=fun w'=>w'.cell? ⟨w.heap.size+1,529,none⟩=some (.int .i64 (nm:Int))) (ds:=[8]) #[false,false,false,false,false,false,false,false,false] (by kernel_rfl) rfl rfl MS (fun hHeld=>?_)
       generalize wr.drew=w4 at*
       refine bl (i:=0) (N:=some 70) ?_
       refine bl (i:=1) (N:=some 71) ?_
       refine dS (i:=2) (N:=some 72) (v:=?_) (a':=?_) #[true,true,true,false,false,false,false,false,false] rfl rfl (by kernel_rfl) (fun _ _ _ h=>h) (Or.inl ⟨by rfl,?_⟩) hHeld ?_ ?_
       rotate_left
       ·intro w' s0
        go_simp
        with_reducible rfl
       rotate_left
       ·exact fj
       refine bl (i:=3) (N:=some 73) ?_
       refine bl (i:=5) (N:=some 75) ?_
       refine bl (i:=6) (N:=some 76) ?_
       refine gj (i:=4) (N:=some 74) #[true,true,true,true,true,true,true,false,false] rfl rfl (by kernel_rfl) (by decide) (fun K hK=>?_)
       refine pg Try.func75 (by kernel_rfl) rfl #[.int .i64 right] (by rfl) rfl rfl (by (try simp only [List.map_toArray,List.map_cons,List.map_nil]);first|done|rfl) ?_
       refine (HW.out _ _).mono ?_
       rintro e w5 ⟨rfl,jN⟩
       have HE:=Aside0.mk (aj HD.out jN)
       have vY:=Aside0.mk (aj vX.out jN)
       have qK:=Aside0.mk (ah kN.out jN)
       clear HD vX kN jN
       refine ⟨_,rfl,?_⟩
       refine hK.out _ _ (Af.out _ _ _ _ HE.out yc.out) (fun hHeld=>?_)
       clear hK K hHeld
       refine fq (a':=?_) ?_ ?_
       rotate_left
       ·show Act.put _ (some 74) _=_
        simp only [Act.put,List.setIfInBounds_toArray,List.set_cons_zero,List.set_cons_succ,dJ,eD]
        rfl
       refine bl (i:=7) (N:=some 77) ?_
       refine rf (i:=8) (N:=none) #[true,true,true,true,true,true,true,true,true] rfl rfl (by kernel_rfl) (by decide) (fun K hK=>?_)
       have h1:=bB HE.out (yc.out.num i nm (by exact om.out) (by exact Gm.out))
       have h2:=bB HE.out (yc.out.den i nm (by exact om.out) (by exact Gm.out))
       have h3:=af HE.out (i*32+nm*2)
       have h4:=af HE.out (i*32+nm*2+1)
       refine lO (w1:=?_) (by rfl) rfl ?_ ?_
       rotate_left
       ·go_simp
        rfl
       refine hK.out _ _ ?_
       clear hK K
       refine gU (by kernel_rfl) ?_
       have HA:Aside0 (((w5.setCell ⟨w.heap.size+1,i*32+nm*2,none⟩ (.int .i64 right)).setCell ⟨w.heap.size+1,i*32+nm*2+1,none⟩ (.int .i64 1)).heap[w.heap.size+1]? =some (.cells ((iy.setIfInBounds (i*32+nm*2) (.int .i64 right)).setIfInBounds (i*32+nm*2+1) (.int .i64 1)) 79 (0,0))):=⟨heap_set (heap_set HE.out)⟩
       have ke:Aside0 (((w5.setCell ⟨w.heap.size+1,i*32+nm*2,none⟩ (.int .i64 right)).setCell ⟨w.heap.size+1,i*32+nm*2+1,none⟩ (.int .i64 1)).heap[w.heap.size]? =some (.cells Try.zeroCells79 79 (0,0))):=⟨bz (bz vY.out (by omega)) (by omega)⟩
       have cO:Aside0 (Below w.heap.size w ((w5.setCell ⟨w.heap.size+1,i*32+nm*2,none⟩ (.int .i64 right)).setCell ⟨w.heap.size+1,i*32+nm*2+1,none⟩ (.int .i64 1))):=⟨bR (bR qK.out (by omega)) (by omega)⟩
       clear HE vY qK h1 h2 h3 h4
       generalize ((w5.setCell ⟨w.heap.size+1,i*32+nm*2,none⟩ (.int .i64 right)).setCell ⟨w.heap.size+1,i*32+nm*2+1,none⟩ (.int .i64 1))=w6 at*
       generalize ((iy.setIfInBounds (i*32+nm*2) (.int .i64 right)).setIfInBounds (i*32+nm*2+1) (.int .i64 1))=EP at*
       have hb1:=bB HA.out (a9R.out.fG i om.out)
       have hb2:=af HA.out (512+i)
       go_wp2
       have gw:=Aside0.mk (heap_set (k:=512+i) (v:= .int .i64 (k2:Int)) HA.out)
       go_roundw
       case rel=>exact ⟨i+1,_,by first|(rw [fE.out];done)|rfl|(simp;done),Rc.out,xR,gw,⟨bz ke.out (by omega)⟩,⟨bR cO.out (by omega)⟩⟩
       case measure=>(try rw [fE.out]);have:=Rc.out;simp [intOf];omega
    ·have LL:i=m:=by omega
     have ZM:decide ((i:Int)<(m:Int))=false:=decide_eq_false (by omega)
     have BL:decide (i<m)=false:=decide_eq_false xQ
     rw [LL] at HF
     clear LL xQ hi
     go_wp2
     go_loopw [86] (fun jv wr=>∃(j:Nat) (cs1:Array Value),jv= .int .i64 (j:Int)/\j<=n/\Aside0 (∃f fG,oh cs1 f fG m (n+m) (n+1)/\(∀i' j',i'<16->j'<16->f i' j'=if i'<m then Dc rows n m right i' j' else Bi m sum j i' j')/\∀i',i'<m->fG i'=(n:Int)+(i':Int))/\Aside0 (wr.heap[w.heap.size+1]? =some (.cells cs1 79 (0,0)))/\Aside0 (wr.heap[w.heap.size]? =some (.cells Try.zeroCells79 79 (0,0)))/\Aside0 (Below w.heap.size w wr)) (fun jv _=>n -(intOf jv).toNat)
     case atStart=>exact ⟨0,cs1,rfl,by omega,⟨by obtain ⟨f,fG,h1,h2,h3⟩:=HF.out;exact ⟨f,fG,h1,fun i' j' h hj=>by rw [h2 i' j' h hj];unfold Bi;rw [if_neg (show ¬((i'=m/\j'<0)) by omega),if_neg (show ¬(j'<0/\i'=m+1+j') by omega)],h3⟩⟩,HA,ke,cO⟩
     case round=>
      clear HA ke cO HF ZM BL
      obtain ⟨j,cs1,rfl,hj,HF,HA,ke,cO⟩:=hrel
      by_cases hjn:j<n
      ·have Je:=Aside0.mk hjn
       obtain ⟨f,fG,pW,hf2,hf3⟩:=HF.out
       obtain ⟨m1,Nv⟩:∃m1,m1=m+1:=⟨_,rfl⟩
       obtain ⟨k2,hk2⟩:∃k2,k2=m1+j:=⟨_,rfl⟩
       have hw3:IntKind.i64.wrap ((m:Int)+1)=(m1:Int):=by rw [Nv,dJ,cW (by omega) (by omega)];rfl
       have hw4:IntKind.i64.wrap ((m1:Int)+(j:Int))=(k2:Int):=by rw [hk2,dJ,cW (by omega) (by omega)];rfl
       have g3:(0:Int)<=(j:Int):=by omega
       have g4:(j:Int)<(n:Int):=by omega
       have ZN:decide ((j:Int)<(n:Int))=true:=decide_eq_true g4
       have Fo:decide (j<n)=true:=decide_eq_true hjn
       have g5:(j:Int)<16:=by omega
       have g6:(0:Int)<=(m:Int):=by omega
       have g7:(m:Int)<16:=by omega
       have g8:(0:Int)<=(k2:Int):=by omega
       have g9:(k2:Int)<16:=by omega
       have rL:Aside0 (wrap64 ((j:Int)+1)=((j+1:Nat):Int)):=⟨dQ (by omega)⟩
       have qf:Aside0 (j<16):=⟨by omega⟩
       have om:Aside0 (m<16):=⟨by omega⟩
       have Gm:Aside0 (k2<16):=⟨by omega⟩
       have gA:=Aside0.mk pW
       have yc:=Aside0.mk (pW.put om.out qf.out (sum,1))
       have xR:Aside0 (∃f fG,oh ((((cs1.setIfInBounds (m*32+j*2) (.int .i64 sum)).setIfInBounds (m*32+j*2+1) (.int .i64 1)).setIfInBounds (k2*32+j*2) (.int .i64 1)).setIfInBounds (k2*32+j*2+1) (.int .i64 1)) f fG m (n+m) (n+1)/\(∀i' j',i'<16->j'<16->f i' j'=if i'<m then Dc rows n m right i' j' else Bi m sum (j+1) i' j')/\∀i',i'<m->fG i'=(n:Int)+(i':Int)):=⟨_,fG,yc.out.put Gm.out qf.out (1,1),fun i' j' h hj'=>by
        show (if i'=k2/\j'=j then _ else if i'=m/\j'=j then _ else _)=_
        by_cases e1:i'=k2/\j'=j
        ·rw [if_pos e1,if_neg (by omega)]
         unfold Bi
         rw [if_neg (by omega),if_pos (by omega)]
        ·rw [if_neg e1]
         by_cases e2:i'=m/\j'=j
         ·rw [if_pos e2,if_neg (by omega)]
          unfold Bi
          rw [if_pos (by omega)]
         ·rw [if_neg e2,hf2 i' j' h hj']
          by_cases e3:i'<m
          ·rw [if_pos e3,if_pos e3]
          ·rw [if_neg e3,if_neg e3]
           unfold Bi
           by_cases e4:i'=m/\j'<j
           ·rw [if_pos e4,if_pos (by omega)]
           ·rw [if_neg e4,if_neg (show ¬(i'=m/\j'<j+1) by omega)]
            by_cases e5:j'<j/\i'=m+1+j'
            ·rw [if_pos e5,if_pos (by omega)]
            ·rw [if_neg e5,if_neg (by omega)],hf3⟩
       have hro:∀(W:World) (cs:Array Value) (f:Nat->Nat->Int×Int) (fG:Nat->Int),W.heap[w.heap.size+1]? =some (.cells cs 79 (0,0))->oh cs f fG m (n+m) (n+1)->W.cell? ⟨w.heap.size+1,528,none⟩=some (.int .i64 (m:Int)):=fun W cs f fG h hr=>bB h hr.rows
       have Af:=Aside0.mk hro
       clear hjn hj pW hf2 hf3 HF Nv hk2 hro
       go_wp2
       have MS:=Af.out _ _ _ _ HA.out gA.out
       have HD:=Aside0.mk (ak HA.out)
       have vX:=Aside0.mk (ak ke.out)
       have kN:=Aside0.mk (aI cO.out)
       clear HA ke cO
       refine fL (n:=9) (S:=fun w'=>w'.cell? ⟨w.heap.size+1,528,none⟩=some (.int .i64 (m:Int))) (ds:=[8]) #[false,false,false,false,false,false,false,false,false] (by kernel_rfl) rfl rfl MS (fun hHeld=>?_)
       generalize wr.drew=w4 at*
       refine bl (i:=0) (N:=some 89) ?_
       refine dS (i:=1) (N:=some 90) (v:=?_) (a':=?_) #[true,true,false,false,false,false,false,false,false] rfl rfl (by kernel_rfl) (fun _ _ _ h=>h) (Or.inl ⟨by rfl,?_⟩) hHeld ?_ ?_
       rotate_left
       ·intro w' s0
        go_simp
        with_reducible rfl
       rotate_left
       ·exact fj
       refine bl (i:=2) (N:=some 91) ?_
       refine bl (i:=3) (N:=some 92) ?_
       refine bl (i:=5) (N:=some 94) ?_
       refine bl (i:=6) (N:=some 95) ?_
       refine gj (i:=4) (N:=some 93) #[true,true,true,true,true,true,true,false,false] rfl rfl (by kernel_rfl) (by decide) (fun K hK=>?_)
       refine pg Try.func75 (by kernel_rfl) rfl #[.int .i64 sum] (by rfl) rfl rfl (by (try simp only [List.map_toArray,List.map_cons,List.map_nil]);first|done|rfl) ?_
       refine (HW.out _ _).mono ?_
       rintro e w5 ⟨rfl,jN⟩
       have HE:=Aside0.mk (aj HD.out jN)
       have vY:=Aside0.mk (aj vX.out jN)
       have qK:=Aside0.mk (ah kN.out jN)
       clear HD vX kN jN
       refine ⟨_,rfl,?_⟩
       refine hK.out _ _ (Af.out _ _ _ _ HE.out gA.out) (fun hHeld=>?_)
       clear hK K hHeld
       refine fq (a':=?_) ?_ ?_
       rotate_left
       ·show Act.put _ (some 93) _=_
        simp only [Act.put,List.setIfInBounds_toArray,List.set_cons_zero,List.set_cons_succ,dJ,eD]
        rfl
       refine bl (i:=7) (N:=some 96) ?_
       refine rf (i:=8) (N:=none) #[true,true,true,true,true,true,true,true,true] rfl rfl (by kernel_rfl) (by decide) (fun K hK=>?_)
       have h1:=bB HE.out (gA.out.num m j (by exact om.out) (by exact qf.out))
       have h2:=bB HE.out (gA.out.den m j (by exact om.out) (by exact qf.out))
       have h3:=af HE.out (m*32+j*2)
       have h4:=af HE.out (m*32+j*2+1)
       refine lO (w1:=?_) (by rfl) rfl ?_ ?_
       rotate_left
       ·go_simp
        rfl
       refine hK.out _ _ ?_
       clear hK K
       refine gU (by kernel_rfl) ?_
       have HA:Aside0 (((w5.setCell ⟨w.heap.size+1,m*32+j*2,none⟩ (.int .i64 sum)).setCell ⟨w.heap.size+1,m*32+j*2+1,none⟩ (.int .i64 1)).heap[w.heap.size+1]? =some (.cells ((cs1.setIfInBounds (m*32+j*2) (.int .i64 sum)).setIfInBounds (m*32+j*2+1) (.int .i64 1)) 79 (0,0))):=⟨heap_set (heap_set HE.out)⟩
       have ke:Aside0 (((w5.setCell ⟨w.heap.size+1,m*32+j*2,none⟩ (.int .i64 sum)).setCell ⟨w.heap.size+1,m*32+j*2+1,none⟩ (.int .i64 1)).heap[w.heap.size]? =some (.cells Try.zeroCells79 79 (0,0))):=⟨bz (bz vY.out (by omega)) (by omega)⟩
       have cO:Aside0 (Below w.heap.size w ((w5.setCell ⟨w.heap.size+1,m*32+j*2,none⟩ (.int .i64 sum)).setCell ⟨w.heap.size+1,m*32+j*2+1,none⟩ (.int .i64 1))):=⟨bR (bR qK.out (by omega)) (by omega)⟩
       clear HE vY qK h1 h2 h3 h4 gA
       generalize ((w5.setCell ⟨w.heap.size+1,m*32+j*2,none⟩ (.int .i64 sum)).setCell ⟨w.heap.size+1,m*32+j*2+1,none⟩ (.int .i64 1))=w6 at*
       generalize ((cs1.setIfInBounds (m*32+j*2) (.int .i64 sum)).setIfInBounds (m*32+j*2+1) (.int .i64 1))=iy at*
       go_wp2
       have MS:=Af.out _ _ _ _ HA.out yc.out
       have HD:=Aside0.mk (ak HA.out)
       have vX:=Aside0.mk (ak ke.out)
       have kN:=Aside0.mk (aI cO.out)
       clear HA ke cO
       refine fL (n:=11) (S:=fun w'=>w'.cell? ⟨w.heap.size+1,528,none⟩=some (.int .i64 (m:Int))) (ds:=[10]) #[false,false,false,false,false,false,false,false,false,false,false] (by kernel_rfl) rfl rfl MS (fun hHeld=>?_)
       generalize wr.drew=w4 at*
       refine bl (i:=0) (N:=some 97) ?_
       refine dS (i:=1) (N:=some 98) (v:=?_) (a':=?_) #[true,true,false,false,false,false,false,false,false,false,false] rfl rfl (by kernel_rfl) (fun _ _ _ h=>h) (Or.inl ⟨by rfl,?_⟩) hHeld ?_ ?_
       rotate_left
       ·intro w' s0
        go_simp
        with_reducible rfl
       rotate_left
       ·exact fj
       refine bl (i:=2) (N:=some 99) ?_
       refine bl (i:=3) (N:=some 100) ?_
       refine bl (i:=4) (N:=some 101) ?_
       refine bl (i:=5) (N:=some 102) ?_
       refine bl (i:=7) (N:=some 104) ?_
       refine bl (i:=8) (N:=some 105) ?_
       refine gj (i:=6) (N:=some 103) #[true,true,true,true,true,true,true,true,true,false,false] rfl rfl (by kernel_rfl) (by decide) (fun K hK=>?_)
       refine pg Try.func75 (by kernel_rfl) rfl #[.int .i64 1] (by rfl) rfl rfl (by (try simp only [List.map_toArray,List.map_cons,List.map_nil]);first|done|rfl) ?_
       refine (HW.out _ _).mono ?_
       rintro e w5 ⟨rfl,jN⟩
       have HE:=Aside0.mk (aj HD.out jN)
       have vY:=Aside0.mk (aj vX.out jN)
       have qK:=Aside0.mk (ah kN.out jN)
       clear HD vX kN jN
       refine ⟨_,rfl,?_⟩
       refine hK.out _ _ (Af.out _ _ _ _ HE.out yc.out) (fun hHeld=>?_)
       clear hK K hHeld
       refine fq (a':=?_) ?_ ?_
       rotate_left
       ·show Act.put _ (some 103) _=_
        simp only [Act.put,List.setIfInBounds_toArray,List.set_cons_zero,List.set_cons_succ,dJ,eD]
        rfl
       refine bl (i:=9) (N:=some 106) ?_
       refine rf (i:=10) (N:=none) #[true,true,true,true,true,true,true,true,true,true,true] rfl rfl (by kernel_rfl) (by decide) (fun K hK=>?_)
       have h1:=bB HE.out (yc.out.num k2 j (by exact Gm.out) (by exact qf.out))
       have h2:=bB HE.out (yc.out.den k2 j (by exact Gm.out) (by exact qf.out))
       have h3:=af HE.out (k2*32+j*2)
       have h4:=af HE.out (k2*32+j*2+1)
       refine lO (w1:=?_) (by rfl) rfl ?_ ?_
       rotate_left
       ·go_simp
        rfl
       refine hK.out _ _ ?_
       clear hK K
       refine gU (by kernel_rfl) ?_
       have HA:Aside0 (((w5.setCell ⟨w.heap.size+1,k2*32+j*2,none⟩ (.int .i64 1)).setCell ⟨w.heap.size+1,k2*32+j*2+1,none⟩ (.int .i64 1)).heap[w.heap.size+1]? =some (.cells ((iy.setIfInBounds (k2*32+j*2) (.int .i64 1)).setIfInBounds (k2*32+j*2+1) (.int .i64 1)) 79 (0,0))):=⟨heap_set (heap_set HE.out)⟩
       have ke:Aside0 (((w5.setCell ⟨w.heap.size+1,k2*32+j*2,none⟩ (.int .i64 1)).setCell ⟨w.heap.size+1,k2*32+j*2+1,none⟩ (.int .i64 1)).heap[w.heap.size]? =some (.cells Try.zeroCells79 79 (0,0))):=⟨bz (bz vY.out (by omega)) (by omega)⟩
       have cO:Aside0 (Below w.heap.size w ((w5.setCell ⟨w.heap.size+1,k2*32+j*2,none⟩ (.int .i64 1)).setCell ⟨w.heap.size+1,k2*32+j*2+1,none⟩ (.int .i64 1))):=⟨bR (bR qK.out (by omega)) (by omega)⟩
       clear HE vY qK h1 h2 h3 h4
       generalize ((w5.setCell ⟨w.heap.size+1,k2*32+j*2,none⟩ (.int .i64 1)).setCell ⟨w.heap.size+1,k2*32+j*2+1,none⟩ (.int .i64 1))=w6 at*
       generalize ((iy.setIfInBounds (k2*32+j*2) (.int .i64 1)).setIfInBounds (k2*32+j*2+1) (.int .i64 1))=EP at*
       go_wp2
       go_roundw
       case rel=>exact ⟨j+1,EP,by first|(rw [rL.out];done)|rfl|(simp;done),Je.out,xR,HA,ke,cO⟩
       case measure=>(try rw [rL.out]);have:=Je.out;simp [intOf];omega
      ·have ZN:decide ((j:Int)<(n:Int))=false:=decide_eq_false (by omega)
       have Fo:decide (j<n)=false:=decide_eq_false hjn
       have hj':j=n:=by omega
       rw [hj'] at HF
       have WI:Aside0 (ic cs1 m (n+m) (n+1) (init n m (fun i j=>(((rows.getD i []).getD j 0:Int):Rat)) (fun _=>(right:Rat)) (sum:Rat))):=⟨by
        obtain ⟨f,fG,h1,h2,h3⟩:=HF.out
        have key:∀i' j',i'<m+(n+1)->j'<=n+m->f i' j'=(((init n m (fun i j=>(((rows.getD i []).getD j 0:Int):Rat)) (fun _=>(right:Rat)) (sum:Rat)).cell i' j').num,(((init n m (fun i j=>(((rows.getD i []).getD j 0:Int):Rat)) (fun _=>(right:Rat)) (sum:Rat)).cell i' j').den:Int)):=by
         intro i' j' hi' hj'
         rw [h2 i' j' (by omega) (by omega)]
         simp only [init,Dc,Bi]
         by_cases e:i'<m
         ·rw [if_pos e,if_pos e]
          by_cases e1:j'<n
          ·rw [if_pos e1,if_pos e1];rfl
          ·rw [if_neg e1,if_neg e1]
           by_cases e2:j'=n+m
           ·rw [if_pos e2,if_pos e2];rfl
           ·rw [if_neg e2,if_neg e2]
            by_cases e3:j'=n+i'
            ·rw [if_pos e3,if_pos e3];rfl
            ·rw [if_neg e3,if_neg e3];rfl
         ·rw [if_neg e,if_neg e]
          by_cases e1:i'=m
          ·rw [if_pos e1]
           by_cases e2:j'<n
           ·rw [if_pos ⟨e1,e2⟩,if_pos e2];rfl
           ·rw [if_neg (by omega),if_neg (by omega),if_neg e2];rfl
          ·rw [if_neg e1,if_neg (by omega)]
           by_cases e2:j'<n/\i'=m+1+j'
           ·rw [if_pos e2,if_pos (by omega)];rfl
           ·rw [if_neg e2,if_neg (by omega)];rfl
        refine ⟨h1.size,h1.one,fun i' j' hi' hj'=>?_,fun i' j' hi' hj'=>?_,fun r hr=>?_,h1.rows,h1.od,h1.costs,hs,hN⟩
        ·rw [h1.num i' j' (by omega) (by omega),key i' j' hi' hj']
        ·rw [h1.den i' j' (by omega) (by omega),key i' j' hi' hj']
        ·rw [h1.fG r (by omega),h3 r hr];rfl⟩
       have UA:Aside0 ((Try.prog.info? 79).map (·.size)=some cs1.size):=⟨by rw [WI.out.size];exact HI.out⟩
       have wW:Aside0 ((Try.zeroCells79).size=cs1.size):=⟨by rw [WI.out.size];exact HZ.out⟩
       clear hj' hjn hj HF
       go_wp2_with (first|((with_reducible refine bn (N:=108) rfl ?_);refine wpList_load_row rfl 79 (.tmp 9) rfl (w.heap.size+1) rfl 79 cs1 (0,0) _ HA.out hu (by rfl) UA.out ?_)|((with_reducible refine kg (t:=79) (p:=8) rfl ?_);refine wpList_store_row rfl 79 (.tmp 8) (.tmp 108) rfl w.heap.size cs1 rfl rfl 79 Try.zeroCells79 ke.out UA.out wW.out WI.out.one ?_))
       refine bodyPost_ret (results_cell_row rfl _ _ w.heap.size 79 cs1 (0,0) _ rfl (sL ke.out) hu (by rfl) UA.out) rfl ?_
       exact ⟨cs1,rfl,WI.out,qG cO.out (Nat.le_refl _)⟩
end Go.Proofs.Ytkckdphjhlbdcaa.PT
namespace Go.Proofs.Ytkckdphjhlbdcaa.P
open Go.RowKit Go.Proofs.YtkckdphjhlbdcaaW.PrintWords Go.Proofs.YtkckdphjhlbdcaaW.PrintLast Go.Proofs.YtkckdphjhlbdcaaW.PrintMore
attribute [local go_sem] max2_int min2_int max_two min_two max_three min_three max_four min_four
set_option linter.all false
def jD.f (k:Nat) (l0:List Int):Option (Bool):=(dG.f k l0).bind fun LM=>(some (!LM))
theorem jD.mono:∀a0 k,aR (jD.f k a0) (jD.f (k+1) a0):=by
 intro a0 k
 unfold jD.f
 repeat' first
  |(with_reducible exact dG.mono _ _)
  |(with_reducible exact aR.refl _)
  |(with_reducible exact aR.none _)
  |(with_reducible refine aR.ite ?_ ?_)
  |(with_reducible refine aR.bind ?_ (fun _=>?_))
set_option maxHeartbeats 8000000 in
set_option maxRecDepth 100000 in
theorem jD.calls (k:Nat) (A0:Option Addr) (c0:Nat) (l0:List Int) (r:Bool) (w:World) (fl:Kd.C (Kd.int .i64) w A0 l0.length l0) (hc0:l0.length<=c0) (h:jD.f k l0=some r):
 Calls Try.prog 71 #[.slice A0 l0.length c0] w fun e w'=>e= .returned (.bool r)/\aW w w':=by
 have eu:=Aside0.mk fl
 have kr:=Aside0.mk hc0
 clear fl hc0
 have H:((dG.f k l0).bind fun LM=>(some (!LM)))=some r:=h
 clear h
 replace H:=Option.bind_eq_some_iff.mp H
 obtain ⟨LM,zE,H⟩:=H
 replace H:(some (!LM))=some r:=H
 have A2:=Aside0.mk zE
 clear zE
 obtain rfl:=Option.some.inj H
 go_enter Try.func71,Try.ntmps71
 go_wp2_with (first|((with_reducible refine aV (f:=53) rfl ?_);refine bH (some 4) rfl rfl Try.func53 (by kernel_rfl) rfl #[.slice A0 l0.length c0] rfl (by (try simp only [List.map_toArray,List.map_cons,List.map_nil]);first|done|rfl|(simp only [List.length_drop,List.length_take];rfl)) ?_;(with_reducible refine (dG.calls k _ _ l0 LM _ ?bO ?bP A2.out).mono ?_);(case bO=>repeat (first|exact eu.out|(with_reducible refine Kd.bV ?_ _)|(with_reducible refine Kd.bW ?_ _)|(with_reducible refine Kd.cy ?_)));(case bP=>exact kr.out);rintro e w' ⟨rfl,⟨nd,rfl⟩⟩;refine ⟨_,rfl,?_⟩))
 go_ret
 exact ⟨by first|rfl|(simp;done)|(simp [*];done),by repeat (first|exact aW.refl _|apply aW.step)⟩
def bI.l0:Nat->List Int->Int->Int->Int->Option (Int)
 |0,_,_,_,_=>none
 |k+1,x0,x1,x7,x8=>if x8<x7 then (if 0<=x8 then (if x8<(x0.length:Int) then (if x1=(rd x0 x8) then (some x8) else (bI.l0 k x0 x1 x7 (wrap64 (x8+1)))) else (none)) else (none)) else (some (-1))
def bI.f (k:Nat) (l0:List Int) (a1:Int):Option (Int):=bI.l0 k l0 a1 (l0.length:Int) 0
theorem bI.cC:∀k,(∀y0 y1 y2 y3,aR (bI.l0 k y0 y1 y2 y3) (bI.l0 (k+1) y0 y1 y2 y3))
 |0=>fun _ _ _ _ r h=>by simp [bI.l0] at h
 |k+1=>by
  have dN:=bI.cC k
  ·intro y0 y1 y2 y3
   unfold bI.l0
   repeat' first
   |(with_reducible exact dN _ _ _ _)
   |(with_reducible exact aR.refl _)
   |(with_reducible exact aR.none _)
   |(with_reducible refine aR.ite ?_ ?_)
   |(with_reducible refine aR.bind ?_ (fun _=>?_))
theorem bI.mono:∀a0 a1 k,aR (bI.f k a0 a1) (bI.f (k+1) a0 a1):=by
 intro a0 a1 k
 have dN:=bI.cC k
 unfold bI.f
 repeat' first
  |(with_reducible exact dN _ _ _ _)
  |(with_reducible exact aR.refl _)
  |(with_reducible exact aR.none _)
  |(with_reducible refine aR.ite ?_ ?_)
  |(with_reducible refine aR.bind ?_ (fun _=>?_))
set_option maxHeartbeats 8000000 in
set_option maxRecDepth 100000 in
theorem bI.calls (k:Nat) (A0:Option Addr) (c0:Nat) (l0:List Int) (a1:Int) (r:Int) (w:World) (fl:Kd.C (Kd.int .i64) w A0 l0.length l0) (hc0:l0.length<=c0) (h:bI.f k l0 a1=some r):
 Calls Try.prog 72 #[.slice A0 l0.length c0,.int .i64 a1] w fun e w'=>e= .returned (.int .i64 r)/\aW w w':=by
 have eu:=Aside0.mk fl
 have kr:=Aside0.mk hc0
 clear fl hc0
 have H:(bI.l0 k l0 a1 (l0.length:Int) 0)=some r:=h
 clear h
 have H':=Aside0.mk H
 clear H
 go_enter Try.func72,Try.ntmps72
 go_wp2
 go_loopg [8] k (fun kq v8 w'=>∃(fN:Int),v8= .int .i64 fN/\Aside0 (bI.l0 kq l0 a1 (l0.length:Int) fN=some r)/\Aside0 (kq<=k)/\aW w w')
 case atStart=>exact ⟨(0),(by first|rfl|(simp;done)|(simp [*];done)),H',⟨Nat.le_refl _⟩,by repeat (first|exact aW.refl _|apply aW.step)⟩
 case round=>
  clear H'
  try clear p2
  obtain ⟨fN,rfl,HA,dX,⟨m1,rfl⟩⟩:=hrel
  cases gk with
  |zero=>exact absurd HA.out (by simp [bI.l0])
  |succ k1=>
   have H:=HA.out
   clear HA
   simp only [bI.l0] at H
   by_cases c3:fN<(l0.length:Int)
   ·rw [if_pos c3] at H
    have iw:decide (fN<(l0.length:Int))=true:=decide_eq_true c3
    clear c3
    by_cases c4:0<=fN
    ·rw [if_pos c4] at H
     have mj:decide (0<=fN)=true:=decide_eq_true c4
     clear c4
     by_cases c5:fN<(l0.length:Int)
     ·rw [if_pos c5] at H
      have wF:decide (fN<(l0.length:Int))=true:=decide_eq_true c5
      clear c5
      by_cases c6:a1=(rd l0 fN)
      ·rw [if_pos c6] at H
       have oc:(a1==(rd l0 fN))=true:=beq_iff_eq.mpr c6
       have a2y:(a1 !=(rd l0 fN))=false:=bne_eq_false_iff_eq.mpr c6
       clear c6
       obtain rfl:=Option.some.inj H
       have Gn:0<=(fN:Int):=of_decide_eq_true (by first|(with_reducible assumption)|assumption)
       have Gp:fN<(l0.length:Int):=of_decide_eq_true (by first|(with_reducible assumption)|assumption)
       obtain ⟨b3l,a2z,a7d⟩:=Kd.gL eu.out fN Gn Gp
       cases a2z
       replace Gn:=eq_true Gn
       replace Gp:=eq_true Gp
       go_wp2
       go_ret
       exact ⟨by first|rfl|(simp;done)|(simp [*];done),by repeat (first|exact aW.refl _|apply aW.step)⟩
      ·rw [if_neg c6] at H
       have oc:(a1==(rd l0 fN))=false:=beq_eq_false_iff_ne.mpr c6
       have a2y:(a1 !=(rd l0 fN))=true:=bne_iff_ne.mpr c6
       have H':=Aside0.mk H
       clear H
       have Gn:0<=(fN:Int):=of_decide_eq_true (by first|(with_reducible assumption)|assumption)
       have Gp:fN<(l0.length:Int):=of_decide_eq_true (by first|(with_reducible assumption)|assumption)
       obtain ⟨b3l,a2z,a7d⟩:=Kd.gL eu.out fN Gn Gp
       cases a2z
       replace Gn:=eq_true Gn
       replace Gp:=eq_true Gp
       go_wp2
       go_roundg k1
       case measure=>have:=dX.out;omega
       case rel=>exact ⟨(wrap64 (fN+1)),(by first|rfl|(simp;done)|(simp [*];done)),H',⟨by have:=dX.out;omega⟩,by repeat (first|exact aW.refl _|apply aW.step)⟩
     ·rw [if_neg c5] at H
      exact absurd H (by simp)
    ·rw [if_neg c4] at H
     exact absurd H (by simp)
   ·rw [if_neg c3] at H
    have iw:decide (fN<(l0.length:Int))=false:=decide_eq_false c3
    clear c3
    obtain rfl:=Option.some.inj H
    go_wp2
    go_ret
    exact ⟨by first|rfl|(simp;done)|(simp [*];done),by repeat (first|exact aW.refl _|apply aW.step)⟩
def dP.f (k:Nat) (l0:List Int) (a1:Int):Option (Bool):=(bI.f k l0 a1).bind fun LN=>(some (decide (LN>=0)))
theorem dP.mono:∀a0 a1 k,aR (dP.f k a0 a1) (dP.f (k+1) a0 a1):=by
 intro a0 a1 k
 unfold dP.f
 repeat' first
  |(with_reducible exact bI.mono _ _ _)
  |(with_reducible exact aR.refl _)
  |(with_reducible exact aR.none _)
  |(with_reducible refine aR.ite ?_ ?_)
  |(with_reducible refine aR.bind ?_ (fun _=>?_))
set_option maxHeartbeats 8000000 in
set_option maxRecDepth 100000 in
theorem dP.calls (k:Nat) (A0:Option Addr) (c0:Nat) (l0:List Int) (a1:Int) (r:Bool) (w:World) (fl:Kd.C (Kd.int .i64) w A0 l0.length l0) (hc0:l0.length<=c0) (h:dP.f k l0 a1=some r):
 Calls Try.prog 54 #[.slice A0 l0.length c0,.int .i64 a1] w fun e w'=>e= .returned (.bool r)/\aW w w':=by
 have eu:=Aside0.mk fl
 have kr:=Aside0.mk hc0
 clear fl hc0
 have H:((bI.f k l0 a1).bind fun LN=>(some (decide (LN>=0))))=some r:=h
 clear h
 replace H:=Option.bind_eq_some_iff.mp H
 obtain ⟨LN,jx,H⟩:=H
 replace H:(some (decide (LN>=0)))=some r:=H
 have A3:=Aside0.mk jx
 clear jx
 obtain rfl:=Option.some.inj H
 go_enter Try.func54,Try.ntmps54
 go_wp2_with (first|((with_reducible refine aV (f:=72) rfl ?_);refine bH (some 7) rfl rfl Try.func72 (by kernel_rfl) rfl #[.slice A0 l0.length c0,.int .i64 a1] rfl (by (try simp only [List.map_toArray,List.map_cons,List.map_nil]);first|done|rfl|(simp only [List.length_drop,List.length_take];rfl)) ?_;(with_reducible refine (bI.calls k _ _ l0 a1 LN _ ?bO ?bP A3.out).mono ?_);(case bO=>repeat (first|exact eu.out|(with_reducible refine Kd.bV ?_ _)|(with_reducible refine Kd.bW ?_ _)|(with_reducible refine Kd.cy ?_)));(case bP=>exact kr.out);rintro e w' ⟨rfl,⟨nd,rfl⟩⟩;refine ⟨_,rfl,?_⟩))
 go_ret
 exact ⟨by first|rfl|(simp;done)|(simp [*];done),by repeat (first|exact aW.refl _|apply aW.step)⟩
end Go.Proofs.Ytkckdphjhlbdcaa.P
namespace Go.Proofs.Ytkckdphjhlbdcaa.PT
open Go.RowKit Go.Proofs.Ytkckdphjhlbdcaa.P Go.Proofs.YtkckdphjhlbdcaaW.PrintWords Go.Proofs.YtkckdphjhlbdcaaW.PrintLast Go.Proofs.Ytkckdphjhlbdcaa.EvKit
set_option linter.all false
def Gq (v:Int):List Int->Nat->Int
 | [],_=> -1
 |x::r,i=>if v=x then i else Gq v r (i+1)
theorem Re (v:Int):∀(l:List Int) (i:Nat),0<=Gq v l i↔v∈l
 | [],i=>by simp [Gq]
 |x::r,i=>by
  simp only [Gq]
  by_cases h:v=x
  ·rw [if_pos h];subst h;simp
  ·rw [if_neg h,Re v r (i+1)];simp [h]
theorem Ta (l:List Int) (v:Int) (hl:l.length<=1048576):Ev (fun k=>bI.f k l v) (Gq v l 0):=by
 unfold bI.f
 have:=Ev.loop (g:=fun k i=>bI.l0 k l v (l.length:Int) (i:Int)) (n:=l.length) (R:=fun i=>Gq v (l.drop i) i) ?_ ?_ 0 (Nat.zero_le _)
 ·simpa using this
 ·refine Ev.succ ?_
  simp only [bI.l0]
  rw [List.drop_of_length_le (l:=l) (Nat.le_refl _)]
  exact Ev.neg (by omega) (Ev.now _)
 ·intro i hi ih
  refine Ev.succ ?_
  simp only [bI.l0,qh hi,dQ (show i<=9223372036854775806 by omega)]
  rw [ox hi]
  refine Ev.pos (by omega) (Ev.pos (by omega) (Ev.pos (by omega) ?_))
  simp only [Gq]
  by_cases c:v=l[i]
  ·rw [if_pos c];exact Ev.pos c (Ev.now _)
  ·rw [if_neg c];exact Ev.neg c ih
theorem rD (l:List Int) (v:Int) (hl:l.length<=1048576):Ev (fun k=>dP.f k l v) (decide (v∈l)):=by
 unfold dP.f
 refine Ev.bind (Ta l v hl) (Ev.to (Ev.now _) ?_)
 rw [decide_eq_decide]
 exact Re v l 0
def gX (p:List Int->Bool):List (List Int)->Nat->Int
 | [],_=> -1
 |x::r,i=>if p x=true then i else gX p r (i+1)
theorem Bj (p:List Int->Bool):∀(l:List (List Int)) (i:Nat),decide (gX p l i>=0)=l.any p
 | [],i=>rfl
 |x::r,i=>by
  by_cases h:p x=true
  ·have e:gX p (x::r) i=(i:Int):=if_pos h
   rw [e,List.any_cons,h,Bool.true_or];exact decide_eq_true (by omega)
  ·have e:gX p (x::r) i=gX p r (i+1):=if_neg h
   rw [e,Bj p r (i+1),List.any_cons,Bool.eq_false_iff.mpr h,Bool.false_or]
theorem dH {w w':World} (h:aW w w'):Below w.heap.size w w':=by
 obtain ⟨n,rfl⟩:=h
 exact bu (Below.refl _ _) n
set_option maxHeartbeats 2000000 in
set_option maxRecDepth 100000 in
theorem Tb (p:List Int->Bool) (A:Option Addr) (c:Nat) (l:List (List Int)) (w:World) (hr:Kd.C mN w A l.length l) (hc:l.length<=c)
 (hF:∀row,row∈l->∀A1 c1 W,Below w.heap.size w W->Kd.C (Kd.int .i64) W A1 row.length row->row.length<=c1->Calls Try.prog 71 #[.slice A1 row.length c1] W fun e w'=>e= .returned (.bool (p row))/\Below W.heap.size W w'):
 Calls Try.prog 74 #[.slice A l.length c,.func (.func 71) #[] #[]] w fun e w'=>e= .returned (.int .i64 (gX p l 0))/\Below w.heap.size w w':=by
 have HR:=Aside0.mk hr
 have hlen:l.length<=9223372036854775807:=hr.2.1
 have HF:=Aside0.mk hF
 clear hr hF
 go_enter Try.func74,Try.ntmps74
 go_wp2
 go_loopw [8] (fun iv wr=>∃i:Nat,iv= .int .i64 (i:Int)/\i<=l.length/\Aside0 (gX p l 0=gX p (l.drop i) i)/\Aside0 (Below w.heap.size w wr)) (fun iv _=>l.length -(intOf iv).toNat)
 case atStart=>exact ⟨0,rfl,by omega,⟨by simp⟩,⟨by repeat (first|exact Below.refl _ _|apply aI)⟩⟩
 case round=>
  obtain ⟨i,rfl,hi,HE,HB⟩:=hrel
  by_cases hlt:i<l.length
  ·obtain ⟨ad,A1,c1,e,hx,hlx,kA⟩:=Ad HR.out i hlt
   have qo:=Aside0.mk (HF.out l[i] (List.getElem_mem hlt) A1 c1 wr HB.out (Kd.bp kA HB.out) hlx)
   have td:Aside0 (gX p l 0=if p l[i]=true then (i:Int) else gX p (l.drop (i+1)) (i+1)):=⟨by rw [HE.out,List.drop_eq_getElem_cons hlt];rfl⟩
   cases e
   have hx2:wr.cell? (ad.add i)=some (.slice A1 (l[i]).length c1):=(HB.out.cell (World.block_lt_of_cell? w _ hx)).trans hx
   have HI:=Aside0.mk hlt
   have fE:Aside0 (wrap64 ((i:Int)+1)=((i+1:Nat):Int)):=⟨dQ (by omega)⟩
   have g0:(0:Int)<=(i:Int):=by omega
   have g1:(i:Int)<(l.length:Int):=by omega
   have oB:decide ((i:Int)<(l.length:Int))=true:=decide_eq_true g1
   have mW:decide (i<l.length)=true:=decide_eq_true hlt
   clear hx hlx kA hi HE
   generalize l[i]=row at*
   generalize p row=y at*
   clear hlt
   cases y with
   |true=>
    have nP:Aside0 (gX p l 0=(i:Int)):=⟨by rw [td.out,if_pos rfl]⟩
    clear td
    go_wp2_with (first|(go_at_call 71;(with_reducible refine qo.out.mono ?_);rintro e w1 ⟨rfl,hb1⟩;have di:=Aside0.mk (ah HB.out hb1);clear hb1 qo))
    go_ret
    exact ⟨by rw [nP.out];first|done|rfl,di.out⟩
   |false=>
    have nP:Aside0 (gX p l 0=gX p (l.drop (i+1)) (i+1)):=⟨by rw [td.out,if_neg (by decide)]⟩
    clear td
    go_wp2_with (first|(go_at_call 71;(with_reducible refine qo.out.mono ?_);rintro e w1 ⟨rfl,hb1⟩;have di:=Aside0.mk (ah HB.out hb1);clear hb1 qo))
    go_roundw
    case rel=>exact ⟨i+1,by first|(rw [fE.out];done)|rfl|(simp;done),HI.out,nP,di⟩
    case measure=>(try rw [fE.out]);have:=HI.out;simp [intOf];omega
  ·have hil:i=l.length:=by omega
   have nP:Aside0 (gX p l 0= -1):=⟨by rw [HE.out,hil,List.drop_length];rfl⟩
   have oB:decide ((i:Int)<(l.length:Int))=false:=decide_eq_false (by omega)
   have mW:decide (i<l.length)=false:=decide_eq_false hlt
   clear hil hlt hi HE
   go_wp2
   go_ret
   exact ⟨by rw [nP.out];first|done|rfl,HB.out⟩
set_option maxHeartbeats 2000000 in
set_option maxRecDepth 100000 in
theorem LO (p:List Int->Bool) (A:Option Addr) (c:Nat) (l:List (List Int)) (w:World) (hr:Kd.C mN w A l.length l) (hc:l.length<=c)
 (hF:∀row,row∈l->∀A1 c1 W,Below w.heap.size w W->Kd.C (Kd.int .i64) W A1 row.length row->row.length<=c1->Calls Try.prog 71 #[.slice A1 row.length c1] W fun e w'=>e= .returned (.bool (p row))/\Below W.heap.size W w'):
 Calls Try.prog 57 #[.slice A l.length c,.func (.func 71) #[] #[]] w fun e w'=>e= .returned (.bool (l.any p))/\Below w.heap.size w w':=by
 have HI:=Aside0.mk (Tb p A c l w hr hc hF)
 have HA:Aside0 (decide (gX p l 0>=0)=l.any p):=⟨Bj p l 0⟩
 clear hr hc hF
 generalize gX p l 0=x at*
 go_enter Try.func57,Try.ntmps57
 go_wp2_with (first|(go_at_call 74;(with_reducible refine HI.out.mono ?_);rintro e w1 ⟨rfl,hb1⟩;have di:=Aside0.mk hb1;clear hb1))
 go_ret
 exact ⟨by rw [<-HA.out];first|done|rfl,di.out⟩
set_option maxHeartbeats 2000000 in
set_option maxRecDepth 100000 in
theorem Tc (p:List Int->Bool) (A:Option Addr) (c:Nat) (l:List (List Int)) (g:Nat) (w:World) (hr:Kd.C mN w A l.length l) (hc:l.length<=c)
 (hF:∀row,row∈l->∀A1 c1 W,Below w.heap.size w W->Kd.C (Kd.int .i64) W A1 row.length row->row.length<=c1->Calls Try.prog 58 #[.slice A1 row.length c1,.pointer (some ⟨g,0,none⟩)] W fun e w'=>e= .returned (.bool (p row))/\Below W.heap.size W w'):
 Calls Try.prog 74 #[.slice A l.length c,.func (.func 58) #[] #[.pointer (some ⟨g,0,none⟩)]] w fun e w'=>e= .returned (.int .i64 (gX p l 0))/\Below w.heap.size w w':=by
 have HR:=Aside0.mk hr
 have hlen:l.length<=9223372036854775807:=hr.2.1
 have HF:=Aside0.mk hF
 clear hr hF
 go_enter Try.func74,Try.ntmps74
 go_wp2
 go_loopw [8] (fun iv wr=>∃i:Nat,iv= .int .i64 (i:Int)/\i<=l.length/\Aside0 (gX p l 0=gX p (l.drop i) i)/\Aside0 (Below w.heap.size w wr)) (fun iv _=>l.length -(intOf iv).toNat)
 case atStart=>exact ⟨0,rfl,by omega,⟨by simp⟩,⟨by repeat (first|exact Below.refl _ _|apply aI)⟩⟩
 case round=>
  obtain ⟨i,rfl,hi,HE,HB⟩:=hrel
  by_cases hlt:i<l.length
  ·obtain ⟨ad,A1,c1,e,hx,hlx,kA⟩:=Ad HR.out i hlt
   have qo:=Aside0.mk (HF.out l[i] (List.getElem_mem hlt) A1 c1 wr HB.out (Kd.bp kA HB.out) hlx)
   have td:Aside0 (gX p l 0=if p l[i]=true then (i:Int) else gX p (l.drop (i+1)) (i+1)):=⟨by rw [HE.out,List.drop_eq_getElem_cons hlt];rfl⟩
   cases e
   have hx2:wr.cell? (ad.add i)=some (.slice A1 (l[i]).length c1):=(HB.out.cell (World.block_lt_of_cell? w _ hx)).trans hx
   have HI:=Aside0.mk hlt
   have fE:Aside0 (wrap64 ((i:Int)+1)=((i+1:Nat):Int)):=⟨dQ (by omega)⟩
   have g0:(0:Int)<=(i:Int):=by omega
   have g1:(i:Int)<(l.length:Int):=by omega
   have oB:decide ((i:Int)<(l.length:Int))=true:=decide_eq_true g1
   have mW:decide (i<l.length)=true:=decide_eq_true hlt
   clear hx hlx kA hi HE
   generalize l[i]=row at*
   generalize p row=y at*
   clear hlt
   cases y with
   |true=>
    have nP:Aside0 (gX p l 0=(i:Int)):=⟨by rw [td.out,if_pos rfl]⟩
    clear td
    go_wp2_with (first|(go_at_call 58;(with_reducible refine qo.out.mono ?_);rintro e w1 ⟨rfl,hb1⟩;have di:=Aside0.mk (ah HB.out hb1);clear hb1 qo))
    go_ret
    exact ⟨by rw [nP.out];first|done|rfl,di.out⟩
   |false=>
    have nP:Aside0 (gX p l 0=gX p (l.drop (i+1)) (i+1)):=⟨by rw [td.out,if_neg (by decide)]⟩
    clear td
    go_wp2_with (first|(go_at_call 58;(with_reducible refine qo.out.mono ?_);rintro e w1 ⟨rfl,hb1⟩;have di:=Aside0.mk (ah HB.out hb1);clear hb1 qo))
    go_roundw
    case rel=>exact ⟨i+1,by first|(rw [fE.out];done)|rfl|(simp;done),HI.out,nP,di⟩
    case measure=>(try rw [fE.out]);have:=HI.out;simp [intOf];omega
  ·have hil:i=l.length:=by omega
   have nP:Aside0 (gX p l 0= -1):=⟨by rw [HE.out,hil,List.drop_length];rfl⟩
   have oB:decide ((i:Int)<(l.length:Int))=false:=decide_eq_false (by omega)
   have mW:decide (i<l.length)=false:=decide_eq_false hlt
   clear hil hlt hi HE
   go_wp2
   go_ret
   exact ⟨by rw [nP.out];first|done|rfl,HB.out⟩
set_option maxHeartbeats 2000000 in
set_option maxRecDepth 100000 in
theorem LP (p:List Int->Bool) (A:Option Addr) (c:Nat) (l:List (List Int)) (g:Nat) (w:World) (hr:Kd.C mN w A l.length l) (hc:l.length<=c)
 (hF:∀row,row∈l->∀A1 c1 W,Below w.heap.size w W->Kd.C (Kd.int .i64) W A1 row.length row->row.length<=c1->Calls Try.prog 58 #[.slice A1 row.length c1,.pointer (some ⟨g,0,none⟩)] W fun e w'=>e= .returned (.bool (p row))/\Below W.heap.size W w'):
 Calls Try.prog 57 #[.slice A l.length c,.func (.func 58) #[] #[.pointer (some ⟨g,0,none⟩)]] w fun e w'=>e= .returned (.bool (l.any p))/\Below w.heap.size w w':=by
 have HI:=Aside0.mk (Tc p A c l g w hr hc hF)
 have HA:Aside0 (decide (gX p l 0>=0)=l.any p):=⟨Bj p l 0⟩
 clear hr hc hF
 generalize gX p l 0=x at*
 go_enter Try.func57,Try.ntmps57
 go_wp2_with (first|(go_at_call 74;(with_reducible refine HI.out.mono ?_);rintro e w1 ⟨rfl,hb1⟩;have di:=Aside0.mk hb1;clear hb1))
 go_ret
 exact ⟨by rw [<-HA.out];first|done|rfl,di.out⟩
set_option maxHeartbeats 1000000 in
theorem WJ (A:Option Addr) (c:Nat) (l:List Int) (w:World) (hr:Kd.C (Kd.int .i64) w A l.length l) (hc:l.length<=c) (hl:l.length<=1048576):
 Calls Try.prog 71 #[.slice A l.length c] w fun e w'=>e= .returned (.bool (!iA (-1) l))/\Below w.heap.size w w':=by
 have hev:Ev (fun k=>jD.f k l) (!iA (-1) l):=by
  unfold jD.f
  exact Ev.bind (Gl l (by omega)) (Ev.now _)
 obtain ⟨k,hk⟩:=Ev.rounds hev
 refine (jD.calls k A c l _ w hr hc hk).mono ?_
 rintro e w1 ⟨rfl,h⟩
 exact ⟨rfl,dH h⟩
set_option maxHeartbeats 1000000 in
theorem ZO (A:Option Addr) (c:Nat) (l:List Int) (g:Nat) (v:Int) (w:World) (hr:Kd.C (Kd.int .i64) w A l.length l) (hc:l.length<=c) (hl:l.length<=1048576) (hv:w.cell? ⟨g,0,none⟩=some (.int .i64 v)):
 Calls Try.prog 58 #[.slice A l.length c,.pointer (some ⟨g,0,none⟩)] w fun e w'=>e= .returned (.bool (decide (v∈l)))/\Below w.heap.size w w':=by
 obtain ⟨k,hk⟩:=Ev.rounds (rD l v hl)
 have HC:=Aside0.mk (dP.calls k A c l v _ w hr hc hk)
 clear hr hk
 generalize decide (v∈l)=y at*
 go_enter Try.func58,Try.ntmps58
 go_wp2_with (first|(go_at_call 54;(with_reducible refine HC.out.mono ?_);rintro e w1 ⟨rfl,hb1⟩;have di:=Aside0.mk (dH hb1);clear hb1))
 go_ret
 exact ⟨rfl,di.out⟩
set_option maxHeartbeats 1000000 in
theorem Fp (A:Option Addr) (c:Nat) (l:List (List Int)) (w:World) (hr:Kd.C mN w A l.length l) (hc:l.length<=c) (hl:∀x,x∈l->x.length<=1048576):
 Calls Try.prog 52 #[.slice A l.length c] w fun e w'=>e= .returned (.bool (decide (l.length<=7)&&l.all (iA (-1))))/\Below w.heap.size w w':=by
 have HC:=Aside0.mk (LO (fun l=> !iA (-1) l) A c l w hr hc (fun row hrow A1 c1 W hb hC hc1=>WJ A1 c1 row W hC hc1 (hl row hrow)))
 have HE:Aside0 ((!l.any (fun l=> !iA (-1) l))=l.all (iA (-1))):=⟨by
  rw [List.all_eq_not_any_not]⟩
 clear hr hl
 generalize l.any (fun l=> !iA (-1) l)=y at*
 by_cases h7:l.length<=7
 ·have g1:decide ((l.length:Int)<=7)=true:=decide_eq_true (by omega)
  have HD:Aside0 (decide (l.length<=7)=true):=⟨decide_eq_true h7⟩
  have mW:decide (l.length<=7)=true:=HD.out
  clear h7
  go_enter Try.func52,Try.ntmps52
  go_wp2_with (first|(go_at_call 57;(with_reducible refine HC.out.mono ?_);rintro e w1 ⟨rfl,hb1⟩;have di:=Aside0.mk hb1;clear hb1))
  go_ret
  exact ⟨by rw [HD.out,<-HE.out];first|done|rfl|simp,di.out⟩
 ·have g1:decide ((l.length:Int)<=7)=false:=decide_eq_false (by omega)
  have HD:Aside0 (decide (l.length<=7)=false):=⟨decide_eq_false h7⟩
  have mW:decide (l.length<=7)=false:=HD.out
  clear h7
  go_enter Try.func52,Try.ntmps52
  go_wp2_with (first|(go_at_call 57;(with_reducible refine HC.out.mono ?_);rintro e w1 ⟨rfl,hb1⟩;have di:=Aside0.mk hb1;clear hb1))
  go_ret
  exact ⟨by rw [HD.out];first|done|rfl|simp,Below.refl _ _⟩
structure tj (W:World) (base n:Nat) (vs:Nat->Value) (rows:Nat->List Int):Prop where
 own:∀i,i<n->Kd.R (Kd.int .i64) 3 W base (fun _=>True) (vs i) (rows i)
 apart:∀i j,i<n->j<n->i≠j->∀k,(vs i).ownBlock=some k->(vs j).ownBlock≠some k
theorem Pw {W W1:World} {base:Nat} {v:Value} {xs:List Int} (h:Kd.R (Kd.int .i64) 3 W base (fun _=>True) v xs) (hm:∀k,v.ownBlock=some k->W1.heap[k]? =W.heap[k]?):Kd.R (Kd.int .i64) 3 W1 base (fun _=>True) v xs:=by
 have h':Kd.R (Kd.int .i64) 3 W base (fun k=>v.ownBlock=some k) v xs:=⟨fun k hk=>hk,h.2.qA (fun _ _ hp=>hp)⟩
 exact Kd.dh (Kd.vA h' hm) (fun _ _=>trivial)
theorem Ag {W:World} {base:Nat} {v:Value} {xs:List Int} (h:Kd.R (Kd.int .i64) 3 W base (fun _=>True) v xs) {k:Nat} (hk:v.ownBlock=some k):base<=k/\k<W.heap.size/\∃cells,W.heap[k]? =some (.cells cells 3 (0,0)):=by
 obtain ⟨_,inner,ho,_⟩:=h
 exact ⟨uh ho k hk,Pn ho k hk,qB ho k hk⟩
theorem tj.move {W W1:World} {base n:Nat} {vs:Nat->Value} {rows:Nat->List Int} (h:tj W base n vs rows) (hm:∀k,base<=k->k<W.heap.size->(∃cells,W.heap[k]? =some (.cells cells 3 (0,0)))->W1.heap[k]? =W.heap[k]?):tj W1 base n vs rows:=
 ⟨fun i hi=>Pw (h.own i hi) (fun k hk=>by obtain ⟨h1,h2,h3⟩:=Ag (h.own i hi) hk;exact hm k h1 h2 h3),h.apart⟩
theorem tj.below {W W1:World} {base n:Nat} {vs:Nat->Value} {rows:Nat->List Int} (h:tj W base n vs rows) (hb:Below W.heap.size W W1):tj W1 base n vs rows:=
 h.move (fun k _ hk _=>hb.block k hk)
theorem tj.put {W:World} {base n:Nat} {vs:Nat->Value} {rows:Nat->List Int} (h:tj W base n vs rows) {g:Nat} {cs:Array Value} {t:TypeId} (hg:W.heap[g]? =some (.cells cs t (0,0))) (ht:t≠3) (i:Nat) (v:Value):tj (W.setCell ⟨g,i,none⟩ v) base n vs rows:=
 h.move (fun k _ _ ⟨cells,hk⟩=>by
  have hne:k≠g:=by
   intro e;rw [e,hg] at hk;simp only [Option.some.injEq,Obj.cells.injEq] at hk;exact ht hk.2.1
  exact (bz (W:=W) (o:= .cells cells 3 (0,0)) hk hne).trans hk.symm)
theorem tj.app {W w1:World} {base n:Nat} {vs:Nat->Value} {rows:Nat->List Int} (h:tj W base n vs rows) {i:Nat} (hi:i<n) {v1:Value} {xs:List Int} (ho:Kd.R (Kd.int .i64) 3 w1 base (fun _=>True) v1 xs) (hg:W.grownBy w1 (vs i).ownBlock) (hat:v1.ownBlock=(vs i).ownBlock∨∃b,v1.ownBlock=some b/\W.heap.size<=b):
 tj w1 base n (fun k=>if k=i then v1 else vs k) (fun k=>if k=i then xs else rows k):=by
 have hlt:∀j,j<n->∀k,(vs j).ownBlock=some k->k<W.heap.size:=fun j hj k hk=>(Ag (h.own j hj) hk).2.1
 refine ⟨fun j hj=>?_,fun j l hj hl hne k hk=>?_⟩
 ·by_cases e:j=i
  ·subst e;rw [if_pos rfl,if_pos rfl];exact ho
  ·rw [if_neg e,if_neg e]
   exact Pw (h.own j hj) (fun k hk=>hg.block k (hlt j hj k hk) (fun e2=>h.apart j i hj hi e k hk e2.symm))
 ·by_cases e:j=i
  ·subst e
   rw [if_pos rfl] at hk
   rw [if_neg (fun e=>hne e.symm)]
   rcases hat with hat|⟨b,hb,hsz⟩
   ·rw [hat] at hk;exact h.apart j l hj hl hne k hk
   ·rw [hb] at hk
    intro h2
    have:=hlt l hl k h2
    have:b=k:=Option.some.inj hk
    omega
  ·rw [if_neg e] at hk
   by_cases e2:l=i
   ·subst e2
    rw [if_pos rfl]
    rcases hat with hat|⟨b,hb,hsz⟩
    ·rw [hat];exact h.apart j l hj hl hne k hk
    ·rw [hb]
     intro h2
     have:=hlt j hj k hk
     have:b=k:=Option.some.inj h2
     omega
   ·rw [if_neg e2];exact h.apart j l hj hl hne k hk
def lX (W:World) (g n off:Nat) (vs:Nat->Value):Prop:=∃cs:Array Value,W.heap[g]? =some (.cells cs 23 (0,0))/\cs.size=n/\∀i,i<n->cs[i]? =some (vs (off+i))
theorem lX.move {W W1:World} {g n off:Nat} {vs:Nat->Value} (h:lX W g n off vs) (e:W1.heap[g]? =W.heap[g]?):lX W1 g n off vs:=by
 obtain ⟨cs,h1,h2⟩:=h;exact ⟨cs,e.trans h1,h2⟩
theorem lX.lt {W:World} {g n off:Nat} {vs:Nat->Value} (h:lX W g n off vs):g<W.heap.size:=by
 obtain ⟨cs,h1,_⟩:=h;exact bf h1
theorem lX.below {W W1:World} {g n off:Nat} {vs:Nat->Value} (h:lX W g n off vs) (hb:Below W.heap.size W W1):lX W1 g n off vs:=h.move (hb.block _ h.lt)
theorem lX.grown {W W1:World} {g n off:Nat} {vs:Nat->Value} (h:lX W g n off vs) {v:Value} {base:Nat} {xs:List Int} (hR:Kd.R (Kd.int .i64) 3 W base (fun _=>True) v xs) (hg:W.grownBy W1 v.ownBlock):lX W1 g n off vs:=
 h.move (hg.block g h.lt (fun e=>by
  obtain ⟨cs,h1,_⟩:=h
  obtain ⟨_,_,cells,hk⟩:=Ag hR e.symm
  rw [h1] at hk;simp only [Option.some.injEq,Obj.cells.injEq] at hk
  exact absurd hk.2.1 (by decide)))
theorem lX.at {W:World} {g n off:Nat} {vs:Nat->Value} (h:lX W g n off vs) {i:Nat} (hi:i<n):W.cell? ⟨g,i,none⟩=some (vs (off+i)):=by
 obtain ⟨cs,h1,_,h2⟩:=h;exact bB h1 (h2 i hi)
theorem lX.frozen {W:World} {g n off:Nat} {vs:Nat->Value} (h:lX W g n off vs) (i:Nat):W.frozen? ⟨g,i,none⟩=false:=by
 obtain ⟨cs,h1,_⟩:=h;exact af h1 i
theorem lX.put {W:World} {g n off:Nat} {vs:Nat->Value} (h:lX W g n off vs) {i:Nat} (hi:i<n) (v:Value):lX (W.setCell ⟨g,i,none⟩ v) g n off (fun k=>if k=off+i then v else vs k):=by
 obtain ⟨cs,h1,h2,h3⟩:=h
 refine ⟨_,heap_set h1,by simp [h2],fun j hj=>?_⟩
 by_cases e:j=i
 ·subst e;rw [Array.getElem?_setIfInBounds,if_pos rfl,if_pos (by omega)]
  show some v=some (if off+j=off+j then v else vs (off+j))
  rw [if_pos rfl]
 ·rw [Array.getElem?_setIfInBounds_ne (by omega),h3 j hj]
  show some (vs (off+j))=some (if off+j=off+i then v else vs (off+j))
  rw [if_neg (by omega)]
theorem lX.other {W:World} {g g' n off i:Nat} {vs:Nat->Value} {v:Value} (h:lX W g n off vs) (hne:g≠g'):lX (W.setCell ⟨g',i,none⟩ v) g n off vs:=by
 obtain ⟨cs,h1,h2⟩:=h;exact ⟨cs,bz h1 hne,h2⟩
theorem lX.congr {W:World} {g n off:Nat} {vs vs':Nat->Value} (h:lX W g n off vs) (e:∀i,i<n->vs' (off+i)=vs (off+i)):lX W g n off vs':=by
 obtain ⟨cs,h1,h2,h3⟩:=h;exact ⟨cs,h1,h2,fun i hi=>by rw [e i hi];exact h3 i hi⟩
theorem NJ {W:World} {base N g n off:Nat} {vs:Nat->Value} {rows:Nat->List Int} (hF:tj W base N vs rows) (hC:lX W g n off vs) (hN:off+n<=N) (hn:n<=1048576):Kd.C mN W (some ⟨g,0,none⟩) n ((List.range n).map (fun i=>rows (off+i))):=by
 obtain ⟨cs,h1,h2,h3⟩:=hC
 refine ⟨by simp,by omega,fun _=>⟨_,rfl,fun j p hp=>?_⟩⟩
 have hj:j<n:=by
  have:=(List.getElem?_eq_some_iff.1 hp).1;simpa using this
 have Tx:p=rows (off+j):=by simpa [hj] using hp.symm
 obtain ⟨A,c,he,hl,hc⟩:=Kd.nx (hF.own (off+j) (by omega))
 refine ⟨[vs (off+j)],rfl,⟨A,c,by rw [he,Tx],by rw [Tx];exact hl,by rw [Tx];exact hc⟩,fun i u hu=>?_⟩
 have hi:i=0:=by
  have:=(List.getElem?_eq_some_iff.1 hu).1;simp at this;exact this
 subst hi
 have ZP:u=vs (off+j):=by simpa using hu.symm
 rw [ZP,show (mN).sz=1 from rfl,Nat.mul_one,Nat.add_zero,add_plain]
 exact bB h1 (h3 j hj)
def mG (n:Nat):Array Value:=(List.replicate n (Value.slice none 0 0)).toArray
theorem ZQ (n:Nat) (h:n<=1048576) (w:World):(Instr.makeSlice 22 (.int .i64 (n:Int)) (.int .i64 (n:Int))).run Try.prog w= .ok (.slice (some ⟨w.heap.size,0,none⟩) n n) (w.alloc (.cells (mG n) 23)):=by
 obtain ⟨i,hi,hz,hs,hb⟩:=info_parts (show (Try.prog.info? 23).map (fun i=>(i.zero,i.size,i.bytes))=some (some (.slice none 0 0),1,24) by kernel_rfl)
 have hr:=run_make (P:=Try.prog) w 22 23 i (.slice none 0 0) Try.underlying22 hi hz .i64 .i64 n n (by omega) (by omega) (by rw [hb];omega) (by omega)
 have e:(Value.slice none 0 0).cells= #[.slice none 0 0]:=rfl
 have e2:madeCells #[Value.slice none 0 0] n=mG n:=by
  apply Array.ext
  ·rw [size_madeCells];simp [mG]
  ·intro i h1 h2
   simp [madeCells,mG]
   rw [Nat.mod_one];rfl
 rw [e] at hr
 simpa [hs,e2] using hr
theorem Rf {W:World} {g n off:Nat} (h:W.heap[g]? =some (.cells (mG n) 23 (0,0))):lX W g n off (fun _=> .slice none 0 0):=
 ⟨_,h,by simp [mG],fun i hi=>by unfold mG;rw [List.getElem?_toArray,List.getElem?_replicate,if_pos hi]⟩
theorem a2A (W:World) (base n:Nat):tj W base n (fun _=> .slice none 0 0) (fun _=>[]):=
 ⟨fun i hi=>Kd.DL _ _ _ _ _,fun i j _ _ _ k hk=>by simp [Value.ownBlock] at hk⟩
end Go.Proofs.Ytkckdphjhlbdcaa.PT
namespace Go.Proofs.Ytkckdphjhlbdcaa.PT
open Go.RowKit Go.Proofs.Ytkckdphjhlbdcaa.P Go.Proofs.YtkckdphjhlbdcaaW.PrintWords Go.Proofs.YtkckdphjhlbdcaaW.PrintLast Go.Proofs.Ytkckdphjhlbdcaa.EvKit Go.Proofs.Ytkckdphjhlbdcaa.Num Go.Proofs.Ytkckdphjhlbdcaa.Lp
set_option linter.all false
theorem b3m {B m N K r b c:Nat} {T:bA} {cs:Array Value} (HR:ic cs m N K T) (hr:r<m+K) (hb:b<m+K) (hc:c<=N) (w':World) (h:w'.heap[B]? =some (.cells cs 79 (0,0))):w'.cell? ⟨B,529,none⟩=some (.int .i64 (N:Int))/\w'.cell? ⟨B,r*32+N*2,none⟩=some (.int .i64 (T.cell r N).num)/\w'.cell? ⟨B,r*32+N*2+1,none⟩=some (.int .i64 ((T.cell r N).den:Int))/\w'.cell? ⟨B,r*32+c*2,none⟩=some (.int .i64 (T.cell r c).num)/\w'.cell? ⟨B,r*32+c*2+1,none⟩=some (.int .i64 ((T.cell r c).den:Int))/\w'.cell? ⟨B,b*32+N*2,none⟩=some (.int .i64 (T.cell b N).num)/\w'.cell? ⟨B,b*32+N*2+1,none⟩=some (.int .i64 ((T.cell b N).den:Int))/\w'.cell? ⟨B,b*32+c*2,none⟩=some (.int .i64 (T.cell b c).num)/\w'.cell? ⟨B,b*32+c*2+1,none⟩=some (.int .i64 ((T.cell b c).den:Int)):=
 ⟨bB h HR.od,bB h (HR.num r N hr (Nat.le_refl _)),bB h (HR.den r N hr (Nat.le_refl _)),bB h (HR.num r c hr hc),bB h (HR.den r c hr hc),bB h (HR.num b N hb (Nat.le_refl _)),bB h (HR.den b N hb (Nat.le_refl _)),bB h (HR.num b c hb hc),bB h (HR.den b c hb hc)⟩
theorem LR {q:Rat}:0<jX q↔0<q:=by
 unfold jX
 by_cases h1:q<0
 ·rw [if_pos h1];constructor
  ·intro h;omega
  ·intro h;grind
 ·rw [if_neg h1]
  by_cases h2:0<q
  ·rw [if_pos h2];exact ⟨fun _=>h2,fun _=>by omega⟩
  ·rw [if_neg h2];exact ⟨fun h=>by omega,fun h=>absurd h h2⟩
theorem mB.diff {D C m N K:Nat} {T:bA} (h:mB D C m N K T) (hp:∀r,r<m->0<=T.cell r N) {r b c:Nat} (hr:r<m) (hb:b<m) (hc:c<=N) (hrc:0<T.cell r c) (hbc:0<T.cell b c):Ok (T.cell r N/T.cell r c - T.cell b N/T.cell b c):=by
 obtain ⟨x,y,hy,e,hx,hyb⟩:=h.quot hr (Nat.le_refl N) hc (fun h0=>by rw [h0] at hrc;grind)
 obtain ⟨x',y',hy',e',hx',b7m⟩:=h.quot hb (Nat.le_refl N) hc (fun h0=>by rw [h0] at hbc;grind)
 have h1:0<=T.cell r N/T.cell r c:=xe (hp r hr) hrc
 have h2:0<=T.cell b N/T.cell b c:=xe (hp b hb) hbc
 generalize T.cell r N/T.cell r c=p at*
 generalize T.cell b N/T.cell b c=q at*
 have QE:p.num.natAbs<=D/\p.den<=D:=Qu.num ⟨x,y,hy,e,hx,hyb⟩
 have hqn:q.num.natAbs<=D/\q.den<=D:=Qu.num ⟨x',y',hy',e',hx',b7m⟩
 have hp0:0<=p.num:=Rat.num_nonneg.2 h1
 have Fe:0<=q.num:=Rat.num_nonneg.2 h2
 have b7n:=FV p
 have b3n:=FV q
 refine Qu.ok (a:=D*D) (b:=D*D) ⟨p.num*q.den - q.num*p.den,p.den*q.den,by have:=Int.mul_pos b7n b3n;omega,sub_mul p q,?_,?_⟩ h.dd h.dd
 ·have k1:0<=p.num*(q.den:Int):=Int.mul_nonneg hp0 (by omega)
  have k2:0<=q.num*(p.den:Int):=Int.mul_nonneg Fe (by omega)
  have k3:(p.num*(q.den:Int)).natAbs<=D*D:=mP QE.1 (by rw [kI];exact hqn.2)
  have k4:(q.num*(p.den:Int)).natAbs<=D*D:=mP hqn.1 (by rw [kI];exact QE.2)
  omega
 ·rw [Int.natAbs_mul,kI,kI];exact Nat.mul_le_mul QE.2 hqn.2
set_option maxHeartbeats 2000000 in
set_option maxRecDepth 100000 in
theorem WK (D C L m N K:Nat) (T0:bA) (Inv:bA->Prop) (cs:Array Value) (w:World) (hR:ic cs m N K T0) (Jm:Road D C L m N K (fun T T'=>Nonempty (mZ m N K T T')) Inv T0) (hpos:∀T,Inv T->∀r,r<m->0<=T.cell r N) (a9U:∀T,Inv T->∀c,c<N->fk K (T.cost m c)->∃r,r<m/\0<T.cell r c):
 Calls Try.prog 62 #[.agg cs] w fun e w'=>∃cs' T,e= .returned (.agg cs')/\ic cs' m N K T/\Inv T/\(∀c,c<N->¬fk K (T.cost m c))/\Below w.heap.size w w':=by
 have hu:=Try.underlying79
 have HR:=Aside0.mk hR
 have tM:=Aside0.mk Jm
 have LS:=Aside0.mk hpos
 have HUb:=Aside0.mk a9U
 clear hR Jm hpos a9U
 go_enter Try.func62,Try.ntmps62
 go_wp2
 have qj:Aside0 (((w.alloc (.cells cs 79)).alloc (.cells Try.zeroCells79 79)).heap[w.heap.size]? =some (.cells cs 79 (0,0))):=⟨ai (dn w _) _⟩
 have Rg:Aside0 (((w.alloc (.cells cs 79)).alloc (.cells Try.zeroCells79 79)).heap[w.heap.size+1]? =some (.cells Try.zeroCells79 79 (0,0))):=⟨by have:=dn (w.alloc (.cells cs 79)) (.cells Try.zeroCells79 79);rw [qi] at this;exact this⟩
 have eN:Aside0 (Below w.heap.size w ((w.alloc (.cells cs 79)).alloc (.cells Try.zeroCells79 79))):=⟨aT (aT (Below.refl _ _) _) _⟩
 go_loopg [3] L (fun G s3 wr=>∃(n:Nat) (T:bA) (cs1:Array Value),L - n<=G/\Aside0 (Reach (fun T T'=>Nonempty (mZ m N K T T')) T0 n T)/\Aside0 (Inv T)/\Aside0 (ic cs1 m N K T)/\Aside0 (wr.heap[w.heap.size]? =some (.cells cs1 79 (0,0)))/\Aside0 (wr.heap[w.heap.size+1]? =some (.cells Try.zeroCells79 79 (0,0)))/\Aside0 (Below w.heap.size w wr))
 case atStart=>exact ⟨0,T0,cs,by omega,⟨Reach.zero _ _⟩,⟨tM.out.start⟩,HR,qj,Rg,eN⟩
 case round=>
  clear qj Rg eN HR
  obtain ⟨n,T,cs1,hG,ZR,zh,HR,HA,fB,cO⟩:=hrel
  have HnL:=Aside0.mk (tM.out.few ZR.out)
  have HF:=Aside0.mk (tM.out.fine T zh.out)
  go_wp2
  go_loopw [3] (fun cv wr=>∃c:Nat,cv= .int .i64 (c:Int)/\c<=N/\Aside0 (∀j,j<c->¬fk K (T.cost m j))/\Aside0 (wr.heap[w.heap.size]? =some (.cells cs1 79 (0,0)))/\Aside0 (wr.heap[w.heap.size+1]? =some (.cells Try.zeroCells79 79 (0,0)))/\Aside0 (Below w.heap.size w wr)) (fun cv _=>N -(intOf cv).toNat)
  case atStart=>exact ⟨0,rfl,Nat.zero_le _,⟨fun j hj=>by omega⟩,HA,fB,cO⟩
  case round=>
   clear HA fB cO
   obtain ⟨c,rfl,hcN,HQ,HA,fB,cO⟩:=hrel
   have h0:=bB HA.out HR.out.od
   by_cases hc:c<N
   ·have g1:decide ((c:Int)<(N:Int))=true:=decide_eq_true (by omega)
    have mW:decide (c<N)=true:=decide_eq_true hc
    have g2:((c:Int)==(N:Int))=false:=beq_eq_false_iff_ne.mpr (by omega)
    have BL:(c==N)=false:=beq_eq_false_iff_ne.mpr (by omega)
    have HC:=Aside0.mk (Ou w.heap.size m N K c T wr ⟨cs1,HA.out,HR.out⟩ (by omega))
    have oW:Aside0 (wrap64 ((c:Int)+1)=((c+1:Nat):Int)):=⟨dQ (by have:=HR.out.hN;omega)⟩
    have wX:=Aside0.mk hc
    by_cases hneg:fk K (T.cost m c)
    ·have hz:ng T m c 0 K<0:=Nd.2 hneg
     obtain ⟨z,hz'⟩:∃z,z=ng T m c 0 K:=⟨_,rfl⟩
     rw [<-hz'] at hz HC
     have g3:decide (z>=0)=false:=decide_eq_false (by omega)
     have Nh:decide (0<=z)=false:=decide_eq_false (by omega)
     have a9X:=Aside0.mk hneg
     clear hz hz' hneg hc hcN
     go_wp2_with (first|(go_at_call 79;(with_reducible refine HC.out.mono ?_);rintro e w1 ⟨rfl,hb1⟩;have gw:=Aside0.mk (aj HA.out hb1);have gM:=Aside0.mk (aj fB.out hb1);have fS:=Aside0.mk (ah cO.out hb1);have h0':=bB gw.out HR.out.od;have h0r:=bB gw.out HR.out.rows;clear hb1 HC))
     clear HA fB cO h0 h0' g3 Nh
     go_loopw [4,25] (fun bv rv wr=>∃(x:Int) (r:Nat),bv= .int .i64 x/\rv= .int .i64 (r:Int)/\r<=m/\Aside0 (jV T N c r x)/\Aside0 (wr.heap[w.heap.size]? =some (.cells cs1 79 (0,0)))/\Aside0 (wr.heap[w.heap.size+1]? =some (.cells Try.zeroCells79 79 (0,0)))/\Aside0 (Below w.heap.size w wr)) (fun _ rv _=>m -(intOf rv).toNat)
     case atStart=>exact ⟨-1,0,rfl,rfl,Nat.zero_le _,⟨jV.zero _ _ _⟩,gw,gM,fS⟩
     case round=>
      clear gw gM fS h0r
      obtain ⟨x,r,rfl,rfl,Nk,vr,HA,fB,cO⟩:=hrel
      by_cases hr:r<m
      ·have oA:=Aside0.mk hr
       have CI:r<m+K:=by omega
       have wJ:c<=N:=Nat.le_of_lt wX.out
       have h1:=bB HA.out (HR.out.num r c CI wJ)
       have h2:=bB HA.out (HR.out.den r c CI wJ)
       have b0:(0:Int)<=(r:Int):=by omega
       have b1:(r:Int)<16:=by have:=HR.out.hm;omega
       have b2:(0:Int)<=(c:Int):=by omega
       have b3:(c:Int)<16:=by have:=HR.out.hN;have:=wX.out;omega
       have lS:Aside0 (wrap64 ((r:Int)+1)=((r+1:Nat):Int)):=⟨dQ (by have:=HR.out.hm;omega)⟩
       have hm:=zN
       have jY:=Aside0.mk (fun W=>xM (T.cell r c) W)
       have g4:decide ((r:Int)<(m:Int))=true:=decide_eq_true (by omega)
       have Fo:decide (r<m)=true:=decide_eq_true hr
       by_cases hp:0<T.cell r c
       ·have hz:0<jX (T.cell r c):=LR.2 hp
        have HP:=Aside0.mk hp
        obtain ⟨z,hz'⟩:∃z,z=jX (T.cell r c):=⟨_,rfl⟩
        rw [<-hz'] at hz jY
        have g5:decide (z<=0)=false:=decide_eq_false (by omega)
        clear hz hz' hp hr
        by_cases hx:x= -1
        ·have g6:decide (x>=0)=false:=decide_eq_false (by omega)
         have g6n:decide (0<=x)=false:=decide_eq_false (by omega)
         have qP:Aside0 (jV T N c (r+1) (r:Int)):=⟨jV.first (hx ▸ vr.out) HP.out⟩
         clear hx
         go_wp2_with (first|(go_at_call 114;(with_reducible refine (jY.out _).mono ?_);rintro e w1 ⟨rfl,hb1⟩;have gw:=Aside0.mk (aj HA.out hb1);have gM:=Aside0.mk (aj fB.out hb1);have fS:=Aside0.mk (ah cO.out hb1);clear hb1))
         go_roundw
         case rel=>exact ⟨r,r+1,rfl,by first|(rw [lS.out];done)|rfl|(simp;done),oA.out,qP,gw,gM,fS⟩
         case measure=>(try rw [lS.out]);have:=oA.out;simp [intOf];omega
        ·obtain ⟨b,rfl,hbr,uf⟩:=vr.out.index hx
         clear hx
         have hbK:b<m+K:=by omega
         have HBP:=Aside0.mk uf
         have HbR:=Aside0.mk hbr
         have g6:decide ((b:Int)>=0)=true:=decide_eq_true (by omega)
         have g6n:decide (0<=(b:Int))=true:=decide_eq_true (by omega)
         have b4:(0:Int)<=(b:Int):=by omega
         have b5:(b:Int)<16:=by have:=HR.out.hm;omega
         have b6:(0:Int)<=(N:Int):=by omega
         have b7:(N:Int)<16:=by have:=HR.out.hN;omega
         have Dd:T.cell r c≠0:=fun h0=>by have:=HP.out;rw [h0] at this;grind
         have De:T.cell b c≠0:=fun h0=>by have:=HBP.out;rw [h0] at this;grind
         have hdd:=HF.out.dd
         have hd1:=HF.out.d1
         have gb:=Aside0.mk (fun W=>CD W (Qu.sz (HF.out.row oA.out (Nat.le_refl N))) (Qu.sz (HF.out.row oA.out wJ)) (by omega) (by omega) Dd (Qu.ok (HF.out.quot oA.out (Nat.le_refl N) wJ Dd) (by omega) (by omega)))
         have jZ:=Aside0.mk (fun W=>CD W (Qu.sz (HF.out.row (show b<m by omega) (Nat.le_refl N))) (Qu.sz (HF.out.row (show b<m by omega) wJ)) (by omega) (by omega) De (Qu.ok (HF.out.quot (show b<m by omega) (Nat.le_refl N) wJ De) (by omega) (by omega)))
         have BN:=Aside0.mk (fun W=>Lg W (Qu.sz (HF.out.quot oA.out (Nat.le_refl N) wJ Dd)) (Qu.sz (HF.out.quot (show b<m by omega) (Nat.le_refl N) wJ De)) (by omega) (by omega) (HF.out.diff (LS.out T zh.out) oA.out (by omega) wJ HP.out HBP.out))
         have IL:=Aside0.mk (fun W=>xM (T.cell r N/T.cell r c - T.cell b N/T.cell b c) W)
         have HS:=Aside0.mk (b3m (B:=w.heap.size) HR.out CI hbK wJ)
         have hm2:=Qm
         have hm3:=Lh
         clear Dd De hdd hd1 uf
         go_wp2_with (first|(go_at_call 114;(with_reducible refine (jY.out _).mono ?_);rintro e w1 ⟨rfl,hb1⟩;have gw:=Aside0.mk (aj HA.out hb1);have gM:=Aside0.mk (aj fB.out hb1);have fS:=Aside0.mk (ah cO.out hb1);clear hb1))
         clear HA fB cO jY h1 h2
         go_cut [6] from 39 to 72 (fun s_ wx=>s_= .int .i64 (jX (T.cell r N/T.cell r c - T.cell b N/T.cell b c))/\Aside0 (Below w1.heap.size w1 wx))
         case first=>
          have rV:=Aside0.mk (Below.refl w1.heap.size w1)
          go_region_held3 (fun w'=>w'.cell? ⟨w.heap.size,529,none⟩=some (.int .i64 (N:Int))/\w'.cell? ⟨w.heap.size,r*32+N*2,none⟩=some (.int .i64 (T.cell r N).num)/\w'.cell? ⟨w.heap.size,r*32+N*2+1,none⟩=some (.int .i64 ((T.cell r N).den:Int))/\w'.cell? ⟨w.heap.size,r*32+c*2,none⟩=some (.int .i64 (T.cell r c).num)/\w'.cell? ⟨w.heap.size,r*32+c*2+1,none⟩=some (.int .i64 ((T.cell r c).den:Int))/\w'.cell? ⟨w.heap.size,b*32+N*2,none⟩=some (.int .i64 (T.cell b N).num)/\w'.cell? ⟨w.heap.size,b*32+N*2+1,none⟩=some (.int .i64 ((T.cell b N).den:Int))/\w'.cell? ⟨w.heap.size,b*32+c*2,none⟩=some (.int .i64 (T.cell b c).num)/\w'.cell? ⟨w.heap.size,b*32+c*2+1,none⟩=some (.int .i64 ((T.cell b c).den:Int))) (first|(with_reducible exact EU.out)|exact HS.out _ (ak gw.out)) (first
           |(go_at_call 113;(with_reducible refine (gb.out _).mono ?_);rintro e wz ⟨rfl,hb⟩;have mX:=ah (by first|exact rV.out|exact aI rV.out) hb;clear rV;have rV:=Aside0.mk mX;have EU:=Aside0.mk (HS.out _ (aj gw.out rV.out));clear hb mX)
           |(go_at_call 113;(with_reducible refine (jZ.out _).mono ?_);rintro e wz ⟨rfl,hb⟩;have mX:=ah (by first|exact rV.out|exact aI rV.out) hb;clear rV;have rV:=Aside0.mk mX;have EU:=Aside0.mk (HS.out _ (aj gw.out rV.out));clear hb mX)
           |(go_at_call 112;(with_reducible refine (BN.out _).mono ?_);rintro e wz ⟨rfl,hb⟩;have mX:=ah (by first|exact rV.out|exact aI rV.out) hb;clear rV;have rV:=Aside0.mk mX;have EU:=Aside0.mk (HS.out _ (aj gw.out rV.out));clear hb mX)
           |(go_at_call 114;(with_reducible refine (IL.out _).mono ?_);rintro e wz ⟨rfl,hb⟩;have mX:=ah (by first|exact rV.out|exact aI rV.out) hb;clear rV;have rV:=Aside0.mk mX;have EU:=Aside0.mk (HS.out _ (aj gw.out rV.out));clear hb mX))
          all_goals
           go_wp2_with fail
           go_meet
           case rel=>exact ⟨rfl,rV⟩
         case rest=>
         obtain ⟨rfl,fQ⟩:=hcut
         have ji:=Aside0.mk (aj gw.out fQ.out)
         have rN:=Aside0.mk (aj gM.out fQ.out)
         have Df:=Aside0.mk (ah fS.out fQ.out)
         clear gw gM fS fQ gb jZ BN IL HS
         generalize wc=w2 at*
         have h3:=bB ji.out (HR.out.fG r oA.out)
         have h4:=bB ji.out (HR.out.fG b (by omega))
         generalize hx3:(T.basis r:Int)=xr at h3
         generalize EW:(T.basis b:Int)=xb at h4
         obtain ⟨zd,hzd⟩:∃zd,zd=jX (T.cell r N/T.cell r c - T.cell b N/T.cell b c):=⟨_,rfl⟩
         rw [<-hzd]
         by_cases hgt:T.cell b N/T.cell b c<T.cell r N/T.cell r c
         ·have hz:0<zd:=by rw [hzd];exact LR.2 (by grind)
          have e1:decide (zd>0)=true:=decide_eq_true hz
          have NK:decide (0<zd)=true:=decide_eq_true hz
          have qP:=Aside0.mk (jV.keep vr.out (.inl hgt))
          clear hz hzd hgt hx3 EW
          go_wp2
          repeat (go_quiet (fail);try go_wp2)
          go_roundw
          case rel=>exact ⟨(b:Int),r+1,rfl,by first|(rw [lS.out];done)|rfl|(simp;done),oA.out,qP,⟨by first|exact ji.out|exact aq ji.out _|exact ak ji.out⟩,⟨by first|exact rN.out|exact aq rN.out _|exact ak rN.out⟩,⟨by repeat (first|exact Df.out|apply aI|apply bu)⟩⟩
          case measure=>(try rw [lS.out]);have:=oA.out;simp [intOf];omega
         ·by_cases heq:T.cell b N/T.cell b c=T.cell r N/T.cell r c
          ·have hz:zd=0:=by rw [hzd];exact sK.2 (by grind)
           have e1:decide (zd>0)=false:=decide_eq_false (by omega)
           have NK:decide (0<zd)=false:=decide_eq_false (by omega)
           have e2:(zd==0)=true:=by rw [hz];rfl
           clear hz hzd
           by_cases Da:T.basis b<T.basis r
           ·have e3:decide (xr>xb)=true:=decide_eq_true (by omega)
            have e3n:decide (xb<xr)=true:=decide_eq_true (by omega)
            have qP:=Aside0.mk (jV.keep vr.out (.inr ⟨heq,Nat.le_of_lt Da⟩))
            clear heq Da hgt hx3 EW
            go_wp2
            repeat (go_quiet (fail);try go_wp2)
            go_roundw
            case rel=>exact ⟨(b:Int),r+1,rfl,by first|(rw [lS.out];done)|rfl|(simp;done),oA.out,qP,⟨by first|exact ji.out|exact aq ji.out _|exact ak ji.out⟩,⟨by first|exact rN.out|exact aq rN.out _|exact ak rN.out⟩,⟨by repeat (first|exact Df.out|apply aI|apply bu)⟩⟩
            case measure=>(try rw [lS.out]);have:=oA.out;simp [intOf];omega
           ·have e3:decide (xr>xb)=false:=decide_eq_false (by omega)
            have e3n:decide (xb<xr)=false:=decide_eq_false (by omega)
            have qP:=Aside0.mk (jV.take vr.out HP.out (.inr ⟨heq.symm,by omega⟩))
            clear heq Da hgt hx3 EW
            go_wp2
            repeat (go_quiet (fail);try go_wp2)
            go_roundw
            case rel=>exact ⟨(r:Int),r+1,rfl,by first|(rw [lS.out];done)|rfl|(simp;done),oA.out,qP,⟨by first|exact ji.out|exact aq ji.out _|exact ak ji.out⟩,⟨by first|exact rN.out|exact aq rN.out _|exact ak rN.out⟩,⟨by repeat (first|exact Df.out|apply aI|apply bu)⟩⟩
            case measure=>(try rw [lS.out]);have:=oA.out;simp [intOf];omega
          ·have hlt':T.cell r N/T.cell r c<T.cell b N/T.cell b c:=by grind
           have hz:zd<0:=by rw [hzd];unfold jX;rw [if_pos (by grind)];omega
           have e1:decide (zd>0)=false:=decide_eq_false (by omega)
           have NK:decide (0<zd)=false:=decide_eq_false (by omega)
           have e2:(zd==0)=false:=beq_eq_false_iff_ne.mpr (by omega)
           have qP:=Aside0.mk (jV.take vr.out HP.out (.inl hlt'))
           clear hz hzd hgt heq hlt' hx3 EW
           go_wp2
           repeat (go_quiet (fail);try go_wp2)
           go_roundw
           case rel=>exact ⟨(r:Int),r+1,rfl,by first|(rw [lS.out];done)|rfl|(simp;done),oA.out,qP,⟨by first|exact ji.out|exact aq ji.out _|exact ak ji.out⟩,⟨by first|exact rN.out|exact aq rN.out _|exact ak rN.out⟩,⟨by repeat (first|exact Df.out|apply aI|apply bu)⟩⟩
           case measure=>(try rw [lS.out]);have:=oA.out;simp [intOf];omega
       ·have hz:¬0<jX (T.cell r c):=fun h=>hp (LR.1 h)
        obtain ⟨z,hz'⟩:∃z,z=jX (T.cell r c):=⟨_,rfl⟩
        rw [<-hz'] at hz jY
        have g5:decide (z<=0)=true:=decide_eq_true (by omega)
        have qP:=Aside0.mk (vr.out.skip hp)
        clear hz hz' hp hr
        go_wp2_with (first|(go_at_call 114;(with_reducible refine (jY.out _).mono ?_);rintro e w1 ⟨rfl,hb1⟩;have gw:=Aside0.mk (aj HA.out hb1);have gM:=Aside0.mk (aj fB.out hb1);have fS:=Aside0.mk (ah cO.out hb1);clear hb1))
        go_roundw
        case rel=>exact ⟨x,r+1,rfl,by first|(rw [lS.out];done)|rfl|(simp;done),oA.out,qP,gw,gM,fS⟩
        case measure=>(try rw [lS.out]);have:=oA.out;simp [intOf];omega
      ·have g4:decide ((r:Int)<(m:Int))=false:=decide_eq_false (by omega)
       have Fo:decide (r<m)=false:=decide_eq_false hr
       have b7o:r=m:=by omega
       obtain ⟨i,hi,hip⟩:=HUb.out T zh.out c wX.out a9X.out
       have hx:x≠ -1:=by
        intro hx
        rcases vr.out with ⟨_,h⟩|⟨b,e,_⟩
        ·exact h i (by omega) hip
        ·omega
       obtain ⟨b,rfl,hbr,uf⟩:=vr.out.index hx
       have g6:decide ((b:Int)<0)=false:=decide_eq_false (by omega)
       have hbm:b<m:=by omega
       have hne:T.cell b c≠0:=fun h0=>by rw [h0] at uf;grind
       have hst:Nonempty (mZ m N K T (T.pivot b c)):=⟨⟨b,c,hbm,wX.out,a9X.out,HQ.out,uf,fun i hi qJ=>by
        rcases vr.out with ⟨e,_⟩|⟨b',e,_,_,h⟩
        ·omega
        ·have e2:b'=b:=by omega
         subst e2
         exact h i (by omega) qJ,rfl⟩⟩
       have NL:=Aside0.mk (tM.out.step T _ zh.out hst)
       have a2B:=Aside0.mk (ZR.out.next hst)
       have HP:=Aside0.mk (fun W=>IK D C m N K b c T cs1 W HR.out hbm wX.out hne HF.out (tM.out.fine _ NL.out))
       have HI:Aside0 ((Try.prog.info? 79).map (·.size)=some cs1.size):=⟨by rw [HR.out.size];kernel_rfl⟩
       clear hx uf hst hne hip hi b7o hbr
       go_wp2_with (first|((with_reducible refine bn (N:=95) rfl ?_);refine wpList_load_row rfl 79 (.tmp 1) rfl w.heap.size rfl 79 cs1 (0,0) _ HA.out hu (by rfl) HI.out ?_)|(go_at_call 78;(with_reducible refine (HP.out _).mono ?_);rintro e w1 ⟨iy,rfl,Rh,hb1⟩;have Jn:=Aside0.mk Rh;have gw:=Aside0.mk (aj HA.out hb1);have gM:=Aside0.mk (aj fB.out hb1);have fS:=Aside0.mk (ah cO.out hb1);have a2C:Aside0 ((Try.prog.info? 79).map (·.size)=some iy.size):=⟨by rw [Jn.out.size];kernel_rfl⟩;have HZs:Aside0 (cs1.size=iy.size):=⟨by rw [HR.out.size,Jn.out.size]⟩;clear hb1 Rh)|((with_reducible refine kg (t:=79) (p:=1) rfl ?_);refine wpList_store_row rfl 79 (.tmp 1) (.tmp 98) rfl w.heap.size iy rfl rfl 79 cs1 gw.out a2C.out HZs.out Jn.out.one ?_))
       go_roundg (L -(n+1))
       case measure=>have:=HnL.out;omega
       case rel=>exact ⟨n+1,T.pivot b c,iy,Nat.le_refl _,a2B,NL,Jn,⟨sL gw.out⟩,⟨uy gM.out (by omega)⟩,⟨qG fS.out (Nat.le_refl _)⟩⟩
    ·have hz:¬ng T m c 0 K<0:=fun h=>hneg (Nd.1 h)
     obtain ⟨z,hz'⟩:∃z,z=ng T m c 0 K:=⟨_,rfl⟩
     rw [<-hz'] at hz HC
     have g3:decide (z>=0)=true:=decide_eq_true (by omega)
     have Nh:decide (0<=z)=true:=decide_eq_true (by omega)
     have HQ':Aside0 (∀j,j<c+1->¬fk K (T.cost m j)):=⟨fun j hj=>by
      by_cases e:j=c
      ·rw [e];exact hneg
      ·exact HQ.out j (by omega)⟩
     clear hz hz' hneg hc
     go_wp2_with (first|(go_at_call 79;(with_reducible refine HC.out.mono ?_);rintro e w1 ⟨rfl,hb1⟩;have gw:=Aside0.mk (aj HA.out hb1);have gM:=Aside0.mk (aj fB.out hb1);have fS:=Aside0.mk (ah cO.out hb1);clear hb1 HC))
     go_roundw
     case rel=>exact ⟨c+1,by first|(rw [oW.out];done)|rfl|(simp;done),wX.out,HQ',gw,gM,fS⟩
     case measure=>(try rw [oW.out]);have:=wX.out;simp [intOf];omega
   ·have g1:decide ((c:Int)<(N:Int))=false:=decide_eq_false (by omega)
    have mW:decide (c<N)=false:=decide_eq_false hc
    have g2:((c:Int)==(N:Int))=true:=by rw [show c=N by omega];simp
    have BL:(c==N)=true:=by rw [show c=N by omega];simp
    have ER:Aside0 (∀c,c<N->¬fk K (T.cost m c)):=⟨fun j hj=>HQ.out j (by omega)⟩
    clear HQ
    have HQ:=ER
    clear hc hcN ER
    have HI:Aside0 ((Try.prog.info? 79).map (·.size)=some cs1.size):=⟨by rw [HR.out.size];kernel_rfl⟩
    have HZ:Aside0 ((Try.zeroCells79).size=cs1.size):=⟨by rw [HR.out.size];kernel_rfl⟩
    go_wp2_with (first|((with_reducible refine bn (N:=22) rfl ?_);refine wpList_load_row rfl 79 (.tmp 1) rfl w.heap.size rfl 79 cs1 (0,0) _ HA.out hu (by rfl) HI.out ?_)|((with_reducible refine kg (t:=79) (p:=2) rfl ?_);refine wpList_store_row rfl 79 (.tmp 2) (.tmp 22) rfl (w.heap.size+1) cs1 rfl rfl 79 Try.zeroCells79 fB.out HI.out HZ.out HR.out.one ?_))
    refine bodyPost_ret (results_cell_row rfl _ _ (w.heap.size+1) 79 cs1 (0,0) _ rfl (sL fB.out) hu (by rfl) HI.out) rfl ?_
    exact ⟨cs1,T,rfl,HR.out,zh.out,HQ.out,qG cO.out (by omega)⟩
end Go.Proofs.Ytkckdphjhlbdcaa.PT
