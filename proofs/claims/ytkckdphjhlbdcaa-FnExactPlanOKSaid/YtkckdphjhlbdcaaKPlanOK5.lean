/-
  Part 5 of the proof of this: The law FnExactPlanOK answers true at every argument.
-/
import Derived.Test.YtkckdphjhlbdcaaKPlanOK2
import Derived.Test.YtkckdphjhlbdcaaKPlanOK4
namespace Go.Proofs.Ytkckdphjhlbdcaa.PT
open Go.RowKit Go.Proofs.Ytkckdphjhlbdcaa.P Go.Proofs.YtkckdphjhlbdcaaW.PrintWords Go.Proofs.YtkckdphjhlbdcaaW.PrintLast Go.Proofs.Ytkckdphjhlbdcaa.EvKit Go.Proofs.Ytkckdphjhlbdcaa.Num Go.Proofs.Ytkckdphjhlbdcaa.Lp
set_option linter.all false
structure wT (cs:Array Value) (n:Nat) (q:Nat->Int×Int):Prop where
 size:cs.size=n*2
 num:∀j,j<n->cs[j*2]? =some (.int .i64 (q j).1)
 den:∀j,j<n->cs[j*2+1]? =some (.int .i64 (q j).2)
theorem wT.put {cs:Array Value} {n:Nat} {q:Nat->Int×Int} (h:wT cs n q) {i:Nat} (hi:i<n) (p:Int×Int):
 wT ((cs.setIfInBounds (i*2) (.int .i64 p.1)).setIfInBounds (i*2+1) (.int .i64 p.2)) n (fun j=>if j=i then p else q j):=by
 have hs:=h.size
 refine ⟨by simp [hs],fun j hj=>?_,fun j hj=>?_⟩
 ·by_cases e:j=i
  ·subst e
   rw [Array.getElem?_setIfInBounds_ne (by omega),Array.getElem?_setIfInBounds,if_pos rfl,if_pos (by omega),if_pos rfl]
  ·rw [Array.getElem?_setIfInBounds_ne (by omega),Array.getElem?_setIfInBounds_ne (by omega),h.num j hj,if_neg e]
 ·by_cases e:j=i
  ·subst e
   rw [Array.getElem?_setIfInBounds,if_pos rfl,if_pos (by simp;omega),if_pos rfl]
  ·rw [Array.getElem?_setIfInBounds_ne (by omega),Array.getElem?_setIfInBounds_ne (by omega),h.den j hj,if_neg e]
theorem wT.congr {cs:Array Value} {n:Nat} {q q':Nat->Int×Int} (h:wT cs n q) (e:∀j,j<n->q' j=q j):wT cs n q':=
 ⟨h.size,fun j hj=>by rw [e j hj];exact h.num j hj,fun j hj=>by rw [e j hj];exact h.den j hj⟩
def nO (n:Nat):Array Value:=(List.replicate (n*2) (Value.int .i64 0)).toArray
theorem Wq (n:Nat):wT (nO n) n (fun _=>(0,0)):=by
 refine ⟨by simp [nO],fun j hj=>?_,fun j hj=>?_⟩
 ·show (List.replicate (n*2) (Value.int .i64 0)).toArray[j*2]? =_
  rw [List.getElem?_toArray,List.getElem?_replicate,if_pos (by omega)]
 ·show (List.replicate (n*2) (Value.int .i64 0)).toArray[j*2+1]? =_
  rw [List.getElem?_toArray,List.getElem?_replicate,if_pos (by omega)]
theorem a8Z (n:Nat) (h:n<=1048576) (w:World):(Instr.makeSlice 33 (.int .i64 (n:Int)) (.int .i64 (n:Int))).run Try.prog w= .ok (.slice (some ⟨w.heap.size,0,none⟩) n n) (w.alloc (.cells (nO n) 34)):=by
 obtain ⟨i,hi,hz,hs,hb⟩:=info_parts (show (Try.prog.info? 34).map (fun i=>(i.zero,i.size,i.bytes))=some (some (.agg #[.int .i64 0,.int .i64 0]),2,16) by kernel_rfl)
 have hr:=run_make (P:=Try.prog) w 33 34 i (.agg #[.int .i64 0,.int .i64 0]) Try.underlying33 hi hz .i64 .i64 n n (by omega) (by omega) (by rw [hb];omega) (by omega)
 have e:(Value.agg #[.int .i64 0,.int .i64 0]).cells= #[.int .i64 0,.int .i64 0]:=rfl
 have e2:madeCells #[Value.int .i64 0,Value.int .i64 0] (n*2)=nO n:=by
  apply Array.ext
  ·rw [size_madeCells];simp [nO]
  ·intro i h1 h2
   simp only [madeCells,nO,Array.getElem_ofFn,List.getElem_toArray,List.getElem_replicate]
   have:i%2=0∨i%2=1:=by omega
   rcases this with h|h<;>simp [h]
 rw [e] at hr
 simpa [hs,e2] using hr
def xq (T:bA) (N:Nat):Nat->Nat->Rat
 |0,_=>0
 |r+1,j=>if T.basis r=j then T.cell r N else xq T N r j
def sm (T:bA) (N n:Nat):Nat->Rat
 |0=>0
 |r+1=>if T.basis r<n then sm T N n r+T.cell r N else sm T N n r
set_option maxHeartbeats 2000000 in
set_option maxRecDepth 100000 in
theorem EY (m N K n:Nat) (T:bA) (cs:Array Value) (w:World) (hR:ic cs m N K T) (hn:n<16) (hb:∀r,r<m->T.basis r<16) (ho:∀r,r<m->Ok (T.cell r N)) (hs:∀r,r<=m->Ok (sm T N n r)):
 Calls Try.prog 59 #[.agg cs,.int .i64 (n:Int)] w fun e w'=>∃g cs',e= .returned (.tuple #[.slice (some ⟨g,0,none⟩) n n,V (sm T N n m)])/\w'.heap[g]? =some (.cells cs' 34 (0,0))/\wT cs' n (fun j=>((xq T N m j).num,((xq T N m j).den:Int)))/\w.heap.size<=g/\Below w.heap.size w w':=by
 have hu:=Try.underlying79
 have HR:=Aside0.mk hR
 have HBs:=Aside0.mk hb
 have sZ:=Aside0.mk ho
 have HSm:=Aside0.mk hs
 have hmk:=a8Z n (by omega)
 have HN:=Aside0.mk hn
 have HW:=Aside0.mk (fun W=>xg.calls 0 0 1 W rfl)
 clear hR hb ho hs hn
 go_enter Try.func59,Try.ntmps59
 go_wp2
 have qj:Aside0 ((((w.alloc (.cells cs 79)).alloc (.cells #[.int .i64 0,.int .i64 0] 34)).alloc (.cells (nO n) 34)).heap[w.heap.size]? =some (.cells cs 79 (0,0))):=⟨ai (ai (dn w _) _) _⟩
 have fB:Aside0 ((((w.alloc (.cells cs 79)).alloc (.cells #[.int .i64 0,.int .i64 0] 34)).alloc (.cells (nO n) 34)).heap[w.heap.size+1]? =some (.cells #[.int .i64 0,.int .i64 0] 34 (0,0))):=⟨ai (by have:=dn (w.alloc (.cells cs 79)) (.cells #[.int .i64 0,.int .i64 0] 34);rw [qi] at this;exact this) _⟩
 have ji:Aside0 ((((w.alloc (.cells cs 79)).alloc (.cells #[.int .i64 0,.int .i64 0] 34)).alloc (.cells (nO n) 34)).heap[w.heap.size+1+1]? =some (.cells (nO n) 34 (0,0))):=⟨by have:=dn ((w.alloc (.cells cs 79)).alloc (.cells #[.int .i64 0,.int .i64 0] 34)) (.cells (nO n) 34);rw [qi,qi] at this;exact this⟩
 have eN:Aside0 (Below w.heap.size w (((w.alloc (.cells cs 79)).alloc (.cells #[.int .i64 0,.int .i64 0] 34)).alloc (.cells (nO n) 34))):=⟨aT (aT (aT (Below.refl _ _) _) _) _⟩
 generalize (((w.alloc (.cells cs 79)).alloc (.cells #[.int .i64 0,.int .i64 0] 34)).alloc (.cells (nO n) 34))=w3 at*
 go_loopw [14] (fun iv wr=>∃(i:Nat) (iy:Array Value),iv= .int .i64 (i:Int)/\i<=n/\Aside0 (wT iy n (fun j=>if j<i then (0,1) else (0,0)))/\Aside0 (wr.heap[w.heap.size]? =some (.cells cs 79 (0,0)))/\Aside0 (wr.heap[w.heap.size+1]? =some (.cells #[.int .i64 0,.int .i64 0] 34 (0,0)))/\Aside0 (wr.heap[w.heap.size+1+1]? =some (.cells iy 34 (0,0)))/\Aside0 (Below w.heap.size w wr)) (fun iv _=>n -(intOf iv).toNat)
 case atStart=>exact ⟨0,nO n,rfl,Nat.zero_le _,⟨(Wq n).congr (fun j _=>if_neg (by omega))⟩,qj,fB,ji,eN⟩
 case round=>
  clear qj fB ji eN
  obtain ⟨i,iy,rfl,hi,HP,qj,fB,ji,cO⟩:=hrel
  by_cases hlt:i<n
  ·have CH:=Aside0.mk hlt
   have g0:(0:Int)<=(i:Int):=by omega
   have g1:(i:Int)<(n:Int):=by omega
   have g2:decide ((i:Int)<(n:Int))=true:=decide_eq_true g1
   have BL:decide (i<n)=true:=decide_eq_true hlt
   have oW:Aside0 (wrap64 ((i:Int)+1)=((i+1:Nat):Int)):=⟨dQ (by have:=HN.out;omega)⟩
   have xR:Aside0 (wT ((iy.setIfInBounds (i*2) (.int .i64 0)).setIfInBounds (i*2+1) (.int .i64 1)) n (fun j=>if j<i+1 then (0,1) else (0,0))):=⟨(HP.out.put hlt (0,1)).congr (fun j _=>by
    by_cases e:j=i
    ·rw [if_pos e,if_pos (by omega)]
    ·rw [if_neg e]
     by_cases e2:j<i
     ·rw [if_pos e2,if_pos (by omega)]
     ·rw [if_neg e2,if_neg (by omega)])⟩
   go_wp2_with (first|(go_at_call 75;(with_reducible refine (HW.out _).mono ?_);rintro e w1 ⟨rfl,hb1⟩;have kr:=Aside0.mk (aj qj.out hb1);have gb:=Aside0.mk (aj fB.out hb1);have jZ:=Aside0.mk (aj ji.out hb1);have fS:=Aside0.mk (ah cO.out hb1);have h1:=bB jZ.out (HP.out.num i CH.out);have h2:=bB jZ.out (HP.out.den i CH.out);have h3:=af jZ.out (i*2);have h4:=af jZ.out (i*2+1);clear hb1))
   have b6N:=Aside0.mk (heap_set (k:=i*2+1) (v:= .int .i64 1) (heap_set (k:=i*2) (v:= .int .i64 0) jZ.out))
   have b6O:Aside0 (((w1.setCell ⟨w.heap.size+1+1,i*2,none⟩ (.int .i64 0)).setCell ⟨w.heap.size+1+1,i*2+1,none⟩ (.int .i64 1)).heap[w.heap.size]? =some (.cells cs 79 (0,0))):=⟨bz (bz kr.out (by omega)) (by omega)⟩
   have b6P:Aside0 (((w1.setCell ⟨w.heap.size+1+1,i*2,none⟩ (.int .i64 0)).setCell ⟨w.heap.size+1+1,i*2+1,none⟩ (.int .i64 1)).heap[w.heap.size+1]? =some (.cells #[.int .i64 0,.int .i64 0] 34 (0,0))):=⟨bz (bz gb.out (by omega)) (by omega)⟩
   go_roundw
   case rel=>exact ⟨i+1,_,by first|(rw [oW.out];done)|rfl|(simp;done),CH.out,xR,b6O,b6P,b6N,⟨bR (bR fS.out (by omega)) (by omega)⟩⟩
   case measure=>(try rw [oW.out]);have:=CH.out;simp [intOf];omega
  ·have hin:i=n:=by omega
   have g2:decide ((i:Int)<(n:Int))=false:=decide_eq_false (by omega)
   have BL:decide (i<n)=false:=decide_eq_false hlt
   have HP3:Aside0 (wT iy n (fun _=>(0,1))):=⟨HP.out.congr (fun j hj=>by rw [if_pos (by omega)])⟩
   clear hin hlt hi HP
   go_wp2_with (first|(go_at_call 75;(with_reducible refine (HW.out _).mono ?_);rintro e w1 ⟨rfl,hb1⟩;have kr:=Aside0.mk (ai (aj qj.out hb1) (.cells #[.int .i64 0,.int .i64 1] 34));have gb:=Aside0.mk (ai (aj fB.out hb1) (.cells #[.int .i64 0,.int .i64 1] 34));have jZ:=Aside0.mk (ai (aj ji.out hb1) (.cells #[.int .i64 0,.int .i64 1] 34));have fS:=Aside0.mk (aT (ah cO.out hb1) (.cells #[.int .i64 0,.int .i64 1] 34));have BN:=Aside0.mk (dn w1 (.cells #[.int .i64 0,.int .i64 1] 34));have h1:=bB kr.out HR.out.rows;have IU:Aside0 (w.heap.size+1+1<w1.heap.size):=⟨bf (aj ji.out hb1)⟩;clear hb1))
   clear qj fB ji cO g2 BL hmk
   have HZ3:Aside0 (w.heap.size<=w1.heap.size):=⟨by have:=IU.out;omega⟩
   generalize IV:w1.heap.size=g8 at*
   generalize w1.alloc (.cells #[.int .i64 0,.int .i64 1] 34)=w4 at*
   clear h1
   go_loopw [25] (fun rv wr=>∃(r:Nat) (iy:Array Value),rv= .int .i64 (r:Int)/\r<=m/\Aside0 (wT iy n (fun j=>((xq T N r j).num,((xq T N r j).den:Int))))/\Aside0 (wr.heap[w.heap.size]? =some (.cells cs 79 (0,0)))/\Aside0 (wr.heap[w.heap.size+1]? =some (.cells #[.int .i64 0,.int .i64 0] 34 (0,0)))/\Aside0 (wr.heap[w.heap.size+1+1]? =some (.cells iy 34 (0,0)))/\Aside0 (wr.heap[g8]? =some (.cells #[.int .i64 (sm T N n r).num,.int .i64 ((sm T N n r).den:Int)] 34 (0,0)))/\Aside0 (Below w.heap.size w wr)) (fun rv _=>m -(intOf rv).toNat)
   case atStart=>exact ⟨0,iy,rfl,Nat.zero_le _,⟨HP3.out.congr (fun j _=>rfl)⟩,kr,gb,jZ,BN,fS⟩
   case round=>
    clear kr gb jZ BN fS HP3 IV
    obtain ⟨r,iy,rfl,hr,HP,qj,fB,ji,Ng,cO⟩:=hrel
    by_cases hlt:r<m
    ·have oA:=Aside0.mk hlt
     have hN:=HR.out.hN
     have hmK:=HR.out.hm
     have CI:r<m+K:=by omega
     have h1:=bB qj.out (HR.out.fG r hlt)
     have g0:(0:Int)<=(r:Int):=by omega
     have g1:(r:Int)<16:=by omega
     have g2:decide ((r:Int)<(m:Int))=true:=decide_eq_true (by omega)
     have BL:decide (r<m)=true:=decide_eq_true hlt
     have oW:Aside0 (wrap64 ((r:Int)+1)=((r+1:Nat):Int)):=⟨dQ (by omega)⟩
     have hq:∀j,xq T N (r+1) j=if T.basis r=j then T.cell r N else xq T N r j:=fun j=>rfl
     have hsm:sm T N n (r+1)=if T.basis r<n then sm T N n r+T.cell r N else sm T N n r:=rfl
     have a9a:=HBs.out r hlt
     have HBas:=Aside0.mk (HR.out.fG r hlt)
     generalize T.basis r=b at*
     by_cases EZ:b<n
     ·have HbN:=Aside0.mk EZ
      have g3:decide ((b:Int)<(n:Int))=true:=decide_eq_true (by omega)
      have Nh:decide (b<n)=true:=decide_eq_true EZ
      have g4:(0:Int)<=(b:Int):=by omega
      have g5:(b:Int)<(n:Int):=by omega
      have g6:(0:Int)<=(N:Int):=by omega
      have g7:(N:Int)<16:=by omega
      have xR:Aside0 (wT ((iy.setIfInBounds (b*2) (.int .i64 (T.cell r N).num)).setIfInBounds (b*2+1) (.int .i64 ((T.cell r N).den:Int))) n (fun j=>((xq T N (r+1) j).num,((xq T N (r+1) j).den:Int)))):=⟨(HP.out.put EZ ((T.cell r N).num,((T.cell r N).den:Int))).congr (fun j _=>by
       rw [hq]
       by_cases e:b=j
       ·rw [if_pos e,if_pos e.symm]
       ·rw [if_neg e,if_neg (fun h=>e h.symm)])⟩
      have HS2:=Aside0.mk (show sm T N n (r+1)=sm T N n r+T.cell r N by rw [hsm,if_pos EZ])
      have HAd:=Aside0.mk (fun W=>b2P W (HSm.out r hr) (sZ.out r hlt) (by rw [<-HS2.out];exact HSm.out (r+1) hlt))
      have h2:=bB qj.out HR.out.od
      have h3:=bB qj.out (HR.out.num r N CI (Nat.le_refl _))
      have h4:=bB qj.out (HR.out.den r N CI (Nat.le_refl _))
      have h5:=bB ji.out (HP.out.num b EZ)
      have h6:=bB ji.out (HP.out.den b EZ)
      have h7:=af ji.out (b*2)
      have h8:=af ji.out (b*2+1)
      clear hlt hr hN hmK CI hq hsm a9a EZ
      go_wp2
      have h5:wr.drew.cell? ⟨w.heap.size+1+1,b*2,none⟩=_:=h5
      have h6:wr.drew.cell? ⟨w.heap.size+1+1,b*2+1,none⟩=_:=h6
      have Zk:=Aside0.mk (ak qj.out)
      have BO:=Aside0.mk (ak fB.out)
      have Fa:=Aside0.mk (ak ji.out)
      have Zl:=Aside0.mk (ak Ng.out)
      have kN:=Aside0.mk (aI cO.out)
      clear qj fB ji Ng cO
      refine fL (n:=14) (S:=fun w'=>w'.cell? ⟨w.heap.size,512+r,none⟩=some (.int .i64 (b:Int))/\w'.cell? ⟨w.heap.size,529,none⟩=some (.int .i64 (N:Int))/\w'.cell? ⟨w.heap.size,r*32+N*2,none⟩=some (.int .i64 (T.cell r N).num)/\w'.cell? ⟨w.heap.size,r*32+N*2+1,none⟩=some (.int .i64 ((T.cell r N).den:Int))) (ds:=[13]) #[false,false,false,false,false,false,false,false,false,false,false,false,false,false] (by kernel_rfl) rfl rfl ⟨h1,h2,h3,h4⟩ (fun hHeld=>?_)
      clear h1 h2 h3 h4
      generalize wr.drew=w5 at*
      refine bl (i:=0) (N:=some 34) ?_
      refine bl (i:=1) (N:=some 35) ?_
      refine bl (i:=2) (N:=some 36) ?_
      refine bl (i:=3) (N:=some 37) ?_
      refine dS (i:=4) (N:=some 38) (v:=?_) (a':=?_) #[true,true,true,true,true,false,false,false,false,false,false,false,false,false] rfl rfl (by kernel_rfl) (fun _ _ _ h=>h) (Or.inl ⟨by rfl,?_⟩) hHeld ?_ ?_
      rotate_left
      ·rintro w' ⟨s0,s1,s2,s3⟩
       go_simp
       with_reducible rfl
      rotate_left
      ·exact fj
      refine bl (i:=5) (N:=some 39) ?_
      refine bl (i:=6) (N:=some 40) ?_
      refine dS (i:=7) (N:=some 41) (v:=?_) (a':=?_) #[true,true,true,true,true,true,true,true,false,false,false,false,false,false] rfl rfl (by kernel_rfl) (fun _ _ _ h=>h) (Or.inl ⟨by rfl,?_⟩) hHeld ?_ ?_
      rotate_left
      ·rintro w' ⟨s0,s1,s2,s3⟩
       go_simp
       with_reducible rfl
      rotate_left
      ·exact fj
      refine bl (i:=8) (N:=some 42) ?_
      refine bl (i:=9) (N:=some 43) ?_
      refine bl (i:=10) (N:=some 44) ?_
      refine dS (i:=11) (N:=some 45) (v:=?_) (a':=?_) #[true,true,true,true,true,true,true,true,true,true,true,true,false,false] rfl rfl (by kernel_rfl) (fun _ _ _ h=>h) (Or.inl ⟨by rfl,?_⟩) hHeld ?_ ?_
      rotate_left
      ·rintro w' ⟨s0,s1,s2,s3⟩
       go_simp
       with_reducible rfl
      rotate_left
      ·exact fj
      refine bl (i:=12) (N:=some 46) ?_
      refine rf (i:=13) (N:=none) #[true,true,true,true,true,true,true,true,true,true,true,true,true,true] rfl rfl (by kernel_rfl) (by decide) (fun K hK=>?_)
      have h7:=af Fa.out (b*2)
      have h8:=af Fa.out (b*2+1)
      refine lO (w1:=?_) (by rfl) rfl ?_ ?_
      rotate_left
      ·go_simp
       rfl
      refine hK.out _ _ ?_
      clear hK K
      refine gU (by kernel_rfl) ?_
      have td:=Aside0.mk (heap_set (k:=b*2+1) (v:= .int .i64 ((T.cell r N).den:Int)) (heap_set (k:=b*2) (v:= .int .i64 (T.cell r N).num) Fa.out))
      have vQ:Aside0 (((w5.setCell ⟨w.heap.size+1+1,b*2,none⟩ (.int .i64 (T.cell r N).num)).setCell ⟨w.heap.size+1+1,b*2+1,none⟩ (.int .i64 ((T.cell r N).den:Int))).heap[w.heap.size]? =some (.cells cs 79 (0,0))):=⟨bz (bz Zk.out (by omega)) (by omega)⟩
      have Zm:Aside0 (((w5.setCell ⟨w.heap.size+1+1,b*2,none⟩ (.int .i64 (T.cell r N).num)).setCell ⟨w.heap.size+1+1,b*2+1,none⟩ (.int .i64 ((T.cell r N).den:Int))).heap[w.heap.size+1]? =some (.cells #[.int .i64 0,.int .i64 0] 34 (0,0))):=⟨bz (bz BO.out (by omega)) (by omega)⟩
      have nP:Aside0 (((w5.setCell ⟨w.heap.size+1+1,b*2,none⟩ (.int .i64 (T.cell r N).num)).setCell ⟨w.heap.size+1+1,b*2+1,none⟩ (.int .i64 ((T.cell r N).den:Int))).heap[g8]? =some (.cells #[.int .i64 (sm T N n r).num,.int .i64 ((sm T N n r).den:Int)] 34 (0,0))):=⟨bz (bz Zl.out (by have:=IU.out;omega)) (by have:=IU.out;omega)⟩
      have qK:Aside0 (Below w.heap.size w ((w5.setCell ⟨w.heap.size+1+1,b*2,none⟩ (.int .i64 (T.cell r N).num)).setCell ⟨w.heap.size+1+1,b*2+1,none⟩ (.int .i64 ((T.cell r N).den:Int)))):=⟨bR (bR kN.out (by omega)) (by omega)⟩
      clear Zk BO Fa Zl kN h5 h6 h7 h8 HP hHeld
      generalize ((w5.setCell ⟨w.heap.size+1+1,b*2,none⟩ (.int .i64 (T.cell r N).num)).setCell ⟨w.heap.size+1+1,b*2+1,none⟩ (.int .i64 ((T.cell r N).den:Int)))=w6 at*
      generalize (iy.setIfInBounds (b*2) (.int .i64 (T.cell r N).num)).setIfInBounds (b*2+1) (.int .i64 ((T.cell r N).den:Int))=CF at*
      go_wp2
      have h2:=bB vQ.out HR.out.od
      have h3:=bB vQ.out (HR.out.num r N (by have:=oA.out;omega) (Nat.le_refl _))
      have h4:=bB vQ.out (HR.out.den r N (by have:=oA.out;omega) (Nat.le_refl _))
      have h5:=(ag nP.out 0).trans rfl
      have h6:=(ag nP.out 1).trans rfl
      have Zk:=Aside0.mk (ak vQ.out)
      have BO:=Aside0.mk (ak Zm.out)
      have Fa:=Aside0.mk (ak td.out)
      have Zl:=Aside0.mk (ak nP.out)
      have kN:=Aside0.mk (aI qK.out)
      clear vQ Zm td nP qK
      refine fL (n:=10) (S:=fun w'=>w'.cell? ⟨w.heap.size,529,none⟩=some (.int .i64 (N:Int))/\w'.cell? ⟨w.heap.size,r*32+N*2,none⟩=some (.int .i64 (T.cell r N).num)/\w'.cell? ⟨w.heap.size,r*32+N*2+1,none⟩=some (.int .i64 ((T.cell r N).den:Int))/\w'.cell? ⟨g8,0,none⟩=some (.int .i64 (sm T N n r).num)/\w'.cell? ⟨g8,1,none⟩=some (.int .i64 ((sm T N n r).den:Int))) (ds:=[9]) #[false,false,false,false,false,false,false,false,false,false] (by kernel_rfl) rfl rfl ⟨h2,h3,h4,h5,h6⟩ (fun hHeld=>?_)
      clear h2 h3 h4 h5 h6
      generalize w6.drew=w7 at*
      refine dS (i:=0) (N:=some 47) (v:=?_) (a':=?_) #[true,false,false,false,false,false,false,false,false,false] rfl rfl (by kernel_rfl) (fun _ _ _ h=>h) (Or.inl ⟨by rfl,?_⟩) hHeld ?_ ?_
      rotate_left
      ·rintro w' ⟨s0,s1,s2,s3,s4⟩
       go_simp
       with_reducible rfl
      rotate_left
      ·exact fj
      refine bl (i:=1) (N:=some 48) ?_
      refine bl (i:=2) (N:=some 49) ?_
      refine dS (i:=3) (N:=some 50) (v:=?_) (a':=?_) #[true,true,true,true,false,false,false,false,false,false] rfl rfl (by kernel_rfl) (fun _ _ _ h=>h) (Or.inl ⟨by rfl,?_⟩) hHeld ?_ ?_
      rotate_left
      ·rintro w' ⟨s0,s1,s2,s3,s4⟩
       go_simp
       with_reducible rfl
      rotate_left
      ·exact fj
      refine bl (i:=4) (N:=some 51) ?_
      refine bl (i:=5) (N:=some 52) ?_
      refine bl (i:=6) (N:=some 53) ?_
      refine dS (i:=7) (N:=some 54) (v:=?_) (a':=?_) #[true,true,true,true,true,true,true,true,false,false] rfl rfl (by kernel_rfl) (fun _ _ _ h=>h) (Or.inl ⟨by rfl,?_⟩) hHeld ?_ ?_
      rotate_left
      ·rintro w' ⟨s0,s1,s2,s3,s4⟩
       go_simp
       with_reducible rfl
      rotate_left
      ·exact fj
      refine gj (i:=8) (N:=some 55) #[true,true,true,true,true,true,true,true,true,false] rfl rfl (by kernel_rfl) (by decide) (fun K hK=>?_)
      refine pg Try.func76 (by kernel_rfl) rfl #[V (sm T N n r),V (T.cell r N)] (by rfl) rfl rfl (by (try simp only [List.map_toArray,List.map_cons,List.map_nil]);first|done|rfl) ?_
      refine (HAd.out _).mono ?_
      rintro e w8 ⟨rfl,ni⟩
      have vQ:=Aside0.mk (aj Zk.out ni)
      have Zm:=Aside0.mk (aj BO.out ni)
      have td:=Aside0.mk (aj Fa.out ni)
      have nP:=Aside0.mk (aj Zl.out ni)
      have qK:=Aside0.mk (ah kN.out ni)
      clear Zk BO Fa Zl kN ni hHeld
      refine ⟨_,rfl,?_⟩
      have h5:=(ag nP.out 0).trans rfl
      have h6:=(ag nP.out 1).trans rfl
      refine hK.out _ _ ⟨bB vQ.out HR.out.od,bB vQ.out (HR.out.num r N (by have:=oA.out;omega) (Nat.le_refl _)),bB vQ.out (HR.out.den r N (by have:=oA.out;omega) (Nat.le_refl _)),h5,h6⟩ (fun hHeld=>?_)
      clear hK K hHeld
      refine fq (a':=?_) ?_ ?_
      rotate_left
      ·show Act.put _ (some 55) _=_
       simp only [Act.put,List.setIfInBounds_toArray,List.set_cons_zero,List.set_cons_succ,dJ,eD]
       rfl
      refine rf (i:=9) (N:=none) #[true,true,true,true,true,true,true,true,true,true] rfl rfl (by kernel_rfl) (by decide) (fun K hK=>?_)
      have h7:=af nP.out 0
      have h8:=af nP.out 1
      refine lO (w1:=?_) (by rfl) rfl ?_ ?_
      rotate_left
      ·go_simp
       rfl
      refine hK.out _ _ ?_
      clear hK K
      refine gU (by kernel_rfl) ?_
      clear h5 h6 h7 h8
      rw [<-HS2.out]
      have Ud:Aside0 (((w8.setCell ⟨g8,0,none⟩ (.int .i64 (sm T N n (r+1)).num)).setCell ⟨g8,1,none⟩ (.int .i64 ((sm T N n (r+1)).den:Int))).heap[g8]? =some (.cells #[.int .i64 (sm T N n (r+1)).num,.int .i64 ((sm T N n (r+1)).den:Int)] 34 (0,0))):=⟨bh (bh nP.out 0 (.int .i64 (sm T N n (r+1)).num) (cs':= #[.int .i64 (sm T N n (r+1)).num,.int .i64 ((sm T N n r).den:Int)]) rfl) 1 (.int .i64 ((sm T N n (r+1)).den:Int)) (cs':= #[.int .i64 (sm T N n (r+1)).num,.int .i64 ((sm T N n (r+1)).den:Int)]) rfl⟩
      have HF0:Aside0 (((w8.setCell ⟨g8,0,none⟩ (.int .i64 (sm T N n (r+1)).num)).setCell ⟨g8,1,none⟩ (.int .i64 ((sm T N n (r+1)).den:Int))).heap[w.heap.size]? =some (.cells cs 79 (0,0))):=⟨bz (bz vQ.out (by have:=IU.out;omega)) (by have:=IU.out;omega)⟩
      have BP:Aside0 (((w8.setCell ⟨g8,0,none⟩ (.int .i64 (sm T N n (r+1)).num)).setCell ⟨g8,1,none⟩ (.int .i64 ((sm T N n (r+1)).den:Int))).heap[w.heap.size+1]? =some (.cells #[.int .i64 0,.int .i64 0] 34 (0,0))):=⟨bz (bz Zm.out (by have:=IU.out;omega)) (by have:=IU.out;omega)⟩
      have Qv:Aside0 (((w8.setCell ⟨g8,0,none⟩ (.int .i64 (sm T N n (r+1)).num)).setCell ⟨g8,1,none⟩ (.int .i64 ((sm T N n (r+1)).den:Int))).heap[w.heap.size+1+1]? =some (.cells CF 34 (0,0))):=⟨bz (bz td.out (by have:=IU.out;omega)) (by have:=IU.out;omega)⟩
      have IW:Aside0 (Below w.heap.size w ((w8.setCell ⟨g8,0,none⟩ (.int .i64 (sm T N n (r+1)).num)).setCell ⟨g8,1,none⟩ (.int .i64 ((sm T N n (r+1)).den:Int)))):=⟨bR (bR qK.out HZ3.out) HZ3.out⟩
      clear vQ Zm td nP qK
      generalize ((w8.setCell ⟨g8,0,none⟩ (.int .i64 (sm T N n (r+1)).num)).setCell ⟨g8,1,none⟩ (.int .i64 ((sm T N n (r+1)).den:Int)))=w9 at*
      go_wp2
      go_roundw
      case rel=>exact ⟨r+1,CF,by first|(rw [oW.out];done)|rfl|(simp;done),oA.out,xR,HF0,BP,Qv,Ud,IW⟩
      case measure=>(try rw [oW.out]);have:=oA.out;simp [intOf];omega
     ·have g3:decide ((b:Int)<(n:Int))=false:=decide_eq_false (by omega)
      have Nh:decide (b<n)=false:=decide_eq_false EZ
      have xR:Aside0 (wT iy n (fun j=>((xq T N (r+1) j).num,((xq T N (r+1) j).den:Int)))):=⟨HP.out.congr (fun j hj=>by rw [hq,if_neg (by omega)])⟩
      have IX:Aside0 (wr.heap[g8]? =some (.cells #[.int .i64 (sm T N n (r+1)).num,.int .i64 ((sm T N n (r+1)).den:Int)] 34 (0,0))):=⟨by rw [hsm,if_neg EZ];exact Ng.out⟩
      clear hlt hr hN hmK CI hq hsm a9a EZ HP Ng
      go_wp2
      go_roundw
      case rel=>exact ⟨r+1,iy,by first|(rw [oW.out];done)|rfl|(simp;done),oA.out,xR,qj,fB,ji,IX,cO⟩
      case measure=>(try rw [oW.out]);have:=oA.out;simp [intOf];omega
    ·have Nk:r=m:=by omega
     have g2:decide ((r:Int)<(m:Int))=false:=decide_eq_false (by omega)
     have BL:decide (r<m)=false:=decide_eq_false hlt
     rw [Nk] at HP Ng
     clear Nk hlt hr
     have h5:=(ag Ng.out 0).trans rfl
     have h6:=(ag Ng.out 1).trans rfl
     have h7:=(ag fB.out 0).trans rfl
     have h8:=(ag fB.out 1).trans rfl
     have h9:=af fB.out 0
     have h10:=af fB.out 1
     go_wp2
     have Fa:=Aside0.mk (ak ji.out)
     have BO:=Aside0.mk (ak fB.out)
     have kN:=Aside0.mk (aI cO.out)
     refine fL (n:=4) (S:=fun w'=>w'.cell? ⟨g8,0,none⟩=some (.int .i64 (sm T N n m).num)/\w'.cell? ⟨g8,1,none⟩=some (.int .i64 ((sm T N n m).den:Int))) (ds:=[3]) #[false,false,false,false] (by kernel_rfl) rfl rfl ⟨h5,h6⟩ (fun hHeld=>?_)
     clear h5 h6 h7 h8 h9 h10 qj fB ji Ng cO
     generalize wr.drew=w5 at*
     refine bl (i:=0) (N:=some 57) ?_
     refine dS (i:=1) (N:=some 58) (v:=?_) (a':=?_) #[true,true,false,false] rfl rfl (by kernel_rfl) (fun _ _ _ h=>h) (Or.inl ⟨by rfl,?_⟩) hHeld ?_ ?_
     rotate_left
     ·rintro w' ⟨s0,s1⟩
      go_simp
      with_reducible rfl
     rotate_left
     ·exact fj
     refine bl (i:=2) (N:=some 4) ?_
     refine rf (i:=3) (N:=none) #[true,true,true,true] rfl rfl (by kernel_rfl) (by decide) (fun K hK=>?_)
     have h7:=(ag BO.out 0).trans rfl
     have h8:=(ag BO.out 1).trans rfl
     have h9:=af BO.out 0
     have h10:=af BO.out 1
     refine lO (w1:=?_) (by rfl) rfl ?_ ?_
     rotate_left
     ·go_simp
      rfl
     refine hK.out _ _ ?_
     clear hK K
     refine gU (by kernel_rfl) ?_
     have BP:Aside0 (((w5.setCell ⟨w.heap.size+1,0,none⟩ (.int .i64 (sm T N n m).num)).setCell ⟨w.heap.size+1,1,none⟩ (.int .i64 ((sm T N n m).den:Int))).heap[w.heap.size+1]? =some (.cells #[.int .i64 (sm T N n m).num,.int .i64 ((sm T N n m).den:Int)] 34 (0,0))):=⟨bh (bh BO.out 0 (.int .i64 (sm T N n m).num) (cs':= #[.int .i64 (sm T N n m).num,.int .i64 0]) rfl) 1 (.int .i64 ((sm T N n m).den:Int)) (cs':= #[.int .i64 (sm T N n m).num,.int .i64 ((sm T N n m).den:Int)]) rfl⟩
     have Qv:Aside0 (((w5.setCell ⟨w.heap.size+1,0,none⟩ (.int .i64 (sm T N n m).num)).setCell ⟨w.heap.size+1,1,none⟩ (.int .i64 ((sm T N n m).den:Int))).heap[w.heap.size+1+1]? =some (.cells iy 34 (0,0))):=⟨bz (bz Fa.out (by omega)) (by omega)⟩
     have IW:Aside0 (Below w.heap.size w ((w5.setCell ⟨w.heap.size+1,0,none⟩ (.int .i64 (sm T N n m).num)).setCell ⟨w.heap.size+1,1,none⟩ (.int .i64 ((sm T N n m).den:Int)))):=⟨bR (bR kN.out (by omega)) (by omega)⟩
     clear BO Fa kN h7 h8 h9 h10 hHeld
     generalize ((w5.setCell ⟨w.heap.size+1,0,none⟩ (.int .i64 (sm T N n m).num)).setCell ⟨w.heap.size+1,1,none⟩ (.int .i64 ((sm T N n m).den:Int)))=w6 at*
     have h7:=(ag BP.out 0).trans rfl
     have h8:=(ag BP.out 1).trans rfl
     go_wp2
     refine bodyPost_ret (v:= .tuple #[.slice (some ⟨w.heap.size+1+1,0,none⟩) n n,V (sm T N n m)]) (by simp [results,Try.results59,go_sem, *]) rfl ?_
     exact ⟨_,iy,rfl,Qv.out,HP.out,by omega,IW.out⟩
end Go.Proofs.Ytkckdphjhlbdcaa.PT
namespace Go.Proofs.Ytkckdphjhlbdcaa.P
open Go.RowKit Go.Proofs.YtkckdphjhlbdcaaW.PrintWords Go.Proofs.YtkckdphjhlbdcaaW.PrintLast Go.Proofs.YtkckdphjhlbdcaaW.PrintMore
attribute [local go_sem] max2_int min2_int max_two min_two max_three min_three max_four min_four
set_option linter.all false
def dg.l0:Nat->Int->List (dm)->Int->Option ((List (dm)))
 |0,_,_,_=>none
 |k+1,x0,x3,x4=>if x4<x0 then (if x3.length<8796093022208 then (dg.l0 k x0 (x3++[(⟨0,1⟩:dm)]) (wrap64 (x4+1))) else (none)) else (some x3)
def dg.f (k:Nat) (a0:Int):Option ((List (dm))):=dg.l0 k a0 (([]:List (dm))) 0
theorem dg.cC:∀k,(∀y0 y1 y2,aR (dg.l0 k y0 y1 y2) (dg.l0 (k+1) y0 y1 y2))
 |0=>fun _ _ _ r h=>by simp [dg.l0] at h
 |k+1=>by
  have dN:=dg.cC k
  ·intro y0 y1 y2
   unfold dg.l0
   repeat' first
   |(with_reducible exact dN _ _ _)
   |(with_reducible exact aR.refl _)
   |(with_reducible exact aR.none _)
   |(with_reducible refine aR.ite ?_ ?_)
   |(with_reducible refine aR.bind ?_ (fun _=>?_))
theorem dg.mono:∀a0 k,aR (dg.f k a0) (dg.f (k+1) a0):=by
 intro a0 k
 have dN:=dg.cC k
 unfold dg.f
 repeat' first
  |(with_reducible exact dN _ _ _)
  |(with_reducible exact aR.refl _)
  |(with_reducible exact aR.none _)
  |(with_reducible refine aR.ite ?_ ?_)
  |(with_reducible refine aR.bind ?_ (fun _=>?_))
set_option maxHeartbeats 8000000 in
set_option maxRecDepth 100000 in
theorem dg.calls (k:Nat) (a0:Int) (r:List (dm)) (w:World) (h:dg.f k a0=some r):
 Calls Try.prog 90 #[.int .i64 a0] w fun e w'=>∃lH:Value,e= .returned (lH)/\Kd.R gY 34 w' w.heap.size (fun _=>True) lH r/\Below w.heap.size w w':=by
 have lB:=Try.underlying34
 have HB:=Aside0.mk (Below.refl w.heap.size w)
 have H:(dg.l0 k a0 (([]:List (dm))) 0)=some r:=h
 clear h
 obtain ⟨a9b,IY⟩:∃y_:List (dm),y_=(([]:List (dm))):=⟨_,rfl⟩
 replace H:(dg.l0 k a0 a9b 0)=some r:=by first|(rw [IY];with_reducible exact H)|(have eF:=(Option.bind_some _ _).symm.trans H;rw [IY];with_reducible exact eF)|(have eF:=(Option.bind_some _ _).symm.trans H;with_reducible exact eF)|with_reducible exact H|(rw [IY];exact H)|exact H
 have a4z:=Aside0.mk IY
 clear IY
 have H':=Aside0.mk H
 clear H
 go_enter Try.func90,Try.ntmps90
 go_wp2_with (first|((with_reducible refine bn (N:=5) rfl ?_);refine Kd.DM gY _ 34 ?hg (N:=5) ?hd (xs:=([]:List (dm))) (inner:=[]) (ok:=fun _=>True) (gK:=fun _=>True) ?hr ?hp (fun _ hk=>hk) trivial (Below.refl _ _) (Nat.le_refl _) (by simp) ?_;(case hd=>rfl);(case hg=>rfl);(case hr=>first|(go_simp;done)|(go_simp;rfl));(case hp=>exact (dD.none _ _));intro v151 w2 xS hb vR nQ;clear vR nQ;(first|rw [<-a4z.out] at xS|(simp only [Int.reduceToNat] at xS;rw [<-a4z.out] at xS));have aA:=Aside0.mk (Kd.ie xS (ax ay));have aC:=Aside0.mk (ah ay hb);clear HB;have b2Q:=aA;have HB:=aC;clear aA aC;clear hb xS))
 go_loopg [3,4] k (fun kq v3 v4 w'=>∃(fu:List (dm)) (cL:Int),v4= .int .i64 cL/\Aside0 (dg.l0 kq a0 fu cL=some r)/\Aside0 (kq<=k)/\Aside0 (Kd.R gY 34 w' w.heap.size (fun _=>True) v3 fu)/\Aside0 (Below w.heap.size w w'))
 case atStart=>exact ⟨(a9b),(0),(by first|rfl|(simp;done)|(simp [*];done)),H',⟨Nat.le_refl _⟩,⟨by (with_reducible repeat (first|apply Kd.ck|apply Kd.cn|apply Kd.cK));exact b2Q.out⟩,⟨ay⟩⟩
 case round=>
  clear H'
  try clear p2
  obtain ⟨fu,cL,rfl,HA,dX,fy,HB⟩:=hrel
  cases gk with
  |zero=>exact absurd HA.out (by simp [dg.l0])
  |succ k1=>
   have H:=HA.out
   clear HA
   simp only [dg.l0] at H
   by_cases c4:cL<a0
   ·rw [if_pos c4] at H
    have mj:decide (cL<a0)=true:=decide_eq_true c4
    clear c4
    by_cases c5:fu.length<8796093022208
    ·rw [if_pos c5] at H
     have b6Q:=Aside0.mk c5
     clear c5
     obtain ⟨a9c,IZ⟩:∃y_:List (dm),y_=(fu++[(⟨0,1⟩:dm)]):=⟨_,rfl⟩
     replace H:(dg.l0 k1 a0 a9c (wrap64 (cL+1)))=some r:=by first|(rw [IZ];with_reducible exact H)|(have eF:=(Option.bind_some _ _).symm.trans H;rw [IZ];with_reducible exact eF)|(have eF:=(Option.bind_some _ _).symm.trans H;with_reducible exact eF)|with_reducible exact H|(rw [IZ];exact H)|exact H
     have b2R:=Aside0.mk IZ
     clear IZ
     have H':=Aside0.mk H
     clear H
     go_wp2_with (first|((with_reducible refine gW (b:= .append) (xs:= #[.tmp 11,.tmp 13]) rfl ?_);at_builtin;refine Kd.mR gY (w0:=w) w.heap.size rfl (.tmp 11) (.tmp 13) 33 34 (.agg #[(.int .i64 0),(.int .i64 0)]) 16 rfl Try.underlying33 Cv rfl (by decide) (by omega) u3 fu (⟨0,1⟩:dm) [.int .i64 0,.int .i64 1] (fun _=>True) (fun _=>False) rfl rfl ?aP (fun _ hk=>hk.elim) ?aF ?aO ?aB ?aS ?aL ?_;(case aP=>exact xB _ _ _ (⟨0,1⟩:dm));(case aB=>exact ay);(case aF=>exact (fun _ _=>trivial));(case aO=>exact (by (with_reducible repeat (first|apply Kd.ck|apply Kd.cn|apply Kd.cK));exact fy.out));(case aS=>exact (ax ay));(case aL=>have:=b6Q.out;omega);intro v154 w6 ho hb hg hat;rw [<-b2R.out] at ho;have aA:=Aside0.mk (hb);have aC:=Aside0.mk (ho);clear HB;clear fy;have HB:=aA;have b2S:=aC;clear aA aC;clear ho hb hg hat))
     go_roundg k1
     case measure=>have:=dX.out;omega
     case rel=>exact ⟨(a9c),(wrap64 (cL+1)),(by first|rfl|(simp;done)|(simp [*];done)),H',⟨by have:=dX.out;omega⟩,⟨by (with_reducible repeat (first|apply Kd.ck|apply Kd.cn|apply Kd.cK));exact b2S.out⟩,⟨ay⟩⟩
    ·rw [if_neg c5] at H
     exact absurd H (by simp)
   ·rw [if_neg c4] at H
    have mj:decide (cL<a0)=false:=decide_eq_false c4
    clear c4
    obtain rfl:=Option.some.inj H
    go_wp2
    go_ret
    exact ⟨_,by first|rfl|(simp [aX,aY]<;>rfl)|(simp [*,aX,aY]<;>rfl),by (with_reducible repeat (first|apply Kd.ck|apply Kd.cn|apply Kd.cK));exact fy.out,ay⟩
end Go.Proofs.Ytkckdphjhlbdcaa.P
namespace Go.Proofs.Ytkckdphjhlbdcaa.PT
open Go.RowKit Go.Proofs.Ytkckdphjhlbdcaa.P Go.Proofs.YtkckdphjhlbdcaaW.PrintWords Go.Proofs.YtkckdphjhlbdcaaW.PrintLast Go.Proofs.Ytkckdphjhlbdcaa.EvKit Go.Proofs.Ytkckdphjhlbdcaa.Num Go.Proofs.Ytkckdphjhlbdcaa.Lp
set_option linter.all false
def jA (R:Nat->Nat->Rat) (c:Nat):Nat->Nat->Nat
 |p,0=>p
 |p,d+1=>if R p c=0 then jA R c (p+1) d else p
theorem Qw (R:Nat->Nat->Rat) (c:Nat):∀d p,p<=jA R c p d/\jA R c p d<=p+d
 |0,p=>⟨Nat.le_refl _,Nat.le_refl _⟩
 |d+1,p=>by
  simp only [jA]
  split
  ·have:=Qw R c d (p+1);omega
  ·omega
theorem Ja (R:Nat->Nat->Rat) (c:Nat):∀d p,jA R c p d<p+d->R (jA R c p d) c≠0
 |0,p=>by simp only [jA];omega
 |d+1,p=>by
  simp only [jA]
  split
  ·intro h;exact Ja R c d (p+1) (by omega)
  ·next h=>intro _;exact h
def gN (p c i:Nat):Nat:=if i=c then p else if i=p then c else i
def ku (R:Nat->Nat->Rat) (p c:Nat):Nat->Nat->Rat:=fun i j=>R (gN p c i) j
def fO (R:Nat->Nat->Rat) (c:Nat):Nat->Nat->Rat:=fun r j=>if r=c∨j<c then R r j else R r j - R r c/R c c*R c j
def gH (n:Nat) (R0:Nat->Nat->Rat):Nat->Option (Nat->Nat->Rat)
 |0=>some R0
 |c+1=>(gH n R0 c).bind fun R=>if jA R c c (n - c)<n then some (fO (ku R (jA R c c (n - c)) c) c) else none
theorem Nl {n:Nat} {R0:Nat->Nat->Rat}:∀{c d:Nat},gH n R0 c=none->gH n R0 (c+d)=none
 |c,0,h=>h
 |c,d+1,h=>by
  show (gH n R0 (c+d)).bind _=none
  rw [Nl h];rfl
def iz (W:World) (g n:Nat) (q:Nat->Int×Int):Prop:=∃cs:Array Value,W.heap[g]? =some (.cells cs 34 (0,0))/\∀j,j<=n->cs[j*2]? =some (.int .i64 (q j).1)/\cs[j*2+1]? =some (.int .i64 (q j).2)
theorem iz.move {W W1:World} {g n:Nat} {q:Nat->Int×Int} (h:iz W g n q) (e:W1.heap[g]? =W.heap[g]?):iz W1 g n q:=by
 obtain ⟨cs,h1,h2⟩:=h;exact ⟨cs,e.trans h1,h2⟩
theorem iz.lt {W:World} {g n:Nat} {q:Nat->Int×Int} (h:iz W g n q):g<W.heap.size:=by
 obtain ⟨cs,h1,_⟩:=h;exact bf h1
theorem iz.below {W W1:World} {g n:Nat} {q:Nat->Int×Int} (h:iz W g n q) (hb:Below W.heap.size W W1):iz W1 g n q:=h.move (hb.block _ h.lt)
theorem iz.at {W:World} {g n j:Nat} {q:Nat->Int×Int} (h:iz W g n q) (hj:j<=n):W.cell? ⟨g,j*2,none⟩=some (.int .i64 (q j).1)/\W.cell? ⟨g,j*2+1,none⟩=some (.int .i64 (q j).2):=by
 obtain ⟨cs,h1,h2⟩:=h;exact ⟨bB h1 (h2 j hj).1,bB h1 (h2 j hj).2⟩
theorem iz.frozen {W:World} {g n:Nat} {q:Nat->Int×Int} (h:iz W g n q) (k:Nat):W.frozen? ⟨g,k,none⟩=false:=by
 obtain ⟨cs,h1,_⟩:=h;exact af h1 k
theorem iz.put {W:World} {g n j:Nat} {q:Nat->Int×Int} (h:iz W g n q) (hj:j<=n) (p:Int×Int):iz ((W.setCell ⟨g,j*2,none⟩ (.int .i64 p.1)).setCell ⟨g,j*2+1,none⟩ (.int .i64 p.2)) g n (fun k=>if k=j then p else q k):=by
 obtain ⟨cs,h1,h2⟩:=h
 have hs1:=(Array.getElem?_eq_some_iff.1 (h2 j hj).1).1
 have hs2:=(Array.getElem?_eq_some_iff.1 (h2 j hj).2).1
 refine ⟨_,heap_set (heap_set h1),fun k hk=>?_⟩
 by_cases e:k=j
 ·subst e
  refine ⟨?_,?_⟩
  ·rw [Array.getElem?_setIfInBounds_ne (by omega),Array.getElem?_setIfInBounds,if_pos rfl,if_pos hs1]
   show _=some (Value.int .i64 (if k=k then p else q k).1);rw [if_pos rfl]
  ·rw [Array.getElem?_setIfInBounds,if_pos rfl,if_pos (by simpa using hs2)]
   show _=some (Value.int .i64 (if k=k then p else q k).2);rw [if_pos rfl]
 ·refine ⟨?_,?_⟩
  ·rw [Array.getElem?_setIfInBounds_ne (by omega),Array.getElem?_setIfInBounds_ne (by omega),(h2 k hk).1]
   show _=some (Value.int .i64 (if k=j then p else q k).1);rw [if_neg e]
  ·rw [Array.getElem?_setIfInBounds_ne (by omega),Array.getElem?_setIfInBounds_ne (by omega),(h2 k hk).2]
   show _=some (Value.int .i64 (if k=j then p else q k).2);rw [if_neg e]
theorem iz.other {W:World} {g g' n k:Nat} {v:Value} {q:Nat->Int×Int} (h:iz W g n q) (hne:g≠g'):iz (W.setCell ⟨g',k,none⟩ v) g n q:=by
 obtain ⟨cs,h1,h2⟩:=h;exact ⟨cs,bz h1 hne,h2⟩
theorem iz.congr {W:World} {g n:Nat} {q q':Nat->Int×Int} (h:iz W g n q) (e:∀j,j<=n->q' j=q j):iz W g n q':=by
 obtain ⟨cs,h1,h2⟩:=h;exact ⟨cs,h1,fun j hj=>by rw [e j hj];exact h2 j hj⟩
theorem a6w {W:World} {base n:Nat} {v:Value} (h:Kd.R gY 34 W base (fun _=>True) v (List.replicate (n+1) ⟨0,1⟩)):∃g c,v= .slice (some ⟨g,0,none⟩) (n+1) c/\base<=g/\iz W g n (fun _=>(0,1)):=by
 obtain ⟨_,inner,ho,hr⟩:=h
 rw [List.length_replicate] at ho
 rcases ho.2 with ⟨_,h0⟩|⟨g,cap,cur,rfl,hb,hh,h1,h2,h3,h4⟩
 ·omega
 ·refine ⟨g,cap,rfl,hb,cur,hh,fun j hj=>?_⟩
  have Ce:=hr.2 j ⟨0,1⟩ (by rw [List.getElem?_replicate,if_pos (by omega)])
  have hop:=Cw Ce
  have hsz:(gY).sz=2:=rfl
  rw [hsz] at hop h4
  have e:∀i,i<2->cur[j*2+i]? =([Value.int .i64 0,.int .i64 1]:List Value)[i]? :=by
   intro i hi
   rw [<-hop,List.getElem?_take,if_pos hi,List.getElem?_drop,<-h4,List.getElem?_take,if_pos (by omega)]
   simp
  exact ⟨e 0 (by omega),e 1 (by omega)⟩
abbrev wU:Kd (Nat×Nat×Nat):=Kd.scalar (fun x:Nat×Nat×Nat=>Value.slice (some ⟨x.1,0,none⟩) x.2.1 x.2.2) (fun _=>rfl)
def nj (W:World) (gR n:Nat) (g cp:Nat->Nat):Prop:=∃cs:Array Value,W.heap[gR]? =some (.cells cs 33 (0,0))/\∀i,i<n->cs[i]? =some (.slice (some ⟨g i,0,none⟩) (n+1) (cp i))
theorem a6x {W:World} {base n:Nat} {v:Value} {g cp:Nat->Nat} (hn:0<n) (h:Kd.R wU 33 W base (fun _=>True) v ((List.range n).map (fun i=>(g i,n+1,cp i)))):∃gR c,v= .slice (some ⟨gR,0,none⟩) n c/\base<=gR/\nj W gR n g cp:=by
 obtain ⟨_,inner,ho,hr⟩:=h
 rw [List.length_map,List.length_range] at ho
 rcases ho.2 with ⟨_,h0⟩|⟨gR,cap,cur,rfl,hb,hh,h1,h2,h3,h4⟩
 ·omega
 ·refine ⟨gR,cap,rfl,hb,cur,hh,fun i hi=>?_⟩
  have Ce:=hr.2 i (g i,n+1,cp i) (by rw [List.getElem?_map,List.getElem?_range hi];rfl)
  have hop:(inner.drop (i*1)).take 1=[.slice (some ⟨g i,0,none⟩) (n+1) (cp i)]:=Ce
  have hsz:(wU).sz=1:=rfl
  rw [hsz] at h4
  have e:(List.take 1 (List.drop (i*1) inner))[0]? =some (.slice (some ⟨g i,0,none⟩) (n+1) (cp i)):=by rw [hop];rfl
  rw [List.getElem?_take,if_pos (by omega),List.getElem?_drop,<-h4,List.getElem?_take,if_pos (by omega)] at e
  simpa using e
theorem nj.move {W W1:World} {gR n:Nat} {g cp:Nat->Nat} (h:nj W gR n g cp) (e:W1.heap[gR]? =W.heap[gR]?):nj W1 gR n g cp:=by
 obtain ⟨cs,h1,h2⟩:=h;exact ⟨cs,e.trans h1,h2⟩
theorem nj.lt {W:World} {gR n:Nat} {g cp:Nat->Nat} (h:nj W gR n g cp):gR<W.heap.size:=by
 obtain ⟨cs,h1,_⟩:=h;exact bf h1
theorem nj.below {W W1:World} {gR n:Nat} {g cp:Nat->Nat} (h:nj W gR n g cp) (hb:Below W.heap.size W W1):nj W1 gR n g cp:=h.move (hb.block _ h.lt)
theorem nj.at {W:World} {gR n i:Nat} {g cp:Nat->Nat} (h:nj W gR n g cp) (hi:i<n):W.cell? ⟨gR,i,none⟩=some (.slice (some ⟨g i,0,none⟩) (n+1) (cp i)):=by
 obtain ⟨cs,h1,h2⟩:=h;exact bB h1 (h2 i hi)
theorem nj.frozen {W:World} {gR n:Nat} {g cp:Nat->Nat} (h:nj W gR n g cp) (i:Nat):W.frozen? ⟨gR,i,none⟩=false:=by
 obtain ⟨cs,h1,_⟩:=h;exact af h1 i
theorem nj.other {W:World} {gR g' n k:Nat} {v:Value} {g cp:Nat->Nat} (h:nj W gR n g cp) (hne:gR≠g'):nj (W.setCell ⟨g',k,none⟩ v) gR n g cp:=by
 obtain ⟨cs,h1,h2⟩:=h;exact ⟨cs,bz h1 hne,h2⟩
theorem nj.ne {W:World} {gR n k:Nat} {g cp:Nat->Nat} {q:Nat->Int×Int} (h:nj W gR n g cp) (hr:iz W k n q):k≠gR:=by
 obtain ⟨cs,h1,_⟩:=h;obtain ⟨cs',h2,_⟩:=hr
 exact XD h2 h1 (by decide)
theorem nj.put {W:World} {gR n i:Nat} {g cp:Nat->Nat} (h:nj W gR n g cp) (hi:i<n) (a b:Nat):nj (W.setCell ⟨gR,i,none⟩ (.slice (some ⟨a,0,none⟩) (n+1) b)) gR n (fun k=>if k=i then a else g k) (fun k=>if k=i then b else cp k):=by
 obtain ⟨cs,h1,h2⟩:=h
 have hs1:=(Array.getElem?_eq_some_iff.1 (h2 i hi)).1
 refine ⟨_,heap_set h1,fun k hk=>?_⟩
 by_cases e:k=i
 ·subst e
  rw [Array.getElem?_setIfInBounds,if_pos rfl,if_pos hs1]
  show _=some (Value.slice (some ⟨if k=k then a else g k,0,none⟩) (n+1) (if k=k then b else cp k))
  rw [if_pos rfl,if_pos rfl]
 ·rw [Array.getElem?_setIfInBounds_ne (by omega),h2 k hk]
  show _=some (Value.slice (some ⟨if k=i then a else g k,0,none⟩) (n+1) (if k=i then b else cp k))
  rw [if_neg e,if_neg e]
section
variable {x y:Rat} {a b c d:Nat}
theorem Ue (w:World) (hx:Sz a b x) (hy:Sz c d y) (h1:a*d<=9223372036854775807) (h2:b*c<=9223372036854775807) (hy0:y≠0):
 Calls Try.prog 91 #[V x,V y] w fun e w'=>e= .returned (V (x/y))/\Below w.heap.size w w':=by
 obtain ⟨k,hk⟩:=Ev.rounds (a6t hx hy h1 h2 hy0)
 exact ld.calls k x.num x.den y.num y.den _ _ w hk
theorem a1O (w:World) (hx:Sz a b x) (hy:Sz c d y) (h1:a*c<=9223372036854775807) (h2:b*d<=9223372036854775807):
 Calls Try.prog 93 #[V x,V y] w fun e w'=>e= .returned (V (x*y))/\Below w.heap.size w w':=by
 obtain ⟨k,hk⟩:=Ev.rounds (a1J hx hy h1 h2)
 exact ko.calls k x.num x.den y.num y.den _ _ w hk
theorem a1P (w:World) (hx:Sz a b x) (hy:Sz c d y) (h1:a*d+c*b<=9223372036854775807) (h2:b*d<=9223372036854775807):
 Calls Try.prog 92 #[V x,V y] w fun e w'=>e= .returned (V (x - y))/\Below w.heap.size w w':=by
 obtain ⟨k,hk⟩:=Ev.rounds (a1I hx hy h1 h2)
 exact kn.calls k x.num x.den y.num y.den _ _ w hk
end
theorem a1Q (n:Nat) (hn:n<=1048576):Ev (fun k=>dg.f k (n:Int)) (List.replicate n ⟨0,1⟩):=by
 unfold dg.f
 have key:∀d i,i+d=n->Ev (fun k=>dg.l0 k (n:Int) (List.replicate i ⟨0,1⟩) (i:Int)) (List.replicate n ⟨0,1⟩):=by
  intro d
  induction d with
  |zero=>
   intro i hi
   refine Ev.succ ?_
   simp only [dg.l0]
   rw [show i=n by omega]
   exact Ev.neg (by omega) (Ev.now _)
  |succ d ih=>
   intro i hi
   have ih:=ih (i+1) (by omega)
   refine Ev.succ ?_
   simp only [dg.l0,dQ (show i<=9223372036854775806 by omega)]
   refine Ev.pos (by omega) (Ev.pos (by simp;omega) ?_)
   rw [List.replicate_succ'] at ih
   exact ih
 exact key n 0 (by omega)
theorem a6y (n:Nat) (hn:n<=1048575) (w:World):Calls Try.prog 90 #[.int .i64 ((n+1:Nat):Int)] w fun e w'=>∃g c,e= .returned (.slice (some ⟨g,0,none⟩) (n+1) c)/\w.heap.size<=g/\iz w' g n (fun _=>(0,1))/\Below w.heap.size w w':=by
 obtain ⟨k,hk⟩:=Ev.rounds (a1Q (n+1) (by omega))
 refine (dg.calls k _ _ w hk).mono ?_
 rintro e w1 ⟨v,rfl,hr,hb⟩
 obtain ⟨g,c,rfl,hg,hB⟩:=a6w hr
 exact ⟨g,c,rfl,hg,hB,hb⟩
def iL (ch:List dz) (n k j:Nat):Rat:=if j=n then (((ch.getD k tE).f2:Int):Rat) else if (j:Int)∈(ch.getD k tE).f0 then 1 else 0
abbrev qp (x:Rat):Int×Int:=(x.num,(x.den:Int))
theorem a6z {W W1:World} {base:Nat} {v:Value} {xs:List (Nat×Nat×Nat)} (h:Kd.R wU 33 W base (fun _=>True) v xs) (hm:∀k:Nat,(∃cells:Array Value,W.heap[k]? =some (.cells cells 33 (0,0)))->W1.heap[k]? =W.heap[k]?):Kd.R wU 33 W1 base (fun _=>True) v xs:=by
 have h':Kd.R wU 33 W base (fun k=>v.ownBlock=some k) v xs:=⟨fun k hk=>hk,h.2.qA (fun _ _ hp=>hp)⟩
 refine Kd.dh (Kd.vA h' (fun k hk=>hm k ?_)) (fun _ _=>trivial)
 obtain ⟨_,inner,ho,_⟩:=h
 exact qB ho k hk
theorem Uf {W:World} {base g k l:Nat} {v u u':Value} {xs:List (Nat×Nat×Nat)} {cs:Array Value} (h:Kd.R wU 33 W base (fun _=>True) v xs) (hr:W.heap[g]? =some (.cells cs 34 (0,0))):Kd.R wU 33 ((W.setCell ⟨g,k,none⟩ u).setCell ⟨g,l,none⟩ u') base (fun _=>True) v xs:=by
 refine a6z h (fun m ⟨cells,hl⟩=>?_)
 have hne:m≠g:=XD hl hr (by decide)
 exact (bz (bz hl hne) hne).trans hl.symm
theorem Zn (W:World) (p p':Addr) (v v':Value):((W.setCell p v).setCell p' v').heap.size=W.heap.size:=by
 have h1:((W.setCell p v).setCell p' v').heap.size=(W.setCell p v).heap.size:=Array.size_modify
 have h2:(W.setCell p v).heap.size=W.heap.size:=Array.size_modify
 exact h1.trans h2
theorem Jb {W W1:World} {base g n:Nat} {v:Value} {xs:List (Nat×Nat×Nat)} {q:Nat->Int×Int} (h:iz W g n q) (hR:Kd.R wU 33 W base (fun _=>True) v xs) (hg:W.grownBy W1 v.ownBlock):iz W1 g n q:=
 h.move (hg.block g h.lt (fun e=>by
  obtain ⟨_,inner,ho,_⟩:=hR
  obtain ⟨cells,hk⟩:=qB ho g e.symm
  obtain ⟨cs,hc,_⟩:=h
  rw [hc] at hk;simp only [Option.some.injEq,Obj.cells.injEq] at hk
  exact absurd hk.2.1 (by decide)))
structure GOk (n c:Nat) (R:Nat->Nat->Rat):Prop where
 sz:∀i j,i<n->j<=n->Sz 2822400 2822400 (R i j)
 f:jA R c c (n - c)<n->∀r,r<n->r≠c->Sz 2822400 2822400 (ku R (jA R c c (n - c)) c r c/ku R (jA R c c (n - c)) c c c)
 pr:jA R c c (n - c)<n->∀r j,r<n->r≠c->j<=n->Sz 4741632000 4741632000 (ku R (jA R c c (n - c)) c r c/ku R (jA R c c (n - c)) c c c*ku R (jA R c c (n - c)) c c j)
structure a9d (n:Nat) (R:Nat->Nat->Rat):Prop where
 sz:∀i j,i<n->j<=n->Sz 2822400 2822400 (R i j)
 ne:∀c,c<n->R c c≠0
def CJ (w:World) (n:Nat) (o:Option (Nat->Nat->Rat)) (e:Ending) (w':World):Prop:=
 ∃v0:Value,e= .returned (.tuple #[v0,.bool o.isSome])/\Kd.R gY 34 w' w.heap.size (fun _=>True) v0 (match o with|none=>[]|some R=>(List.range n).map (fun c=>(⟨(R c n/R c c).num,((R c n/R c c).den:Int)⟩:dm)))/\Below w.heap.size w w'
theorem Qx {R:Nat->Nat->Rat} {c:Nat}:∀(d p q:Nat),p<=q->q<=p+d->(∀i,p<=i->i<q->R i c=0)->(q=p+d∨R q c≠0)->jA R c p d=q
 |0,p,q,h1,h2,_,_=>by simp only [jA];omega
 |d+1,p,q,h1,h2,h3,h4=>by
  simp only [jA]
  by_cases e:q=p
  ·subst e
   rcases h4 with h4|h4
   ·omega
   ·rw [if_neg h4]
  ·rw [if_pos (h3 p (Nat.le_refl _) (by omega))]
   exact Qx d (p+1) q (by omega) (by omega) (fun i hi hi2=>h3 i (by omega) hi2) (h4.imp (by omega) id)
theorem a6A {n c:Nat} {R0 R:Nat->Nat->Rat} (h:gH n R0 c=some R) (hc:c<n) (hp:¬jA R c c (n - c)<n):gH n R0 n=none:=by
 have h1:gH n R0 (c+1)=none:=by
  show (gH n R0 c).bind _=none
  rw [h];show (if _ then _ else _)=none;rw [if_neg hp]
 have:=Nl (d:=n -(c+1)) h1
 rwa [show c+1+(n -(c+1))=n by omega] at this
theorem a6B {n c:Nat} {R0 R:Nat->Nat->Rat} (h:gH n R0 c=some R) (hp:jA R c c (n - c)<n):gH n R0 (c+1)=some (fO (ku R (jA R c c (n - c)) c) c):=by
 show (gH n R0 c).bind _=_
 rw [h];show (if _ then _ else _)=_;rw [if_pos hp]
structure GS (w:World) (gR n:Nat) (W:World) (g cp:Nat->Nat) (R:Nat->Nat->Rat):Prop where
 out:nj W gR n g cp
 row:∀k,k<n->iz W (g k) n (fun j=>qp (R k j))
 lo:∀k,k<n->w.heap.size<=g k
 inj:∀k l,k<n->l<n->g k=g l->k=l
 Qy:w.heap.size<=gR
 mM:Below w.heap.size w W
section
variable {w W W1:World} {gR n:Nat} {g cp:Nat->Nat} {R:Nat->Nat->Rat}
theorem GS.below (h:GS w gR n W g cp R) (hb:Below W.heap.size W W1):GS w gR n W1 g cp R:=
 ⟨h.out.below hb,fun k hk=>(h.row k hk).below hb,h.lo,h.inj,h.Qy,ah h.mM hb⟩
theorem GS.congr {R':Nat->Nat->Rat} (h:GS w gR n W g cp R) (e:∀k j,k<n->j<=n->R' k j=R k j):GS w gR n W g cp R':=
 ⟨h.out,fun k hk=>(h.row k hk).congr (fun j hj=>by rw [e k j hk hj]),h.lo,h.inj,h.Qy,h.mM⟩
theorem GS.put (h:GS w gR n W g cp R) {i j:Nat} (hi:i<n) (hj:j<=n) (x:Rat):GS w gR n ((W.setCell ⟨g i,j*2,none⟩ (.int .i64 x.num)).setCell ⟨g i,j*2+1,none⟩ (.int .i64 (x.den:Int))) g cp (fun k l=>if k=i/\l=j then x else R k l):=by
 refine ⟨(h.out.other (fun e=>h.out.ne (h.row i hi) e.symm)).other (fun e=>h.out.ne (h.row i hi) e.symm),fun k hk=>?_,h.lo,h.inj,h.Qy,bR (bR h.mM (h.lo i hi)) (h.lo i hi)⟩
 by_cases e:k=i
 ·subst e
  refine ((h.row k hk).put hj (qp x)).congr (fun l hl=>?_)
  show qp (if k=k/\l=j then x else R k l)=if l=j then qp x else qp (R k l)
  by_cases e2:l=j
  ·rw [if_pos ⟨rfl,e2⟩,if_pos e2]
  ·rw [if_neg (fun h=>e2 h.2),if_neg e2]
 ·refine (((h.row k hk).other (fun e2=>e (h.inj k i hk hi e2))).other (fun e2=>e (h.inj k i hk hi e2))).congr (fun l hl=>?_)
  show qp (if k=i/\l=j then x else R k l)=qp (R k l)
  rw [if_neg (fun h=>e h.1)]
theorem GS.far (h:GS w gR n W g cp R) {x:Nat} (h1:gR≠x) (h2:∀l,l<n->g l≠x) (h3:w.heap.size<=x) (k:Nat) (v:Value):GS w gR n (W.setCell ⟨x,k,none⟩ v) g cp R:=
 ⟨h.out.other h1,fun l hl=>(h.row l hl).other (h2 l hl),h.lo,h.inj,h.Qy,bR h.mM h3⟩
theorem GS.swap (h:GS w gR n W g cp R) {p c:Nat} (hp:p<n) (hc:c<n):GS w gR n ((W.setCell ⟨gR,p,none⟩ (.slice (some ⟨g c,0,none⟩) (n+1) (cp c))).setCell ⟨gR,c,none⟩ (.slice (some ⟨g p,0,none⟩) (n+1) (cp p))) (fun k=>g (gN p c k)) (fun k=>cp (gN p c k)) (ku R p c):=by
 have hlt:∀k,k<n->gN p c k<n:=fun k hk=>by unfold gN;split;exact hp;split;exact hc;exact hk
 have hsi:∀k l,gN p c k=gN p c l->k=l:=fun k l e=>by unfold gN at e;(repeat' split at e)<;>omega
 have hne:∀k,k<n->g k≠gR:=fun k hk=>h.out.ne (h.row k hk)
 refine ⟨?_,fun k hk=>((h.row _ (hlt k hk)).other (hne _ (hlt k hk))).other (hne _ (hlt k hk)),fun k hk=>h.lo _ (hlt k hk),fun k l hk hl e=>hsi k l (h.inj _ _ (hlt k hk) (hlt l hl) e),h.Qy,bR (bR h.mM h.Qy) h.Qy⟩
 obtain ⟨cs,h1,h2⟩:=(h.out.put hp (g c) (cp c)).put hc (g p) (cp p)
 refine ⟨cs,h1,fun k hk=>?_⟩
 rw [h2 k hk]
 show some (Value.slice (some ⟨if k=c then g p else if k=p then g c else g k,0,none⟩) (n+1) (if k=c then cp p else if k=p then cp c else cp k))=some (Value.slice (some ⟨g (gN p c k),0,none⟩) (n+1) (cp (gN p c k)))
 unfold gN
 by_cases e:k=c
 ·rw [if_pos e,if_pos e,if_pos e]
 ·rw [if_neg e,if_neg e,if_neg e]
  by_cases e2:k=p
  ·rw [if_pos e2,if_pos e2,if_pos e2]
  ·rw [if_neg e2,if_neg e2,if_neg e2]
end
theorem a1R (w:World):Kd.R wU 33 (w.alloc (.cells #[] 33)) w.heap.size (fun _=>True) (.slice (some ⟨w.heap.size,0,none⟩) 0 0) []:=
 ⟨fun _ _=>trivial,[],⟨rfl,.inr ⟨w.heap.size,0,#[],rfl,Nat.le_refl _,dn w _,Nat.le_refl _,by unfold maxLen;omega,rfl,rfl⟩⟩,dD.none _ _⟩
theorem a1S (w:World):Kd.R gY 34 (w.alloc (.cells #[] 34)) w.heap.size (fun _=>True) (.slice (some ⟨w.heap.size,0,none⟩) 0 0) []:=
 ⟨fun _ _=>trivial,[],⟨rfl,.inr ⟨w.heap.size,0,#[],rfl,Nat.le_refl _,dn w _,Nat.le_refl _,by unfold maxLen;omega,rfl,rfl⟩⟩,dD.none _ _⟩
theorem a1T {W:World} {base:Nat} {v:Value} {xs:List (Nat×Nat×Nat)} (h:Kd.R wU 33 W base (fun _=>True) v xs):∃B m d,v= .slice B m d:=by
 obtain ⟨B,d,e⟩:=Kd.gJ h
 exact ⟨B,_,d,e⟩
set_option maxHeartbeats 2000000 in
set_option maxRecDepth 100000 in
theorem Ws (A:Option Addr) (c0 n:Nat) (ch:List dz) (w:World) (hC:Kd.C mm w A ch.length ch) (hc:ch.length<=c0) (hn:ch.length=n) (hn1:0<n) (ud:n<=7)
 (hS:∀c R,c<n->gH n (iL ch n) c=some R->GOk n c R) (hE:∀R,gH n (iL ch n) n=some R->a9d n R)
 (hat:∀d,d∈ch->d.f0.length<=1048576/\∀x,x∈d.f0->0<=x/\x<(n:Int)):
 Calls Try.prog 84 #[.int .i64 (n:Int),.slice A ch.length c0] w (CJ w n (gH n (iL ch n) n)):=by
 have hu:=Try.underlying96
 have HC:=Aside0.mk hC
 have HN:=Aside0.mk hn
 have HAt:=Aside0.mk hat
 have Ug:=Aside0.mk hS
 have HEn:=Aside0.mk hE
 have HZ:Aside0 (∀W,Calls Try.prog 90 #[.int .i64 ((n:Int)+1)] W fun e w'=>∃g c,e= .returned (.slice (some ⟨g,0,none⟩) (n+1) c)/\W.heap.size<=g/\iz w' g n (fun _=>(0,1))/\Below W.heap.size W w'):=⟨a6y n (by omega)⟩
 have HB:=Aside0.mk (Below.refl w.heap.size w)
 have hw1:IntKind.i64.wrap ((n:Int)+1)=((n+1:Nat):Int):=by rw [dJ,cW (by omega) (by omega)];rfl
 rw [hn]
 rw [hn] at hc
 clear hC hat hn hS hE
 go_enter Try.func84,Try.ntmps84
 go_wp2
 have eu:=Aside0.mk (a1R w)
 have eN:Aside0 (Below w.heap.size w (w.alloc (.cells #[] 33))):=⟨aT (Below.refl _ _) _⟩
 generalize w.alloc (.cells #[] 33)=w0 at*
 go_loopw [6,23] (fun rv iv wr=>∃(i:Nat) (g cp:Nat->Nat),iv= .int .i64 (i:Int)/\i<=n/\Aside0 (Kd.R wU 33 wr w.heap.size (fun _=>True) rv ((List.range i).map (fun k=>(g k,n+1,cp k))))/\Aside0 (∀k,k<i->iz wr (g k) n (fun j=>qp (iL ch n k j))/\w.heap.size<=g k)/\Aside0 (∀k l,k<i->l<i->g k=g l->k=l)/\Aside0 (Below w.heap.size w wr)) (fun _ iv _=>n -(intOf iv).toNat)
 case atStart=>exact ⟨0,fun _=>0,fun _=>0,rfl,by omega,eu,⟨fun k hk=>by omega⟩,⟨fun k l hk=>by omega⟩,eN⟩
 case round=>
  clear eu eN
  obtain ⟨i,g,cp,rfl,hi,HO,Nn,Wt,cO⟩:=hrel
  by_cases hin:i<n
  ·have ue:=Aside0.mk hin
   have hic:i<ch.length:=by rw [HN.out];exact hin
   obtain ⟨ad,A1,c1,e,hx0,hx1,hx2,CK,rU⟩:=PU HC.out (i:Int) (by omega) (by omega)
   cases e
   have hd:tF ch (i:Int)=ch.getD i tE:=rfl
   have hmem:ch.getD i tE∈ch:=by
    have:ch.getD i tE=ch[i]:=by simp [List.getD_eq_getElem?_getD,hic]
    rw [this];exact List.getElem_mem hic
   have yX:=HAt.out _ hmem
   have a9e:∀j,iL ch n i j=if j=n then (((ch.getD i tE).f2:Int):Rat) else if (j:Int)∈(ch.getD i tE).f0 then 1 else 0:=fun j=>rfl
   rw [hd] at hx0 hx1 hx2 CK rU
   rw [Int.toNat_natCast] at hx0 hx1 hx2
   generalize ch.getD i tE=dd at*
   obtain ⟨jr,up,bd⟩:=dd
   dsimp only at*
   replace hx0:=(cO.out.cell (World.block_lt_of_cell? w _ hx0)).trans hx0
   replace hx1:=(cO.out.cell (World.block_lt_of_cell? w _ hx1)).trans hx1
   replace hx2:=(cO.out.cell (World.block_lt_of_cell? w _ hx2)).trans hx2
   have gb:=Aside0.mk rU
   have a9f:=Aside0.mk yX
   have b6R:=Aside0.mk a9e
   have g0:(0:Int)<=(i:Int):=by omega
   have g1:(i:Int)<(n:Int):=by omega
   have oB:decide ((i:Int)<(n:Int))=true:=decide_eq_true g1
   have mW:decide (i<n)=true:=decide_eq_true hin
   have fE:Aside0 (wrap64 ((i:Int)+1)=((i+1:Nat):Int)):=⟨dQ (by omega)⟩
   clear hin hi hic hmem yX a9e rU CK hd
   go_wp2_with (first|(go_at_call 90;(with_reducible refine (HZ.out _).mono ?_);rintro e w1 ⟨gz,cz,rfl,hgz,hrz,hbz⟩;have hba:Below wr.heap.size wr w1:=ah (aT (Below.refl _ _) _) hbz;have di:=Aside0.mk (ah cO.out hba);have Fb:=Aside0.mk (Kd.ig HO.out hba);have uz:Aside0 (∀k,k<i->iz w1 (g k) n (fun j=>qp (iL ch n k j))/\w.heap.size<=g k/\g k≠gz):=⟨fun k hk=>⟨(Nn.out k hk).1.below hba,(Nn.out k hk).2,by have h1:=(Nn.out k hk).1.lt;rw [qi] at hgz;omega⟩⟩;have yI:=Aside0.mk (aj (dn wr (.cells #[.slice A1 jr.length c1,.bool up,.int .i64 bd] 96)) hbz);have vS:=Aside0.mk hrz;have Qz:Aside0 (w.heap.size<=gz/\wr.heap.size<gz):=⟨by rw [qi] at hgz;have:=cO.out.size;omega⟩;have Fe:=(ag yI.out 0).trans rfl;clear hba hbz hgz hrz))
   have yH:Aside0 (wr.heap.size<w1.heap.size/\w.heap.size<=wr.heap.size):=⟨bf yI.out,cO.out.size⟩
   clear HO Nn cO hx0 hx1 hx2
   generalize wr.heap.size=g8 at*
   go_loopw [33] (fun kv wr=>∃k:Nat,kv= .int .i64 (k:Int)/\k<=jr.length/\Aside0 (iz wr gz n (fun j=>if (j:Int)∈jr.take k/\j<n then (1,1) else (0,1)))/\Aside0 (Kd.R wU 33 wr w.heap.size (fun _=>True) u6 ((List.range i).map (fun k=>(g k,n+1,cp k))))/\Aside0 (∀k,k<i->iz wr (g k) n (fun j=>qp (iL ch n k j))/\w.heap.size<=g k/\g k≠gz)/\Aside0 (wr.heap[g8]? =some (.cells #[.slice A1 jr.length c1,.bool up,.int .i64 bd] 96 (0,0)))/\Aside0 (Below w.heap.size w wr)) (fun kv _=>jr.length -(intOf kv).toNat)
   case atStart=>exact ⟨0,rfl,by omega,⟨vS.out.congr (fun j _=>by rw [if_neg (by simp)])⟩,Fb,uz,yI,di⟩
   case round=>
    clear vS Fb uz yI di Fe
    obtain ⟨k,rfl,hk,vS,Fb,uz,yI,di⟩:=hrel
    by_cases Np:k<jr.length
    ·have HKl:=Aside0.mk Np
     obtain ⟨Jc,e,hy⟩:=Kd.gL gb.out (k:Int) (by omega) (by omega)
     cases e
     have hxk:rd jr (k:Int)=jr[k]:=qh Np
     rw [hxk,Int.toNat_natCast] at hy
     obtain ⟨xn,hxn⟩:∃xn:Nat,jr[k]=(xn:Int)/\xn<n:=⟨(jr[k]).toNat,by have:=a9f.out.2 _ (List.getElem_mem Np);omega⟩
     have Nq:wr.cell? (Jc.add k)=some (.int .i64 (xn:Int)):=by rw [<-hxn.1];exact (di.out.cell (World.block_lt_of_cell? w _ hy)).trans hy
     have a1U:Aside0 (iz ((wr.setCell ⟨gz,xn*2,none⟩ (.int .i64 1)).setCell ⟨gz,xn*2+1,none⟩ (.int .i64 1)) gz n (fun j=>if (j:Int)∈jr.take (k+1)/\j<n then (1,1) else (0,1))):=⟨(vS.out.put (by omega) (1,1)).congr (fun j hj=>by
      rw [List.take_succ_eq_append_getElem Np,hxn.1]
      by_cases e:j=xn
      ·rw [if_pos e,if_pos ⟨by rw [e];simp,by omega⟩]
      ·rw [if_neg e]
       have:((j:Int)∈List.take k jr++[(xn:Int)])↔(j:Int)∈List.take k jr:=by
        rw [List.mem_append,List.mem_singleton]
        exact ⟨fun h=>h.resolve_right (by omega),fun h=> .inl h⟩
       by_cases e2:(j:Int)∈List.take k jr/\j<n
       ·rw [if_pos e2,if_pos ⟨this.2 e2.1,e2.2⟩]
       ·rw [if_neg e2,if_neg (fun h=>e2 ⟨this.1 h.1,h.2⟩)])⟩
     have hr1:=(vS.out.at (show xn<=n by omega)).1
     have hr2:=(vS.out.at (show xn<=n by omega)).2
     have hr3:=vS.out.frozen (xn*2)
     have hr4:=vS.out.frozen (xn*2+1)
     have g2:(0:Int)<=(k:Int):=by omega
     have g3:(k:Int)<(jr.length:Int):=by omega
     have g3d:decide ((k:Int)<(jr.length:Int))=true:=decide_eq_true g3
     have Nh:decide (k<jr.length)=true:=decide_eq_true Np
     have g4:(0:Int)<=(xn:Int):=by omega
     have g5:(xn:Int)<((n+1:Nat):Int):=by omega
     have g6:(xn:Int)<(n:Int)+1:=by omega
     have HKk:Aside0 (wrap64 ((k:Int)+1)=((k+1:Nat):Int)):=⟨dQ (by have:=a9f.out.1;omega)⟩
     have Jd:Aside0 (Kd.R wU 33 ((wr.setCell ⟨gz,xn*2,none⟩ (.int .i64 1)).setCell ⟨gz,xn*2+1,none⟩ (.int .i64 1)) w.heap.size (fun _=>True) u6 ((List.range i).map (fun k=>(g k,n+1,cp k)))):=⟨by
      obtain ⟨cs,hcs,a9j⟩:=vS.out
      exact Uf Fb.out hcs⟩
     have Wu:Aside0 (∀k,k<i->iz ((wr.setCell ⟨gz,xn*2,none⟩ (.int .i64 1)).setCell ⟨gz,xn*2+1,none⟩ (.int .i64 1)) (g k) n (fun j=>qp (iL ch n k j))/\w.heap.size<=g k/\g k≠gz):=⟨fun k hk=>⟨((uz.out k hk).1.other (uz.out k hk).2.2).other (uz.out k hk).2.2,(uz.out k hk).2⟩⟩
     have HX2:=Aside0.mk (bz (k:=xn*2+1) (v:= .int .i64 1) (bz (k:=xn*2) (v:= .int .i64 1) yI.out (show g8≠gz by have:=Qz.out;omega)) (show g8≠gz by have:=Qz.out;omega))
     have fQ:Aside0 (Below w.heap.size w ((wr.setCell ⟨gz,xn*2,none⟩ (.int .i64 1)).setCell ⟨gz,xn*2+1,none⟩ (.int .i64 1))):=⟨bR (bR di.out Qz.out.1) Qz.out.1⟩
     clear Np hk hxk hy hxn vS Fb uz yI di
     go_wp2
     go_roundw
     case rel=>exact ⟨k+1,by first|(rw [HKk.out];done)|rfl|(simp;done),HKl.out,a1U,Jd,Wu,HX2,fQ⟩
     case measure=>(try rw [HKk.out]);have:=HKl.out;simp [intOf];omega
    ·have a9l:k=jr.length:=by omega
     have g3d:decide ((k:Int)<(jr.length:Int))=false:=decide_eq_false (by omega)
     have Nh:decide (k<jr.length)=false:=decide_eq_false Np
     have hr1:=(vS.out.at (Nat.le_refl n)).1
     have hr2:=(vS.out.at (Nat.le_refl n)).2
     have hr3:=vS.out.frozen (n*2)
     have hr4:=vS.out.frozen (n*2+1)
     have hq2:=(ag yI.out 2).trans rfl
     have g4:(0:Int)<=(n:Int):=by omega
     have g6:(n:Int)<(n:Int)+1:=by omega
     have a1U:Aside0 (iz ((wr.setCell ⟨gz,n*2,none⟩ (.int .i64 bd)).setCell ⟨gz,n*2+1,none⟩ (.int .i64 1)) gz n (fun j=>qp (iL ch n i j))):=⟨(vS.out.put (Nat.le_refl n) (bd,1)).congr (fun j hj=>by
      rw [b6R.out]
      by_cases e:j=n
      ·rw [if_pos e,if_pos e];rfl
      ·rw [if_neg e,if_neg e,a9l,List.take_length]
       by_cases e2:(j:Int)∈jr
       ·rw [if_pos e2,if_pos ⟨e2,by omega⟩];rfl
       ·rw [if_neg e2,if_neg (fun h=>e2 h.1)];rfl)⟩
     have Jd:Aside0 (Kd.R wU 33 ((wr.setCell ⟨gz,n*2,none⟩ (.int .i64 bd)).setCell ⟨gz,n*2+1,none⟩ (.int .i64 1)) w.heap.size (fun _=>True) u6 ((List.range i).map (fun k=>(g k,n+1,cp k)))):=⟨by
      obtain ⟨cs,hcs,a9j⟩:=vS.out
      exact Uf Fb.out hcs⟩
     have Wu:Aside0 (∀k,k<i->iz ((wr.setCell ⟨gz,n*2,none⟩ (.int .i64 bd)).setCell ⟨gz,n*2+1,none⟩ (.int .i64 1)) (g k) n (fun j=>qp (iL ch n k j))/\w.heap.size<=g k/\g k≠gz):=⟨fun k hk=>⟨((uz.out k hk).1.other (uz.out k hk).2.2).other (uz.out k hk).2.2,(uz.out k hk).2⟩⟩
     have fQ:Aside0 (Below w.heap.size w ((wr.setCell ⟨gz,n*2,none⟩ (.int .i64 bd)).setCell ⟨gz,n*2+1,none⟩ (.int .i64 1))):=⟨bR (bR di.out Qz.out.1) Qz.out.1⟩
     have HHx:Aside0 ((wr.setCell ⟨gz,n*2,none⟩ (.int .i64 bd)).setCell ⟨gz,n*2+1,none⟩ (.int .i64 1)=(wr.setCell ⟨gz,n*2,none⟩ (.int .i64 bd)).setCell ⟨gz,n*2+1,none⟩ (.int .i64 1)):=⟨rfl⟩
     clear a9l Np hk vS Fb uz yI di
     go_wp2_with (first|((with_reducible refine gW (b:= .append) (xs:= #[.tmp 48,.tmp 50]) rfl ?_);at_builtin;refine Kd.mR wU (w0:=w) w.heap.size rfl _ _ 117 33 (.slice none 0 0) 24 rfl Try.underlying117 (by kernel_rfl) rfl (by decide) (by omega) u6 ((List.range i).map (fun k=>(g k,n+1,cp k))) (gz,n+1,cz) [.slice (some ⟨gz,0,none⟩) (n+1) cz] (fun _=>True) (fun _=>False) rfl (by first|rfl|exact congrArg (fun n=>Value.slice (some ⟨n,0,none⟩) 1 1) (Zn _ _ _ _ _).symm|(go_simp;done)|(go_simp;rfl)) rfl (fun _ hk=>hk.elim) (fun _ _=>trivial) Jd.out fQ.out fQ.out.size (by rw [List.length_map,List.length_range];have:=ue.out;omega) ?_;intro v1 w3 xS hb3 hg3 Bg;obtain ⟨B3,m3,d3,rfl⟩:=a1T xS;have HO3:=Aside0.mk xS;have xT:=Aside0.mk hb3;have a9m:=Aside0.mk (Jb a1U.out Jd.out hg3);have QA:Aside0 (∀k,k<i->iz w3 (g k) n (fun j=>qp (iL ch n k j))/\w.heap.size<=g k/\g k≠gz):=⟨fun k hk=>⟨Jb (Wu.out k hk).1 Jd.out hg3,(Wu.out k hk).2⟩⟩;clear xS hb3 hg3 Bg))
     have a4A:(List.range (i+1)).map (fun k=>((if k=i then gz else g k:Nat),n+1,(if k=i then cz else cp k:Nat)))=(List.range i).map (fun k=>(g k,n+1,cp k))++[(gz,n+1,cz)]:=by
      rw [List.range_succ,List.map_append,List.map_singleton,if_pos rfl,if_pos rfl]
      congr 1
      refine List.map_congr_left (fun k hk=>?_)
      have:=List.mem_range.1 hk
      rw [if_neg (by omega),if_neg (by omega)]
     have QB:Aside0 (Kd.R wU 33 w3 w.heap.size (fun _=>True) (.slice B3 m3 d3) ((List.range (i+1)).map (fun k=>((if k=i then gz else g k:Nat),n+1,(if k=i then cz else cp k:Nat))))):=⟨by rw [a4A];exact HO3.out⟩
     have b6S:Aside0 (∀k,k<i+1->iz w3 (if k=i then gz else g k) n (fun j=>qp (iL ch n k j))/\w.heap.size<=(if k=i then gz else g k)):=⟨fun k hk=>by
      by_cases e:k=i
      ·rw [if_pos e,e];exact ⟨a9m.out,Qz.out.1⟩
      ·rw [if_neg e];exact ⟨(QA.out k (by omega)).1,(QA.out k (by omega)).2.1⟩⟩
     have b2T:Aside0 (∀k l,k<i+1->l<i+1->(if k=i then gz else g k)=(if l=i then gz else g l)->k=l):=⟨fun k l hk hl h=>by
      by_cases e:k=i
      ·by_cases e2:l=i
       ·omega
       ·rw [if_pos e,if_neg e2] at h;exact absurd h.symm (QA.out l (by omega)).2.2
      ·by_cases e2:l=i
       ·rw [if_neg e,if_pos e2] at h;exact absurd h (QA.out k (by omega)).2.2
       ·rw [if_neg e,if_neg e2] at h;exact Wt.out k l (by omega) (by omega) h⟩
     clear a4A HO3 QA a9m
     go_roundw
     case rel=>exact ⟨i+1,_,_,by first|(rw [fE.out];done)|rfl|(simp;done),ue.out,QB,b6S,b2T,xT⟩
     case measure=>(try rw [fE.out]);have:=ue.out;simp [intOf];omega
  ·have Li:i=n:=by omega
   have oB:decide ((i:Int)<(n:Int))=false:=decide_eq_false (by omega)
   have mW:decide (i<n)=false:=decide_eq_false hin
   rw [Li] at HO Nn Wt
   clear Li hin hi
   obtain ⟨gR,cR,rfl,hgR,hOB⟩:=a6x hn1 HO.out
   have HOB:=Aside0.mk hOB
   have HGR:=Aside0.mk hgR
   clear hOB hgR HO
   have QD:Aside0 (GS w gR n wr g cp (iL ch n)):=⟨HOB.out,fun k hk=>(Nn.out k hk).1,fun k hk=>(Nn.out k hk).2,Wt.out,HGR.out,cO.out⟩
   clear HOB Nn Wt HGR cO
   go_wp2
   go_loopw [12] (fun cv wr=>∃(c:Nat) (R:Nat->Nat->Rat) (g cp:Nat->Nat),cv= .int .i64 (c:Int)/\c<=n/\Aside0 (gH n (iL ch n) c=some R)/\Aside0 (GS w gR n wr g cp R)) (fun cv _=>n -(intOf cv).toNat)
   case atStart=>exact ⟨0,_,g,cp,rfl,by omega,⟨rfl⟩,QD⟩
   case round=>
    clear QD
    obtain ⟨c,R,g,cp,rfl,Nr,HR,HG⟩:=hrel
    by_cases hc:c<n
    ·have mo:=Aside0.mk hc
     have sZ:=Aside0.mk (Ug.out c R hc HR.out)
     have c0':(0:Int)<=(c:Int):=by omega
     have c1':(c:Int)<(n:Int):=by omega
     have Zo:decide ((c:Int)<(n:Int))=true:=decide_eq_true c1'
     have c1n:decide (c<n)=true:=decide_eq_true hc
     have c2':(c:Int)<(n:Int)+1:=by omega
     have yJ:Aside0 (wrap64 ((c:Int)+1)=((c+1:Nat):Int)):=⟨dQ (by omega)⟩
     clear hc Nr
     go_wp2
     go_loopw [13] (fun pv wr=>∃p:Nat,pv= .int .i64 (p:Int)/\p<=n/\Aside0 (c<=p/\∀i,c<=i->i<p->R i c=0)/\Aside0 (GS w gR n wr g cp R)) (fun pv _=>n -(intOf pv).toNat)
     case atStart=>exact ⟨c,rfl,by have:=mo.out;omega,⟨Nat.le_refl _,fun i h1 h2=>by omega⟩,HG⟩
     case round=>
      clear HG
      obtain ⟨p,rfl,QE,HP,HG⟩:=hrel
      by_cases hp:p<n
      ·have QF:=Aside0.mk hp
       have p0:(0:Int)<=(p:Int):=by omega
       have p1:(p:Int)<(n:Int):=by omega
       have p1d:decide ((p:Int)<(n:Int))=true:=decide_eq_true p1
       have p1n:decide (p<n)=true:=decide_eq_true hp
       have p2:((p:Int)==(n:Int))=false:=beq_eq_false_iff_ne.mpr (by omega)
       have p2n:(p==n)=false:=beq_eq_false_iff_ne.mpr (by omega)
       have hx1:=HG.out.out.at hp
       have hx2:=((HG.out.row p hp).at (Nat.le_of_lt mo.out)).1
       have HKp:Aside0 (wrap64 ((p:Int)+1)=((p+1:Nat):Int)):=⟨dQ (by omega)⟩
       by_cases hz:R p c=0
       ·have e1:((R p c).num==0)=true:=by rw [Lp.sign_zero.2 hz];rfl
        have xR:Aside0 (c<=p+1/\∀i,c<=i->i<p+1->R i c=0):=⟨by have:=HP.out.1;omega,fun i h1 h2=>by
         by_cases e:i=p
         ·rw [e];exact hz
         ·exact HP.out.2 i h1 (by omega)⟩
        clear hz hp QE p2 p2n
        go_wp2
        go_roundw
        case rel=>exact ⟨p+1,by first|(rw [HKp.out];done)|rfl|(simp;done),QF.out,xR,HG⟩
        case measure=>(try rw [HKp.out]);have:=QF.out;simp [intOf];omega
       ·have e1:((R p c).num==0)=false:=beq_eq_false_iff_ne.mpr (fun h=>hz (Lp.sign_zero.1 h))
        have Zp:jA R c c (n - c)=p:=Qx (n - c) c p HP.out.1 (by omega) HP.out.2 (.inr hz)
        have Uh:=Aside0.mk Zp
        have hx3:=HG.out.out.at mo.out
        have pW:=HG.out.out.frozen p
        have EW:(wr.setCell ⟨gR,p,none⟩ (.slice (some ⟨g c,0,none⟩) (n+1) (cp c))).cell? ⟨gR,c,none⟩=some (if c=p then .slice (some ⟨g c,0,none⟩) (n+1) (cp c) else .slice (some ⟨g c,0,none⟩) (n+1) (cp c)):=by
         have:=(HG.out.out.put hp (g c) (cp c)).at mo.out
         rw [this]
         by_cases e:c=p
         ·rw [if_pos e,if_pos e,if_pos e]
         ·rw [if_neg e,if_neg e,if_neg e]
        rw [ite_self] at EW
        have hf2:=(HG.out.out.put hp (g c) (cp c)).frozen c
        have Ui:=Aside0.mk (HG.out.swap hp mo.out)
        clear hz hp QE Zp HP
        go_wp2
        generalize (wr.setCell ⟨gR,p,none⟩ (.slice (some ⟨g c,0,none⟩) (n+1) (cp c))).setCell ⟨gR,c,none⟩ (.slice (some ⟨g p,0,none⟩) (n+1) (cp p))=w5 at*
        have hok:=sZ.out
        have HGJ:=Aside0.mk (a6B HR.out (by rw [Uh.out];exact QF.out))
        rw [Uh.out] at HGJ
        have BP:Aside0 (∀r,r<n->r≠c->Sz 2822400 2822400 (ku R p c r c/ku R p c c c)):=⟨by have:=hok.f;rw [Uh.out] at this;exact this QF.out⟩
        have Qv:Aside0 (∀r j,r<n->r≠c->j<=n->Sz 4741632000 4741632000 (ku R p c r c/ku R p c c c*ku R p c c j)):=⟨by have:=hok.pr;rw [Uh.out] at this;exact this QF.out⟩
        have Ud:Aside0 (∀i j,i<n->j<=n->Sz 2822400 2822400 (ku R p c i j)):=⟨fun i j hi hj=>hok.sz _ j (by unfold gN;have:=QF.out;have:=mo.out;(repeat' split)<;>omega) hj⟩
        have Ff:Aside0 (ku R p c c c≠0):=⟨by
         have h:=Ja R c (n - c) c (by rw [Uh.out];have:=QF.out;have:=mo.out;omega)
         rw [Uh.out] at h
         show R (gN p c c) c≠0
         unfold gN;rw [if_pos rfl];exact h⟩
        clear hok hx1 hx2 hx3 EW pW hf2 HG sZ
        generalize (fun k=>g (gN p c k))=g1 at*
        generalize (fun k=>cp (gN p c k))=ql at*
        generalize ku R p c=R1 at*
        have vQ:Aside0 (GS w gR n w5 g1 ql (fun k l=>if k<0 then fO R1 c k l else R1 k l)):=⟨Ui.out.congr (fun k l _ _=>by rw [if_neg (by omega)])⟩
        clear Ui
        go_loopw [95] (fun rv wr=>∃r:Nat,rv= .int .i64 (r:Int)/\r<=n/\Aside0 (GS w gR n wr g1 ql (fun k l=>if k<r then fO R1 c k l else R1 k l))) (fun rv _=>n -(intOf rv).toNat)
        case atStart=>exact ⟨0,rfl,by omega,vQ⟩
        case round=>
         clear vQ
         obtain ⟨r,rfl,hrn,HG⟩:=hrel
         by_cases hr:r<n
         ·have wV:=Aside0.mk hr
          have r0:(0:Int)<=(r:Int):=by omega
          have r1:(r:Int)<(n:Int):=by omega
          have r1d:decide ((r:Int)<(n:Int))=true:=decide_eq_true r1
          have r1n:decide (r<n)=true:=decide_eq_true hr
          have lS:Aside0 (wrap64 ((r:Int)+1)=((r+1:Nat):Int)):=⟨dQ (by omega)⟩
          have hx1:=HG.out.out.at hr
          have hv1:∀l,(if r<r then fO R1 c r l else R1 r l)=R1 r l:=fun l=>if_neg (by omega)
          have hx2:=((HG.out.row r hr).at (Nat.le_of_lt mo.out)).1
          simp only [hv1] at hx2
          by_cases hrc:r=c
          ·have Ui:Aside0 (GS w gR n wr g1 ql (fun k l=>if k<r+1 then fO R1 c k l else R1 k l)):=⟨HG.out.congr (fun k l _ _=>by
            by_cases e:k=r
            ·rw [if_pos (by omega),if_neg (by omega)];unfold fO;rw [if_pos (by omega)]
            ·by_cases e2:k<r
             ·rw [if_pos (by omega),if_pos e2]
             ·rw [if_neg (by omega),if_neg e2])⟩
           have e0:((r:Int)==(c:Int))=true:=by rw [hrc];simp
           have e0n:(r==c)=true:=by rw [hrc];simp
           have QG:=Aside0.mk hrc
           clear hrc hr hrn HG hv1
           go_wp2
           go_roundw
           case rel=>exact ⟨r+1,by first|(rw [lS.out];done)|rfl|(simp;done)|(rw [QG.out];first|rfl|(simp;done)),wV.out,Ui⟩
           case measure=>(try rw [lS.out]);have:=wV.out;simp [intOf];omega
          ·have e0:((r:Int)==(c:Int))=false:=beq_eq_false_iff_ne.mpr (by omega)
           have e0n:(r==c)=false:=beq_eq_false_iff_ne.mpr hrc
           have QG:=Aside0.mk hrc
           by_cases hz:R1 r c=0
           ·have e1:((R1 r c).num==0)=true:=by rw [Lp.sign_zero.2 hz];rfl
            have Ui:Aside0 (GS w gR n wr g1 ql (fun k l=>if k<r+1 then fO R1 c k l else R1 k l)):=⟨HG.out.congr (fun k l _ _=>by
             by_cases e:k=r
             ·rw [if_pos (by omega),if_neg (by omega),e];unfold fO
              split
              ·rfl
              ·rw [hz];grind
             ·by_cases e2:k<r
              ·rw [if_pos (by omega),if_pos e2]
              ·rw [if_neg (by omega),if_neg e2])⟩
            clear hrc hr hrn HG hv1 hz
            go_wp2
            go_roundw
            case rel=>exact ⟨r+1,by first|(rw [lS.out];done)|rfl|(simp;done),wV.out,Ui⟩
            case measure=>(try rw [lS.out]);have:=wV.out;simp [intOf];omega
           ·have e1:((R1 r c).num==0)=false:=beq_eq_false_iff_ne.mpr (fun h=>hz (Lp.sign_zero.1 h))
            have hcc:∀l,(if c<r then fO R1 c c l else R1 c l)=R1 c l:=fun l=>by
             by_cases e:c<r
             ·rw [if_pos e];unfold fO;rw [if_pos (Or.inl rfl)]
             ·rw [if_neg e]
            have HVc:=Aside0.mk hcc
            have HVr:=Aside0.mk hv1
            have Zq:=Aside0.mk (fun W=>Ue W (Ud.out r c hr (Nat.le_of_lt mo.out)) (Ud.out c c mo.out (Nat.le_of_lt mo.out)) (by omega) (by omega) Ff.out)
            have HS:Aside0 (∀W,GS w gR n W g1 ql (fun k l=>if k<r then fO R1 c k l else R1 k l)->W.cell? ⟨gR,r,none⟩=some (.slice (some ⟨g1 r,0,none⟩) (n+1) (ql r))/\W.cell? ⟨g1 r,c*2,none⟩=some (.int .i64 (R1 r c).num)/\W.cell? ⟨g1 r,c*2+1,none⟩=some (.int .i64 ((R1 r c).den:Int))/\W.cell? ⟨gR,c,none⟩=some (.slice (some ⟨g1 c,0,none⟩) (n+1) (ql c))/\W.cell? ⟨g1 c,c*2,none⟩=some (.int .i64 (R1 c c).num)/\W.cell? ⟨g1 c,c*2+1,none⟩=some (.int .i64 ((R1 c c).den:Int))):=⟨fun W h=>by
             have a1:=(h.row r hr).at (Nat.le_of_lt mo.out)
             have a2:=(h.row c mo.out).at (Nat.le_of_lt mo.out)
             simp only [hv1] at a1
             simp only [hcc] at a2
             exact ⟨h.out.at hr,a1.1,a1.2,h.out.at mo.out,a2.1,a2.2⟩⟩
            clear hrc hr hrn hz hv1 hcc
            go_wp2
            clear hx1 hx2
            go_cut [16] from 112 to 126 (fun s_ wx=>∃g16,s_= .pointer (some ⟨g16,0,none⟩)/\Aside0 (GS w gR n wx g1 ql (fun k l=>if k<r then fO R1 c k l else R1 k l))/\Aside0 (wx.heap[g16]? =some (.cells #[.int .i64 (R1 r c/R1 c c).num,.int .i64 ((R1 r c/R1 c c).den:Int)] 34 (0,0)))/\Aside0 (w.heap.size<=g16/\∀k,k<n->g1 k≠g16))
            case first=>
             have pX:Aside0 (w.heap.size<=wr.heap.size/\gR<wr.heap.size/\∀k,k<n->g1 k<wr.heap.size):=⟨HG.out.mM.size,HG.out.out.lt,fun k hk=>(HG.out.row k hk).lt⟩
             have HSd:=Aside0.mk (HS.out _ (HG.out.below (aI (Below.refl _ _))))
             have HSa:=Aside0.mk (fun o=>HS.out _ (HG.out.below (aT (aI (Below.refl _ _)) o)))
             go_region_held3 (fun w'=>w'.cell? ⟨gR,r,none⟩=some (.slice (some ⟨g1 r,0,none⟩) (n+1) (ql r))/\w'.cell? ⟨g1 r,c*2,none⟩=some (.int .i64 (R1 r c).num)/\w'.cell? ⟨g1 r,c*2+1,none⟩=some (.int .i64 ((R1 r c).den:Int))/\w'.cell? ⟨gR,c,none⟩=some (.slice (some ⟨g1 c,0,none⟩) (n+1) (ql c))/\w'.cell? ⟨g1 c,c*2,none⟩=some (.int .i64 (R1 c c).num)/\w'.cell? ⟨g1 c,c*2+1,none⟩=some (.int .i64 ((R1 c c).den:Int))) (first|(with_reducible exact EU.out)|(with_reducible exact b6T.out _)|(with_reducible exact b6U.out _ _)|(with_reducible exact b6V.out _ _ _ _)|exact HSd.out|exact HSa.out _) (first|(go_at_call 91;(with_reducible refine (Zq.out _).mono ?_);rintro e w1 ⟨rfl,hb1⟩;(first|(have wW:Aside0 (w1.heap[wr.heap.size]? =some (.cells #[.int .i64 0,.int .i64 0] 34 (0,0))):=⟨aj (dn wr.drew (.cells #[.int .i64 0,.int .i64 0] 34)) hb1⟩;have hz0:w1.cell? ⟨wr.heap.size,0,none⟩=some (.int .i64 0):=(ag wW.out 0).trans rfl;have hz1:w1.cell? ⟨wr.heap.size,1,none⟩=some (.int .i64 0):=(ag wW.out 1).trans rfl;have hz2:=af wW.out 0;have hz3:=af wW.out 1;have hb2:Below wr.heap.size wr w1:=ah (aT (aI (Below.refl _ _)) _) hb1)|(have hb2:Below wr.heap.size wr w1:=ah (aI (Below.refl _ _)) hb1));have QH:=Aside0.mk (HG.out.below hb2);have EU:=Aside0.mk (HS.out _ QH.out);have b6T:=Aside0.mk (fun o=>HS.out _ (QH.out.below (aT (Below.refl _ _) o)));have HGp:Aside0 (∀k v,GS w gR n (w1.setCell ⟨wr.heap.size,k,none⟩ v) g1 ql (fun k l=>if k<r then fO R1 c k l else R1 k l)):=⟨fun k v=>QH.out.far (Nat.ne_of_lt pX.out.2.1) (fun l hl=>Nat.ne_of_lt (pX.out.2.2 l hl)) pX.out.1 k v⟩;have b6U:=Aside0.mk (fun k v=>HS.out _ (HGp.out k v));have b6V:=Aside0.mk (fun k v k' v'=>HS.out _ ((HGp.out k v).far (Nat.ne_of_lt pX.out.2.1) (fun l hl=>Nat.ne_of_lt (pX.out.2.2 l hl)) pX.out.1 k' v'));have HWt:Aside0 (wr.heap.size<=w1.heap.size):=⟨hb2.size⟩;clear hb2 hb1))
             all_goals
              go_wp2_with fail
              go_meet
              case rel=>first|exact ⟨_,rfl,⟨QH.out.below (aT (Below.refl _ _) _)⟩,⟨dn _ _⟩,⟨by have h1:=pX.out.1;have h2:=HWt.out;omega,fun k hk=>by have h1:=pX.out.2.2 k hk;have h2:=HWt.out;omega⟩⟩|exact ⟨_,rfl,⟨(HGp.out 0 _).far (Nat.ne_of_lt pX.out.2.1) (fun l hl=>Nat.ne_of_lt (pX.out.2.2 l hl)) pX.out.1 1 _⟩,⟨bh (bh wW.out 0 (.int .i64 (R1 r c/R1 c c).num) (cs':= #[.int .i64 (R1 r c/R1 c c).num,.int .i64 0]) rfl) 1 (.int .i64 ((R1 r c/R1 c c).den:Int)) (cs':= #[.int .i64 (R1 r c/R1 c c).num,.int .i64 ((R1 r c/R1 c c).den:Int)]) rfl⟩,⟨pX.out.1,fun k hk=>Nat.ne_of_lt (pX.out.2.2 k hk)⟩⟩
            case rest=>
            obtain ⟨g16,rfl,HG6,HX6,HN6⟩:=hcut
            clear HG HS Zq
            generalize wc=w6 at*
            have HF:=Aside0.mk (BP.out r wV.out QG.out)
            have HJ0:Aside0 (GS w gR n w6 g1 ql (fun k l=>if k<r then fO R1 c k l else if k=r/\l<c then fO R1 c r l else R1 k l)):=⟨HG6.out.congr (fun k l _ _=>by
             by_cases e:k<r
             ·rw [if_pos e,if_pos e]
             ·rw [if_neg e,if_neg e]
              by_cases e2:k=r/\l<c
              ·rw [if_pos e2,e2.1];unfold fO;rw [if_pos (Or.inr e2.2)]
              ·rw [if_neg e2])⟩
            clear HG6
            go_wp2
            go_loopw [17] (fun jv wr=>∃j:Nat,jv= .int .i64 (j:Int)/\c<=j/\j<=n+1/\Aside0 (GS w gR n wr g1 ql (fun k l=>if k<r then fO R1 c k l else if k=r/\l<j then fO R1 c r l else R1 k l))/\Aside0 (wr.heap[g16]? =some (.cells #[.int .i64 (R1 r c/R1 c c).num,.int .i64 ((R1 r c/R1 c c).den:Int)] 34 (0,0)))) (fun jv _=>n+1 -(intOf jv).toNat)
            case atStart=>exact ⟨c,rfl,Nat.le_refl _,by have:=mo.out;omega,HJ0,HX6⟩
            case round=>
             clear HJ0 HX6
             obtain ⟨j,rfl,hcj,hjn,HG,HX⟩:=hrel
             by_cases hj:j<=n
             ·have Je:=Aside0.mk hj
              have HCj:=Aside0.mk hcj
              have j0:(0:Int)<=(j:Int):=by omega
              have j1:(j:Int)<=(n:Int):=by omega
              have j1d:decide ((j:Int)<=(n:Int))=true:=decide_eq_true j1
              have j1n:decide (j<=n)=true:=decide_eq_true hj
              have j2:(j:Int)<(n:Int)+1:=by omega
              have rL:Aside0 (wrap64 ((j:Int)+1)=((j+1:Nat):Int)):=⟨dQ (by omega)⟩
              have Zr:(if r<r then fO R1 c r j else if r=r/\j<j then fO R1 c r j else R1 r j)=R1 r j:=by rw [if_neg (by omega),if_neg (by omega)]
              have hcc:(if c<r then fO R1 c c j else if c=r/\j<j then fO R1 c r j else R1 c j)=R1 c j:=by
               by_cases e:c<r
               ·rw [if_pos e];unfold fO;rw [if_pos (Or.inl rfl)]
               ·rw [if_neg e,if_neg (by omega)]
              have HS:Aside0 (∀W,GS w gR n W g1 ql (fun k l=>if k<r then fO R1 c k l else if k=r/\l<j then fO R1 c r l else R1 k l)->W.heap[g16]? =some (.cells #[.int .i64 (R1 r c/R1 c c).num,.int .i64 ((R1 r c/R1 c c).den:Int)] 34 (0,0))->W.cell? ⟨gR,r,none⟩=some (.slice (some ⟨g1 r,0,none⟩) (n+1) (ql r))/\W.cell? ⟨g1 r,j*2,none⟩=some (.int .i64 (R1 r j).num)/\W.cell? ⟨g1 r,j*2+1,none⟩=some (.int .i64 ((R1 r j).den:Int))/\W.cell? ⟨gR,c,none⟩=some (.slice (some ⟨g1 c,0,none⟩) (n+1) (ql c))/\W.cell? ⟨g1 c,j*2,none⟩=some (.int .i64 (R1 c j).num)/\W.cell? ⟨g1 c,j*2+1,none⟩=some (.int .i64 ((R1 c j).den:Int))/\W.cell? ⟨g16,0,none⟩=some (.int .i64 (R1 r c/R1 c c).num)/\W.cell? ⟨g16,1,none⟩=some (.int .i64 ((R1 r c/R1 c c).den:Int))):=⟨fun W h hx=>by
               have a1:W.cell? ⟨g1 r,j*2,none⟩=some (.int .i64 (R1 r j).num)/\W.cell? ⟨g1 r,j*2+1,none⟩=some (.int .i64 ((R1 r j).den:Int)):=by
                have t:=(h.row r wV.out).at hj
                rw [<-Zr];exact t
               have a2:W.cell? ⟨g1 c,j*2,none⟩=some (.int .i64 (R1 c j).num)/\W.cell? ⟨g1 c,j*2+1,none⟩=some (.int .i64 ((R1 c j).den:Int)):=by
                have t:=(h.row c mo.out).at hj
                rw [<-hcc];exact t
               exact ⟨h.out.at wV.out,a1.1,a1.2,h.out.at mo.out,a2.1,a2.2,(ag hx 0).trans rfl,(ag hx 1).trans rfl⟩⟩
              have Zg:=Aside0.mk (fun W=>a1O W HF.out (Ud.out c j mo.out hj) (by omega) (by omega))
              have qH:=Aside0.mk (fun W=>a1P W (Ud.out r j wV.out hj) (Qv.out r j wV.out QG.out hj) (by omega) (by omega))
              have HEq:Aside0 (∀W,GS w gR n W g1 ql (fun k l=>if k=r/\l=j then R1 r j - R1 r c/R1 c c*R1 c j else if k<r then fO R1 c k l else if k=r/\l<j then fO R1 c r l else R1 k l)->GS w gR n W g1 ql (fun k l=>if k<r then fO R1 c k l else if k=r/\l<j+1 then fO R1 c r l else R1 k l)):=⟨fun W h=>h.congr (fun k l _ _=>by
               by_cases e:k=r/\l=j
               ·rw [if_pos e,if_neg (by omega),if_pos (by omega)];unfold fO;rw [if_neg (by have:=QG.out;omega),e.2]
               ·rw [if_neg e]
                by_cases e1:k<r
                ·rw [if_pos e1,if_pos e1]
                ·rw [if_neg e1,if_neg e1]
                 by_cases e2:k=r/\l<j
                 ·rw [if_pos e2,if_pos (by omega)]
                 ·rw [if_neg e2,if_neg (by omega)])⟩
              clear hj hcj hjn Zr hcc
              go_wp2
              have HG':=Aside0.mk (HG.out.below (aI (Below.refl _ _)))
              have Uj:=Aside0.mk (ak HX.out)
              clear HG HX
              obtain ⟨h1,h2,h3,h4,h5,h6,h7,h8⟩:=HS.out _ HG'.out Uj.out
              refine fL (n:=24) (S:=fun w'=>w'.cell? ⟨gR,r,none⟩=some (.slice (some ⟨g1 r,0,none⟩) (n+1) (ql r))/\w'.cell? ⟨g1 r,j*2,none⟩=some (.int .i64 (R1 r j).num)/\w'.cell? ⟨g1 r,j*2+1,none⟩=some (.int .i64 ((R1 r j).den:Int))/\w'.cell? ⟨gR,c,none⟩=some (.slice (some ⟨g1 c,0,none⟩) (n+1) (ql c))/\w'.cell? ⟨g1 c,j*2,none⟩=some (.int .i64 (R1 c j).num)/\w'.cell? ⟨g1 c,j*2+1,none⟩=some (.int .i64 ((R1 c j).den:Int))/\w'.cell? ⟨g16,0,none⟩=some (.int .i64 (R1 r c/R1 c c).num)/\w'.cell? ⟨g16,1,none⟩=some (.int .i64 ((R1 r c/R1 c c).den:Int))) (ds:=[23]) #[false,false,false,false,false,false,false,false,false,false,false,false,false,false,false,false,false,false,false,false,false,false,false,false] (by kernel_rfl) rfl rfl ⟨h1,h2,h3,h4,h5,h6,h7,h8⟩ (fun hHeld=>?_)
              generalize wr.drew=w7 at*
              refine bl (i:=0) (N:=some 133) ?_
              refine bl (i:=1) (N:=some 134) ?_
              refine bl (i:=2) (N:=some 135) ?_
              refine dS (i:=3) (N:=some 136) (v:=?_) (a':=?_) #[true,true,true,true,false,false,false,false,false,false,false,false,false,false,false,false,false,false,false,false,false,false,false,false] rfl rfl (by kernel_rfl) (fun _ _ _ h=>h) (Or.inl ⟨by rfl,?_⟩) hHeld ?_ ?_
              rotate_left
              ·rintro w' ⟨s0,s1,s2,s3,s4,s5,s6,s7⟩
               go_simp
               with_reducible rfl
              rotate_left
              ·exact fj
              refine bl (i:=4) (N:=some 137) ?_
              refine bl (i:=5) (N:=some 138) ?_
              refine bl (i:=6) (N:=some 139) ?_
              refine bl (i:=7) (N:=some 140) ?_
              refine dS (i:=8) (N:=some 141) (v:=?_) (a':=?_) #[true,true,true,true,true,true,true,true,true,false,false,false,false,false,false,false,false,false,false,false,false,false,false,false] rfl rfl (by kernel_rfl) (fun _ _ _ h=>h) (Or.inl ⟨by rfl,?_⟩) hHeld ?_ ?_
              rotate_left
              ·rintro w' ⟨s0,s1,s2,s3,s4,s5,s6,s7⟩
               go_simp
               with_reducible rfl
              rotate_left
              ·exact fj
              refine bl (i:=9) (N:=some 142) ?_
              refine bl (i:=10) (N:=some 143) ?_
              refine dS (i:=11) (N:=some 144) (v:=?_) (a':=?_) #[true,true,true,true,true,true,true,true,true,true,true,true,false,false,false,false,false,false,false,false,false,false,false,false] rfl rfl (by kernel_rfl) (fun _ _ _ h=>h) (Or.inl ⟨by rfl,?_⟩) hHeld ?_ ?_
              rotate_left
              ·rintro w' ⟨s0,s1,s2,s3,s4,s5,s6,s7⟩
               go_simp
               with_reducible rfl
              rotate_left
              ·exact fj
              refine dS (i:=12) (N:=some 145) (v:=?_) (a':=?_) #[true,true,true,true,true,true,true,true,true,true,true,true,true,false,false,false,false,false,false,false,false,false,false,false] rfl rfl (by kernel_rfl) (fun _ _ _ h=>h) (Or.inl ⟨by rfl,?_⟩) hHeld ?_ ?_
              rotate_left
              ·rintro w' ⟨s0,s1,s2,s3,s4,s5,s6,s7⟩
               go_simp
               with_reducible rfl
              rotate_left
              ·exact fj
              refine bl (i:=13) (N:=some 146) ?_
              refine bl (i:=14) (N:=some 147) ?_
              refine bl (i:=15) (N:=some 148) ?_
              refine dS (i:=16) (N:=some 149) (v:=?_) (a':=?_) #[true,true,true,true,true,true,true,true,true,true,true,true,true,true,true,true,true,false,false,false,false,false,false,false] rfl rfl (by kernel_rfl) (fun _ _ _ h=>h) (Or.inl ⟨by rfl,?_⟩) hHeld ?_ ?_
              rotate_left
              ·rintro w' ⟨s0,s1,s2,s3,s4,s5,s6,s7⟩
               go_simp
               with_reducible rfl
              rotate_left
              ·exact fj
              refine bl (i:=17) (N:=some 150) ?_
              refine bl (i:=18) (N:=some 151) ?_
              refine dS (i:=19) (N:=some 152) (v:=?_) (a':=?_) #[true,true,true,true,true,true,true,true,true,true,true,true,true,true,true,true,true,true,true,true,false,false,false,false] rfl rfl (by kernel_rfl) (fun _ _ _ h=>h) (Or.inl ⟨by rfl,?_⟩) hHeld ?_ ?_
              rotate_left
              ·rintro w' ⟨s0,s1,s2,s3,s4,s5,s6,s7⟩
               go_simp
               with_reducible rfl
              rotate_left
              ·exact fj
              refine gj (i:=20) (N:=some 153) #[true,true,true,true,true,true,true,true,true,true,true,true,true,true,true,true,true,true,true,true,true,false,false,false] rfl rfl (by kernel_rfl) (by decide) (fun K hK=>?_)
              refine tu 93 #[V (R1 r c/R1 c c),V (R1 c j)] (by rfl) rfl ?_ ?_
              ·go_simp
              refine (Zg.out _).mono ?_
              rintro e w8 ⟨rfl,ni⟩
              have Ns:=Aside0.mk (HG'.out.below ni)
              have th:=Aside0.mk (aj Uj.out ni)
              clear ni HG' Uj h1 h2 h3 h4 h5 h6 h7 h8 Zg
              refine ⟨_,rfl,?_⟩
              refine hK.out _ _ (HS.out _ Ns.out th.out) (fun hHeld=>?_)
              clear hK K hHeld
              refine fq (a':=?_) ?_ ?_
              rotate_left
              ·show Act.put _ (some 153) _=_
               simp only [Act.put,List.setIfInBounds_toArray,List.set_cons_zero,List.set_cons_succ,dJ,eD]
               rfl
              refine gj (i:=21) (N:=some 154) #[true,true,true,true,true,true,true,true,true,true,true,true,true,true,true,true,true,true,true,true,true,true,false,false] rfl rfl (by kernel_rfl) (by decide) (fun K hK=>?_)
              refine tu 92 #[V (R1 r j),V (R1 r c/R1 c c*R1 c j)] (by rfl) rfl ?_ ?_
              ·go_simp
              refine (qH.out _).mono ?_
              rintro e w9 ⟨rfl,Jf⟩
              have BQ:=Aside0.mk (Ns.out.below Jf)
              have Nt:=Aside0.mk (aj th.out Jf)
              clear Jf Ns th qH
              refine ⟨_,rfl,?_⟩
              refine hK.out _ _ (HS.out _ BQ.out Nt.out) (fun hHeld=>?_)
              clear hK K hHeld
              refine fq (a':=?_) ?_ ?_
              rotate_left
              ·show Act.put _ (some 154) _=_
               simp only [Act.put,List.setIfInBounds_toArray,List.set_cons_zero,List.set_cons_succ,dJ,eD]
               rfl
              refine bl (i:=22) (N:=some 155) ?_
              refine rf (i:=23) (N:=none) #[true,true,true,true,true,true,true,true,true,true,true,true,true,true,true,true,true,true,true,true,true,true,true,true] rfl rfl (by kernel_rfl) (by decide) (fun K hK=>?_)
              obtain ⟨h1,h2,h3,h4,h5,h6,h7,h8⟩:=HS.out _ BQ.out Nt.out
              have pW:=(BQ.out.row r wV.out).frozen (j*2)
              have hf2:=(BQ.out.row r wV.out).frozen (j*2+1)
              refine lO (w1:=?_) (by rfl) rfl ?_ ?_
              rotate_left
              ·go_simp
               rfl
              refine hK.out _ _ ?_
              clear hK K
              refine gU (by kernel_rfl) ?_
              have HGA:Aside0 (GS w gR n ((w9.setCell ⟨g1 r,j*2,none⟩ (.int .i64 (R1 r j - R1 r c/R1 c c*R1 c j).num)).setCell ⟨g1 r,j*2+1,none⟩ (.int .i64 ((R1 r j - R1 r c/R1 c c*R1 c j).den:Int))) g1 ql (fun k l=>if k<r then fO R1 c k l else if k=r/\l<j+1 then fO R1 c r l else R1 k l)):=⟨HEq.out _ (BQ.out.put wV.out Je.out (R1 r j - R1 r c/R1 c c*R1 c j))⟩
              have HXA:Aside0 (((w9.setCell ⟨g1 r,j*2,none⟩ (.int .i64 (R1 r j - R1 r c/R1 c c*R1 c j).num)).setCell ⟨g1 r,j*2+1,none⟩ (.int .i64 ((R1 r j - R1 r c/R1 c c*R1 c j).den:Int))).heap[g16]? =some (.cells #[.int .i64 (R1 r c/R1 c c).num,.int .i64 ((R1 r c/R1 c c).den:Int)] 34 (0,0))):=⟨bz (bz Nt.out (Ne.symm (HN6.out.2 r wV.out))) (Ne.symm (HN6.out.2 r wV.out))⟩
              clear BQ Nt h1 h2 h3 h4 h5 h6 h7 h8 pW hf2 HS HEq
              generalize ((w9.setCell ⟨g1 r,j*2,none⟩ (.int .i64 (R1 r j - R1 r c/R1 c c*R1 c j).num)).setCell ⟨g1 r,j*2+1,none⟩ (.int .i64 ((R1 r j - R1 r c/R1 c c*R1 c j).den:Int)))=wA at*
              go_wp2
              go_roundw
              case rel=>exact ⟨j+1,by first|(rw [rL.out];done)|rfl|(simp;done),by have:=HCj.out;omega,by have:=Je.out;omega,HGA,HXA⟩
              case measure=>(try rw [rL.out]);have:=Je.out;simp [intOf];omega
             ·have Qo:j=n+1:=by omega
              have j1d:decide ((j:Int)<=(n:Int))=false:=decide_eq_false (by omega)
              have j1n:decide (j<=n)=false:=decide_eq_false hj
              have HGB:Aside0 (GS w gR n wr g1 ql (fun k l=>if k<r+1 then fO R1 c k l else R1 k l)):=⟨HG.out.congr (fun k l _ hl=>by
               by_cases e:k<r
               ·rw [if_pos (by omega),if_pos e]
               ·rw [if_neg e]
                by_cases e1:k=r
                ·rw [if_pos (by omega),if_pos (by omega),e1]
                ·rw [if_neg (by omega),if_neg (by omega)])⟩
              clear HG HX Qo hj hcj hjn
              go_wp2
              go_roundw
              case rel=>exact ⟨r+1,by first|(rw [lS.out];done)|rfl|(simp;done),wV.out,HGB⟩
              case measure=>(try rw [lS.out]);have:=wV.out;simp [intOf];omega
         ·have hr1:r=n:=by omega
          have r1d:decide ((r:Int)<(n:Int))=false:=decide_eq_false (by omega)
          have r1n:decide (r<n)=false:=decide_eq_false hr
          have HGB:Aside0 (GS w gR n wr g1 ql (fO R1 c)):=⟨HG.out.congr (fun k l hk _=>by rw [if_pos (by omega)])⟩
          clear hr1 hr hrn HG
          go_wp2
          go_roundw
          case rel=>exact ⟨c+1,_,g1,ql,by first|(rw [yJ.out];done)|rfl|(simp;done),mo.out,HGJ,HGB⟩
          case measure=>(try rw [yJ.out]);have:=mo.out;simp [intOf];omega
      ·have hp1:p=n:=by omega
       have Zp:jA R c c (n - c)=n:=Qx (n - c) c n (by have:=mo.out;omega) (by have:=mo.out;omega) (fun i h1 h2=>HP.out.2 i h1 (by omega)) (.inl (by have:=mo.out;omega))
       have hno:=a6A HR.out mo.out (by rw [Zp];omega)
       have p1d:decide ((p:Int)<(n:Int))=false:=decide_eq_false (by omega)
       have p1n:decide (p<n)=false:=decide_eq_false hp
       have p2:((p:Int)==(n:Int))=true:=by rw [hp1];simp
       have p2n:(p==n)=true:=by rw [hp1];simp
       have HNo:Aside0 (CJ w n (gH n (iL ch n) n) (.returned (.tuple #[.slice none 0 0,.bool false])) wr):=⟨by
        rw [hno]
        exact ⟨_,rfl,⟨fun _ _=>trivial,[],⟨rfl,.inl ⟨rfl,rfl⟩⟩,dD.none _ _⟩,HG.out.mM⟩⟩
       clear hp1 Zp hno hp QE HG HP
       go_wp2
       refine bodyPost_ret (results_tmp2 rfl _ _ _) rfl ?_
       exact HNo.out
    ·have hc1:c=n:=by omega
     have Zo:decide ((c:Int)<(n:Int))=false:=decide_eq_false (by omega)
     have c1n:decide (c<n)=false:=decide_eq_false hc
     rw [hc1] at HR
     clear hc1 hc Nr
     go_wp2
     obtain ⟨wz,hwz⟩:∃wz,wz=wr:=⟨_,rfl⟩
     subst hwz
     have HEd:=Aside0.mk (HEn.out R HR.out)
     have HX0:=Aside0.mk (a1S wz)
     have eN:Aside0 (Below wz.heap.size wz (wz.alloc (.cells #[] 34))):=⟨aT (Below.refl _ _) _⟩
     generalize wz.alloc (.cells #[] 34)=wl at*
     go_loopw [18,19] (fun xv cv wr=>∃c:Nat,cv= .int .i64 (c:Int)/\c<=n/\Aside0 (Kd.R gY 34 wr wz.heap.size (fun _=>True) xv ((List.range c).map (fun c=>(⟨(R c n/R c c).num,((R c n/R c c).den:Int)⟩:dm))))/\Aside0 (Below wz.heap.size wz wr)) (fun _ cv _=>n -(intOf cv).toNat)
     case atStart=>exact ⟨0,rfl,by omega,HX0,eN⟩
     case round=>
      clear HX0 eN
      obtain ⟨c,rfl,Nr,HX,HBq⟩:=hrel
      by_cases hc:c<n
      ·have mo:=Aside0.mk hc
       have c0':(0:Int)<=(c:Int):=by omega
       have c1':(c:Int)<(n:Int):=by omega
       have Zo:decide ((c:Int)<(n:Int))=true:=decide_eq_true c1'
       have c1n:decide (c<n)=true:=decide_eq_true hc
       have c2':(c:Int)<(n:Int)+1:=by omega
       have c3':(n:Int)<(n:Int)+1:=by omega
       have c4':(0:Int)<=(n:Int):=by omega
       have yJ:Aside0 (wrap64 ((c:Int)+1)=((c+1:Nat):Int)):=⟨dQ (by omega)⟩
       have HS:Aside0 (∀W,Below wz.heap.size wz W->W.cell? ⟨gR,c,none⟩=some (.slice (some ⟨g c,0,none⟩) (n+1) (cp c))/\W.cell? ⟨g c,n*2,none⟩=some (.int .i64 (R c n).num)/\W.cell? ⟨g c,n*2+1,none⟩=some (.int .i64 ((R c n).den:Int))/\W.cell? ⟨g c,c*2,none⟩=some (.int .i64 (R c c).num)/\W.cell? ⟨g c,c*2+1,none⟩=some (.int .i64 ((R c c).den:Int))):=⟨fun W hb=>by
        have h:=HG.out.below hb
        have a1:=(h.row c mo.out).at (Nat.le_refl n)
        have a2:=(h.row c mo.out).at (Nat.le_of_lt mo.out)
        exact ⟨h.out.at mo.out,a1.1,a1.2,a2.1,a2.2⟩⟩
       have Zq:=Aside0.mk (fun W=>Ue W (HEd.out.sz c n hc (Nat.le_refl _)) (HEd.out.sz c c hc (Nat.le_of_lt hc)) (by omega) (by omega) (HEd.out.ne c hc))
       clear hc Nr
       go_wp2
       have Uj:=Aside0.mk (Kd.ig HX.out (aI (Below.refl _ _)))
       have Zd:=Aside0.mk (aI HBq.out)
       clear HX HBq
       obtain ⟨h1,h2,h3,h4,h5⟩:=HS.out _ Zd.out
       refine fL (n:=19) (S:=fun w'=>w'.cell? ⟨gR,c,none⟩=some (.slice (some ⟨g c,0,none⟩) (n+1) (cp c))/\w'.cell? ⟨g c,n*2,none⟩=some (.int .i64 (R c n).num)/\w'.cell? ⟨g c,n*2+1,none⟩=some (.int .i64 ((R c n).den:Int))/\w'.cell? ⟨g c,c*2,none⟩=some (.int .i64 (R c c).num)/\w'.cell? ⟨g c,c*2+1,none⟩=some (.int .i64 ((R c c).den:Int))) (ds:=[]) #[false,false,false,false,false,false,false,false,false,false,false,false,false,false,false,false,false,false,false] (by kernel_rfl) rfl rfl ⟨h1,h2,h3,h4,h5⟩ (fun hHeld=>?_)
       generalize wr.drew=w7 at*
       refine bl (i:=0) (N:=some 163) ?_
       refine bl (i:=1) (N:=some 164) ?_
       refine bl (i:=2) (N:=some 165) ?_
       refine bl (i:=3) (N:=some 166) ?_
       refine dS (i:=4) (N:=some 167) (v:=?_) (a':=?_) #[true,true,true,true,true,false,false,false,false,false,false,false,false,false,false,false,false,false,false] rfl rfl (by kernel_rfl) (fun _ _ _ h=>h) (Or.inl ⟨by rfl,?_⟩) hHeld ?_ ?_
       rotate_left
       ·rintro w' ⟨s0,s1,s2,s3,s4⟩
        go_simp
        with_reducible rfl
       rotate_left
       ·exact fj
       refine bl (i:=5) (N:=some 168) ?_
       refine bl (i:=6) (N:=some 169) ?_
       refine dS (i:=7) (N:=some 170) (v:=?_) (a':=?_) #[true,true,true,true,true,true,true,true,false,false,false,false,false,false,false,false,false,false,false] rfl rfl (by kernel_rfl) (fun _ _ _ h=>h) (Or.inl ⟨by rfl,?_⟩) hHeld ?_ ?_
       rotate_left
       ·rintro w' ⟨s0,s1,s2,s3,s4⟩
        go_simp
        with_reducible rfl
       rotate_left
       ·exact fj
       refine bl (i:=8) (N:=some 171) ?_
       refine bl (i:=9) (N:=some 172) ?_
       refine bl (i:=10) (N:=some 173) ?_
       refine dS (i:=11) (N:=some 174) (v:=?_) (a':=?_) #[true,true,true,true,true,true,true,true,true,true,true,true,false,false,false,false,false,false,false] rfl rfl (by kernel_rfl) (fun _ _ _ h=>h) (Or.inl ⟨by rfl,?_⟩) hHeld ?_ ?_
       rotate_left
       ·rintro w' ⟨s0,s1,s2,s3,s4⟩
        go_simp
        with_reducible rfl
       rotate_left
       ·exact fj
       refine bl (i:=12) (N:=some 175) ?_
       refine bl (i:=13) (N:=some 176) ?_
       refine dS (i:=14) (N:=some 177) (v:=?_) (a':=?_) #[true,true,true,true,true,true,true,true,true,true,true,true,true,true,true,false,false,false,false] rfl rfl (by kernel_rfl) (fun _ _ _ h=>h) (Or.inl ⟨by rfl,?_⟩) hHeld ?_ ?_
       rotate_left
       ·rintro w' ⟨s0,s1,s2,s3,s4⟩
        go_simp
        with_reducible rfl
       rotate_left
       ·exact fj
       refine gj (i:=15) (N:=some 178) #[true,true,true,true,true,true,true,true,true,true,true,true,true,true,true,true,false,false,false] rfl rfl (by kernel_rfl) (by decide) (fun K hK=>?_)
       refine tu 91 #[V (R c n),V (R c c)] (by rfl) rfl ?_ ?_
       ·go_simp
       refine (Zq.out _).mono ?_
       rintro e w8 ⟨rfl,ni⟩
       have th:=Aside0.mk (Kd.ig Uj.out ni)
       have zP:=Aside0.mk (ah Zd.out ni)
       clear ni Uj Zd h1 h2 h3 h4 h5 Zq
       refine ⟨_,rfl,?_⟩
       refine hK.out _ _ (HS.out _ zP.out) (fun hHeld=>?_)
       clear hK K hHeld
       refine fq (a':=?_) ?_ ?_
       rotate_left
       ·show Act.put _ (some 178) _=_
        simp only [Act.put,List.setIfInBounds_toArray,List.set_cons_zero,List.set_cons_succ,dJ,eD]
        rfl
       refine gj (i:=16) (N:=some 179) #[true,true,true,true,true,true,true,true,true,true,true,true,true,true,true,true,true,false,false] rfl rfl (by kernel_rfl) (by decide) (fun K hK=>?_)
       refine vB (w1:=?_) (v:=?_) (by rfl) rfl ?_ ?_
       rotate_left 2
       ·go_simp
        constructor
        ·rfl
        ·rfl
       refine hK.out _ _ (HS.out _ (aT zP.out _)) (fun hHeld=>?_)
       clear hK K hHeld
       refine fq (a':=?_) ?_ ?_
       rotate_left
       ·show Act.put _ (some 179) _=_
        simp only [Act.put,List.setIfInBounds_toArray,List.set_cons_zero,List.set_cons_succ,dJ,eD]
        rfl
       refine gj (i:=17) (N:=some 180) #[true,true,true,true,true,true,true,true,true,true,true,true,true,true,true,true,true,true,false] rfl rfl (by kernel_rfl) (by decide) (fun K hK=>?_)
       refine Kd.Om gY (w0:=wz) wz.heap.size (by rfl) (.tmp 163) (.tmp 179) 33 34 (.agg #[.int .i64 0,.int .i64 0]) 16 rfl Try.underlying33 Cv rfl (by decide) (by omega) u18 ((List.range c).map (fun c=>(⟨(R c n/R c c).num,((R c n/R c c).den:Int)⟩:dm))) (⟨(R c n/R c c).num,((R c n/R c c).den:Int)⟩:dm) [.int .i64 (R c n/R c c).num,.int .i64 ((R c n/R c c).den:Int)] (fun _=>True) (fun _=>False) rfl rfl (xB _ _ _ _) (fun _ hk=>hk.elim) (fun _ _=>trivial) th.out zP.out zP.out.size (by rw [List.length_map,List.length_range];have:=mo.out;omega) ?_
       intro v9 w9 Uk Jf hg9 b6W
       obtain ⟨A9,c9,rfl⟩:=Kd.gJ Uk
       have Nt:Aside0 (Kd.R gY 34 w9 wz.heap.size (fun _=>True) (.slice A9 ((List.range c).map (fun c=>(⟨(R c n/R c c).num,((R c n/R c c).den:Int)⟩:dm))++[(⟨(R c n/R c c).num,((R c n/R c c).den:Int)⟩:dm)]).length c9) ((List.range (c+1)).map (fun c=>(⟨(R c n/R c c).num,((R c n/R c c).den:Int)⟩:dm)))):=⟨by rw [List.range_succ,List.map_append,List.map_singleton];exact Uk⟩
       have CL:=Aside0.mk Jf
       generalize ((List.range c).map (fun c=>(⟨(R c n/R c c).num,((R c n/R c c).den:Int)⟩:dm))++[(⟨(R c n/R c c).num,((R c n/R c c).den:Int)⟩:dm)]).length=m9 at*
       clear Uk Jf hg9 b6W th zP
       refine hK.out _ _ (HS.out _ CL.out) (fun hHeld=>?_)
       clear hK K hHeld
       refine fq (a':=?_) ?_ ?_
       rotate_left
       ·show Act.put _ (some 180) _=_
        simp only [Act.put,List.setIfInBounds_toArray,List.set_cons_zero,List.set_cons_succ,dJ,eD]
        rfl
       refine gj (i:=18) (N:=some 18) #[true,true,true,true,true,true,true,true,true,true,true,true,true,true,true,true,true,true,true] rfl rfl (by kernel_rfl) (by decide) (fun K hK=>?_)
       refine vB (w1:=?_) (v:=?_) (by rfl) rfl ?_ ?_
       rotate_left 2
       ·go_simp
        constructor
        ·rfl
        ·rfl
       refine hK.out _ _ (HS.out _ CL.out) (fun hHeld=>?_)
       clear hK K hHeld
       refine fq (a':=?_) ?_ ?_
       rotate_left
       ·show Act.put _ (some 18) _=_
        simp only [Act.put,List.setIfInBounds_toArray,List.set_cons_zero,List.set_cons_succ,dJ,eD]
        rfl
       refine gU (by kernel_rfl) ?_
       go_wp2
       go_roundw
       case rel=>exact ⟨c+1,by first|(rw [yJ.out];done)|rfl|(simp;done),mo.out,Nt,CL⟩
       case measure=>(try rw [yJ.out]);have:=mo.out;simp [intOf];omega
      ·have hc1:c=n:=by omega
       have Zo:decide ((c:Int)<(n:Int))=false:=decide_eq_false (by omega)
       have c1n:decide (c<n)=false:=decide_eq_false hc
       rw [hc1] at HX
       have HPs:Aside0 (CJ w n (gH n (iL ch n) n) (.returned (.tuple #[u18,.bool true])) wr):=⟨by
        rw [HR.out]
        exact ⟨_,rfl,Kd.ie HX.out HG.out.mM.size,ah HG.out.mM HBq.out⟩⟩
       clear hc1 hc Nr HX HBq
       go_wp2
       refine bodyPost_ret (results_tmp2 rfl _ _ _) rfl ?_
       exact HPs.out
end Go.Proofs.Ytkckdphjhlbdcaa.PT
set_option linter.unusedVariables false
set_option linter.unusedSimpArgs false
namespace Go.Proofs.Ytkckdphjhlbdcaa.Lp
def fact:Nat->Nat
 |0=>1
 |n+1=>(n+1)*fact n
theorem Nu {a b:Nat} (h:a<=b):fact a<=fact b:=by
 induction h with
 |refl=>exact Nat.le_refl _
 |step _ ih=>exact Nat.le_trans ih (by simp only [fact];exact Nat.le_mul_of_pos_left _ (by omega))
def cnt:Nat->(Nat->Bool)->Nat
 |0,_=>0
 |n+1,W=>cnt n W+(if W n then 1 else 0)
theorem CM:∀{n:Nat} {W V:Nat->Bool},(∀j,j<n->W j=V j)->cnt n W=cnt n V
 |0,_,_,_=>rfl
 |n+1,W,V,h=>by simp only [cnt];rw [CM (fun j hj=>h j (by omega)),h n (by omega)]
theorem yK:∀(n a:Nat) (W:Nat->Bool),cnt (a+n) W=cnt a W+cnt n (fun k=>W (a+k))
 |0,a,W=>rfl
 |n+1,a,W=>by
  show cnt (a+n) W+_=_
  rw [yK n a W]
  show cnt a W+cnt n (fun k=>W (a+k))+(if W (a+n) then 1 else 0)=cnt a W+(cnt n (fun k=>W (a+k))+(if W (a+n) then 1 else 0))
  omega
theorem QI {n j:Nat} (W:Nat->Bool) (hj:j<n+1):cnt (n+1) W=cnt n (fun k=>W (if k<j then k else k+1))+(if W j then 1 else 0):=by
 have h1:n+1=j+(1+(n - j)):=by omega
 have h2:n=j+(n - j):=by omega
 have e1:cnt (n+1) W=cnt j W+((if W j then 1 else 0)+cnt (n - j) (fun k=>W (j+(1+k)))):=by
  rw [h1,yK,yK]
  show cnt j W+((0+if W (j+0) then 1 else 0)+_)=_
  rw [Nat.zero_add];rfl
 have e2:cnt n (fun k=>W (if k<j then k else k+1))=cnt j W+cnt (n - j) (fun k=>W (j+(1+k))):=by
  conv=>lhs;rw [h2]
  rw [yK]
  rw [CM (n:=j) (V:=W) (fun k hk=>by rw [if_pos hk])]
  rw [CM (n:=n - j) (V:=fun k=>W (j+(1+k))) (fun k hk=>by
   show W (if j+k<j then _ else _)=_
   rw [if_neg (by omega)];congr 1;omega)]
 omega
theorem Bd.mono {a b:Nat} {q:Rat} (h:Bd a q) (hab:a<=b):Bd b q:=by
 obtain ⟨z,e,hz⟩:=h;exact ⟨z,e,by omega⟩
theorem Bd.b6X {b n:Nat} {W:Nat->Bool} {f:Nat->Rat} (h:∀j,j<n->Bd (if W j then b else 0) (f j)):Bd (cnt n W*b) (S n f):=by
 induction n with
 |zero=>simp only [S];exact Bd.zero _
 |succ n ih=>
  have:=(ih (fun j hj=>h j (by omega))).add (h n (by omega))
  simp only [S,cnt]
  refine this.mono ?_
  split
  ·rw [Nat.add_mul];omega
  ·simp
theorem Bd.mul {a b:Nat} {p q:Rat} (h:Bd a p) (h':Bd b q):Bd (a*b) (p*q):=by
 obtain ⟨x,rfl,hx⟩:=h
 obtain ⟨y,rfl,hy⟩:=h'
 exact ⟨x*y,by rw [Rat.intCast_mul],by rw [Int.natAbs_mul];exact Nat.mul_le_mul hx hy⟩
theorem Sg.bd {x:Rat} (h:Sg x):Bd 1 x:=by
 rcases h with h|h
 ·exact ⟨1,by rw [h];rfl,by decide⟩
 ·exact ⟨-1,by rw [h];rfl,by decide⟩
def Nar (n:Nat) (v:Nat->Rat):Prop:=∃i0,∀i,i<n->i≠i0->v i=0
theorem Ov {n c:Nat} {M:Nat->Nat->Rat} (hc:c<n) (h:∀i,i<n->M i c=0):eK n M=0:=by
 rw [<-Cp M hc]
 refine nC n (fun i j hi hj=>?_)
 unfold upd;split
 ·next e=>rw [e];exact h i hi
 ·rfl
theorem QJ:∀(n:Nat) (M:Nat->Nat->Rat) (W:Nat->Bool),(∀i j,i<n->j<n->Bd 1 (M i j))->(∀j,j<n->W j=false->Nar n (fun i=>M i j))->Bd (fact (cnt n W)) (eK n M)
 |0,_,_,_,_=>⟨1,rfl,by simp [cnt,fact]⟩
 |n+1,M,W,h1,h2=>by
  have Nv:∀j,j<n+1->∀i k,i<n->k<n->Bd 1 (minor M j i k):=fun j hj i k hi hk=>by
   unfold minor;exact h1 _ _ (by omega) (by split<;>omega)
  have hm2:∀j,j<n+1->∀k,k<n->W (if k<j then k else k+1)=false->Nar n (fun i=>minor M j i k):=fun j hj k hk hw=>by
   obtain ⟨i0,Ii⟩:=h2 _ (by split<;>omega) hw
   by_cases e:i0=0
   ·exact ⟨n,fun i hi _=>Ii (i+1) (by omega) (by omega)⟩
   ·exact ⟨i0 - 1,fun i hi hne=>Ii (i+1) (by omega) (by omega)⟩
  have ih:=fun j (hj:j<n+1)=>QJ n (minor M j) (fun k=>W (if k<j then k else k+1)) (Nv j hj) (hm2 j hj)
  have hs:∀j,Bd 1 (kL j):=fun j=>(PK j).bd
  simp only [eK]
  by_cases hx:∃j0,j0<n+1/\W j0=false/\M 0 j0≠0
  ·obtain ⟨j0,hj0,hw,hne⟩:=hx
   obtain ⟨i0,Ii⟩:=h2 j0 hj0 hw
   have hi00:i0=0:=by
    by_cases e:i0=0
    ·exact e
    ·exact absurd (Ii 0 (by omega) (fun h=>e h.symm)) hne
   have e:S (n+1) (fun j=>kL j*M 0 j*eK n (minor M j))=S (n+1) (fun j=>if j=j0 then kL j*M 0 j*eK n (minor M j) else 0):=by
    refine dR (fun j hj=>?_)
    by_cases ej:j=j0
    ·rw [if_pos ej]
    ·rw [if_neg ej,Ov (c:=if j0<j then j0 else j0 - 1) (by split<;>omega) (fun i hi=>by
      have b6Y:(if (if j0<j then j0 else j0 - 1)<j then (if j0<j then j0 else j0 - 1) else (if j0<j then j0 else j0 - 1)+1)=j0:=by
       by_cases e3:j0<j
       ·rw [if_pos e3,if_pos e3]
       ·rw [if_neg e3,if_neg (by omega)];omega
      unfold minor
      rw [b6Y]
      exact Ii (i+1) (by omega) (by omega))]
     grind
   rw [e,gl hj0 (fun j=>kL j*M 0 j*eK n (minor M j))]
   have hc:cnt n (fun k=>W (if k<j0 then k else k+1))=cnt (n+1) W:=by
    rw [QI W hj0,if_neg (by rw [hw];decide)];omega
   have:=((hs j0).mul (h1 0 j0 (by omega) hj0)).mul (ih j0 hj0)
   rw [hc] at this
   exact this.mono (by omega)
  ·have hno:∀j,j<n+1->W j=false->M 0 j=0:=fun j hj hw=>by
    by_cases e:M 0 j=0
    ·exact e
    ·exact absurd ⟨j,hj,hw,e⟩ hx
   have b6Z:Bd (cnt (n+1) W*fact (cnt (n+1) W - 1)) (S (n+1) fun j=>kL j*M 0 j*eK n (minor M j)):=by
    refine Bd.b6X (fun j hj=>?_)
    cases hw:W j with
    |false=>rw [hno j hj hw];have:kL j*0*eK n (minor M j)=0:=by grind
            rw [this];exact Bd.zero _
    |true=>
     have hc:cnt n (fun k=>W (if k<j then k else k+1))=cnt (n+1) W - 1:=by
      rw [QI W hj,if_pos hw];omega
     have:=((hs j).mul (h1 0 j (by omega) hj)).mul (ih j hj)
     rw [hc] at this
     exact this.mono (by simp)
   refine b6Z.mono ?_
   cases cnt (n+1) W with
   |zero=>simp [fact]
   |succ p=>exact Nat.le_refl _
theorem a6C {m n:Nat} (f:Nat->Nat) (h:∀p q,p<m->q<m->f p=f q->p=q):cnt m (fun q=>decide (f q<n))<=n:=by
 have h1:cnt m (fun q=>decide (f q<n))=(((List.range m).filter (fun q=>decide (f q<n))).map f).length:=by
  clear h
  induction m with
  |zero=>rfl
  |succ m ih=>
   rw [List.range_succ,List.filter_append]
   simp only [cnt]
   rw [ih]
   by_cases e:f m<n
   ·simp [e]
   ·simp [e]
 rw [h1]
 have h2:=pE (((List.range m).filter (fun q=>decide (f q<n))).map f) (List.range n) (by
  rw [List.nodup_iff_pairwise_ne,List.pairwise_map]
  have Ih:((List.range m).filter (fun q=>decide (f q<n))).Pairwise (fun a b=>a≠b):=List.Pairwise.filter _ List.nodup_range
  refine List.Pairwise.imp_of_mem ?_ Ih
  intro a b ha hb hne e
  have ha':=List.mem_range.1 (List.mem_filter.1 ha).1
  have hb':=List.mem_range.1 (List.mem_filter.1 hb).1
  exact hne (h a b ha' hb' e)) (fun x hx=>by
  obtain ⟨q,hq,rfl⟩:=List.mem_map.1 hx
  exact List.mem_range.2 (of_decide_eq_true (List.mem_filter.1 hq).2))
 rw [List.length_range] at h2
 exact h2
theorem Gc {m n N R:Nat} {t0:bA} (he:∀i j,i<R->j<N->Bd 1 (t0.cell i j)) (hn:∀j,n<=j->j<N->∃i0,∀i,i<R->i≠i0->t0.cell i j=0) (ρ f:Nat->Nat) (hρ:∀i,i<m->ρ i<R) (hρi:∀i k,i<m->k<m->ρ i=ρ k->i=k) (hf:∀q,q<m->f q<N):
 Bd (fact n) (eK m (fun i q=>t0.cell (ρ i) (f q))):=by
 by_cases h:∃p q,p<m/\q<m/\p≠q/\f p=f q
 ·obtain ⟨p,q,hp,hq,hne,e⟩:=h
  rw [PJ hp hq hne (fun i _=>by rw [e])];exact Bd.zero _
 ·have hinj:∀p q,p<m->q<m->f p=f q->p=q:=fun p q hp hq e=>by
   by_cases e2:p=q
   ·exact e2
   ·exact absurd ⟨p,q,hp,hq,e2,e⟩ h
  refine (QJ m _ (fun q=>decide (f q<n)) (fun i q hi hq=>he _ _ (hρ i hi) (hf q hq)) (fun q hq hw=>?_)).mono (Nu (a6C f hinj))
  have hq2:n<=f q:=by have:=of_decide_eq_false hw;omega
  obtain ⟨i0,Ii⟩:=hn (f q) hq2 (hf q hq)
  by_cases hx:∃k,k<m/\ρ k=i0
  ·obtain ⟨k,hk,e⟩:=hx
   exact ⟨k,fun i hi hne=>Ii _ (hρ i hi) (fun e2=>hne (hρi i k hi hk (e2.trans e.symm)))⟩
  ·exact ⟨m,fun i hi _=>Ii _ (hρ i hi) (fun e2=>hx ⟨i,hi,e2⟩)⟩
section
variable {n m:Nat} {A:Nat->Nat->Rat} {right:Nat->Rat} {s:Rat}
theorem ze:∀j,n<=j->j<n+m->∃i0,∀i,i<m+(n+1)->i≠i0->(init n m A right s).cell i j=0:=by
 intro j h1 h2
 refine ⟨j - n,fun i hi hne=>?_⟩
 simp only [init]
 by_cases h3:i<m
 ·rw [if_pos h3,if_neg (by omega),if_neg (by omega),if_neg (by omega)]
 ·rw [if_neg h3]
  by_cases h4:i=m
  ·rw [if_pos h4,if_neg (by omega)]
  ·rw [if_neg h4,if_neg (by omega)]
theorem a1V {N K:Nat} {t0:bA} (h:uR m N K t0) {i j:Nat} (hi:i<m+K) (hj:j<=N):Bd 1 (t0.cell i j):=by
 obtain ⟨σ,τ,h1,h2,h3⟩:=h
 rcases h3 i j hi hj with e|e
 ·rw [e];exact Bd.zero _
 ·rw [e];exact ((h1 j).mul (h2 i)).bd
theorem Wv {t:bA} (hs:uR m (n+m) (n+1) (init n m A right s)) (v:Valid m (n+m) (n+1) (init n m A right s) t) (hr:yt m (n+m) (n+1) (init n m A right s) t):
 (∀{q:Rat},q=(init n m A right s).D t m->Bd (fact n) q)/\(∀r j,r<m->j<n+m->Bd (fact n) (t.cell r j*(init n m A right s).D t m))/\(∀k j,k<n+1->j<n+m->Bd (fact n) (t.cell (m+k) j*(init n m A right s).D t m)):=by
 have he:∀i j,i<m+(n+1)->j<n+m->Bd 1 ((init n m A right s).cell i j):=fun i j hi hj=>a1V hs hi (by omega)
 refine ⟨fun e=>?_,fun r j hrr hj=>?_,fun k j hk hj=>?_⟩
 ·rw [e]
  exact Gc (m:=m) he ze (fun i=>i) t.basis (fun i hi=>by omega) (fun _ _ _ _ e=>e) (fun q hq=>v.lt q hq)
 ·rw [hr.FR hrr (by omega)]
  have e:eK m (upd (fun i r=>(init n m A right s).cell i (t.basis r)) r (fun i=>(init n m A right s).cell i j))=eK m (fun i q=>(init n m A right s).cell i (if q=r then j else t.basis q)):=
   nC m (fun i q _ _=>by unfold upd;split<;>rfl)
  rw [e]
  exact Gc (m:=m) he ze (fun i=>i) (fun q=>if q=r then j else t.basis q) (fun i hi=>by omega) (fun _ _ _ _ e=>e) (fun q hq=>by
   show (if q=r then j else t.basis q)<_
   split
   ·exact hj
   ·exact v.lt q hq)
 ·rw [hr.PL hk (by omega)]
  have e:eK (m+1) (ot m (init n m A right s) t k (fun i=>if i<m then (init n m A right s).cell i j else (init n m A right s).cell (m+k) j))=eK (m+1) (fun i q=>(init n m A right s).cell (if i<m then i else m+k) (if q<m then t.basis q else j)):=
   nC (m+1) (fun i q hi hq=>by
    unfold ot
    by_cases h1:q<m
    ·simp only [if_pos h1];split<;>rfl
    ·simp only [if_neg h1];split<;>rfl)
  rw [e]
  exact Gc (m:=m+1) he ze (fun i=>if i<m then i else m+k) (fun q=>if q<m then t.basis q else j) (fun i hi=>by
   show (if i<m then i else m+k)<_
   split<;>omega) (fun i l hi hl e=>by
   have e':(if i<m then i else m+k)=(if l<m then l else m+k):=e
   split at e'<;>split at e'<;>omega) (fun q hq=>by
   show (if q<m then t.basis q else j)<_
   split
   ·next h=>exact v.lt q h
   ·exact hj)
end
end Go.Proofs.Ytkckdphjhlbdcaa.Lp
