/-
  Part 7 of the proof of this: The law FnCover answers true at every argument.
-/
import Derived.Test.YtnhknojfpjheoaaKCover2
import Derived.Test.YtnhknojfpjheoaaKCover4
import Derived.Test.YtnhknojfpjheoaaKCover6
namespace Go.Proofs.Ytnhknojfpjheoaa.PT
open Go.RowKit Go.Proofs.Ytnhknojfpjheoaa.P Go.Proofs.YtnhknojfpjheoaaW.PrintWords Go.Proofs.YtnhknojfpjheoaaW.PrintLast Go.Proofs.Ytnhknojfpjheoaa.EvKit Go.Proofs.Ytnhknojfpjheoaa.Num Go.Proofs.Ytnhknojfpjheoaa.Lp
set_option linter.all false
structure uK (cs:Array Value) (n:Nat) (q:Nat->Int×Int):Prop where
 size:cs.size=n*2
 num:∀j,j<n->cs[j*2]? =some (.int .i64 (q j).1)
 den:∀j,j<n->cs[j*2+1]? =some (.int .i64 (q j).2)
theorem uK.put {cs:Array Value} {n:Nat} {q:Nat->Int×Int} (h:uK cs n q) {i:Nat} (hi:i<n) (p:Int×Int):
 uK ((cs.setIfInBounds (i*2) (.int .i64 p.1)).setIfInBounds (i*2+1) (.int .i64 p.2)) n (fun j=>if j=i then p else q j):=by
 have hs:=h.size
 refine ⟨by simp [hs],fun j hj=>?_,fun j hj=>?_⟩
 ·by_cases e:j=i
  ·subst e
   rw [Array.getElem?_setIfInBounds_ne (by omega),Array.getElem?_setIfInBounds,if_pos rfl,if_pos (by omega),if_pos rfl]
  ·rw [Array.getElem?_setIfInBounds_ne (by omega),Array.getElem?_setIfInBounds_ne (by omega),h.num j hj,if_neg e]
 ·by_cases e:j=i
  ·subst e
   rw [Array.getElem?_setIfInBounds,if_pos rfl,if_pos (by simp;omega),if_pos rfl]
  ·rw [Array.getElem?_setIfInBounds_ne (by omega),Array.getElem?_setIfInBounds_ne (by omega),h.den j hj,if_neg e]
theorem uK.congr {cs:Array Value} {n:Nat} {q q':Nat->Int×Int} (h:uK cs n q) (e:∀j,j<n->q' j=q j):uK cs n q':=
 ⟨h.size,fun j hj=>by rw [e j hj];exact h.num j hj,fun j hj=>by rw [e j hj];exact h.den j hj⟩
def mW (n:Nat):Array Value:=(List.replicate (n*2) (Value.int .i64 0)).toArray
theorem Vc (n:Nat):uK (mW n) n (fun _=>(0,0)):=by
 refine ⟨by simp [mW],fun j hj=>?_,fun j hj=>?_⟩
 ·show (List.replicate (n*2) (Value.int .i64 0)).toArray[j*2]? =_
  rw [List.getElem?_toArray,List.getElem?_replicate,if_pos (by omega)]
 ·show (List.replicate (n*2) (Value.int .i64 0)).toArray[j*2+1]? =_
  rw [List.getElem?_toArray,List.getElem?_replicate,if_pos (by omega)]
theorem a9t (n:Nat) (h:n<=1048576) (w:World):(Instr.makeSlice 27 (.int .i64 (n:Int)) (.int .i64 (n:Int))).run Try.prog w= .ok (.slice (some ⟨w.heap.size,0,none⟩) n n) (w.alloc (.cells (mW n) 26)):=by
 obtain ⟨i,hi,hz,hs,hb⟩:=info_parts (show (Try.prog.info? 26).map (fun i=>(i.zero,i.size,i.bytes))=some (some (.agg #[.int .i64 0,.int .i64 0]),2,16) by kernel_rfl)
 have hr:=run_make (P:=Try.prog) w 27 26 i (.agg #[.int .i64 0,.int .i64 0]) Try.underlying27 hi hz .i64 .i64 n n (by omega) (by omega) (by rw [hb];omega) (by omega)
 have e:(Value.agg #[.int .i64 0,.int .i64 0]).cells= #[.int .i64 0,.int .i64 0]:=rfl
 have e2:madeCells #[Value.int .i64 0,Value.int .i64 0] (n*2)=mW n:=by
  apply Array.ext
  ·rw [size_madeCells];simp [mW]
  ·intro i h1 h2
   simp only [madeCells,mW,Array.getElem_ofFn,List.getElem_toArray,List.getElem_replicate]
   have:i%2=0∨i%2=1:=by omega
   rcases this with h|h<;>simp [h]
 rw [e] at hr
 simpa [hs,e2] using hr
def xq (T:bw) (N:Nat):Nat->Nat->Rat
 |0,_=>0
 |r+1,j=>if T.basis r=j then T.cell r N else xq T N r j
def sm (T:bw) (N n:Nat):Nat->Rat
 |0=>0
 |r+1=>if T.basis r<n then sm T N n r+T.cell r N else sm T N n r
set_option maxHeartbeats 2000000 in
set_option maxRecDepth 100000 in
theorem EA (m N K n:Nat) (T:bw) (cs:Array Value) (w:World) (hR:gD cs m N K T) (hn:n<16) (hb:∀r,r<m->T.basis r<16) (ho:∀r,r<m->Ok (T.cell r N)) (hs:∀r,r<=m->Ok (sm T N n r)):
 Calls Try.prog 32 #[.agg cs,.int .i64 (n:Int)] w fun e w'=>∃g cs',e= .returned (.tuple #[.slice (some ⟨g,0,none⟩) n n,V (sm T N n m)])/\w'.heap[g]? =some (.cells cs' 26 (0,0))/\uK cs' n (fun j=>((xq T N m j).num,((xq T N m j).den:Int)))/\w.heap.size<=g/\Below w.heap.size w w':=by
 have hu:=Try.underlying62
 have HR:=Aside0.mk hR
 have HBs:=Aside0.mk hb
 have HOk:=Aside0.mk ho
 have HSm:=Aside0.mk hs
 have hmk:=a9t n (by omega)
 have HN:=Aside0.mk hn
 have HW:=Aside0.mk (fun W=>vP.calls 0 0 1 W rfl)
 clear hR hb ho hs hn
 go_enter Try.func32,Try.ntmps32
 go_wp2
 have pE:Aside0 ((((w.alloc (.cells cs 62)).alloc (.cells #[.int .i64 0,.int .i64 0] 26)).alloc (.cells (mW n) 26)).heap[w.heap.size]? =some (.cells cs 62 (0,0))):=⟨aq (aq (bW w _) _) _⟩
 have eV:Aside0 ((((w.alloc (.cells cs 62)).alloc (.cells #[.int .i64 0,.int .i64 0] 26)).alloc (.cells (mW n) 26)).heap[w.heap.size+1]? =some (.cells #[.int .i64 0,.int .i64 0] 26 (0,0))):=⟨aq (by have:=bW (w.alloc (.cells cs 62)) (.cells #[.int .i64 0,.int .i64 0] 26);rw [kL] at this;exact this) _⟩
 have iA:Aside0 ((((w.alloc (.cells cs 62)).alloc (.cells #[.int .i64 0,.int .i64 0] 26)).alloc (.cells (mW n) 26)).heap[w.heap.size+1+1]? =some (.cells (mW n) 26 (0,0))):=⟨by have:=bW ((w.alloc (.cells cs 62)).alloc (.cells #[.int .i64 0,.int .i64 0] 26)) (.cells (mW n) 26);rw [kL,kL] at this;exact this⟩
 have jo:Aside0 (Below w.heap.size w (((w.alloc (.cells cs 62)).alloc (.cells #[.int .i64 0,.int .i64 0] 26)).alloc (.cells (mW n) 26))):=⟨aK (aK (aK (Below.refl _ _) _) _) _⟩
 generalize (((w.alloc (.cells cs 62)).alloc (.cells #[.int .i64 0,.int .i64 0] 26)).alloc (.cells (mW n) 26))=w3 at*
 go_loopw [14] (fun iv wr=>∃(i:Nat) (iB:Array Value),iv= .int .i64 (i:Int)/\i<=n/\Aside0 (uK iB n (fun j=>if j<i then (0,1) else (0,0)))/\Aside0 (wr.heap[w.heap.size]? =some (.cells cs 62 (0,0)))/\Aside0 (wr.heap[w.heap.size+1]? =some (.cells #[.int .i64 0,.int .i64 0] 26 (0,0)))/\Aside0 (wr.heap[w.heap.size+1+1]? =some (.cells iB 26 (0,0)))/\Aside0 (Below w.heap.size w wr)) (fun iv _=>n -(intOf iv).toNat)
 case atStart=>exact ⟨0,mW n,rfl,Nat.zero_le _,⟨(Vc n).congr (fun j _=>if_neg (by omega))⟩,pE,eV,iA,jo⟩
 case round=>
  clear pE eV iA jo
  obtain ⟨i,iB,rfl,hi,HP,pE,eV,iA,bL⟩:=hrel
  by_cases hlt:i<n
  ·have Cn:=Aside0.mk hlt
   have g0:(0:Int)<=(i:Int):=by omega
   have g1:(i:Int)<(n:Int):=by omega
   have g2:decide ((i:Int)<(n:Int))=true:=decide_eq_true g1
   have Br:decide (i<n)=true:=decide_eq_true hlt
   have oa:Aside0 (wrap64 ((i:Int)+1)=((i+1:Nat):Int)):=⟨eD (by have:=HN.out;omega)⟩
   have wZ:Aside0 (uK ((iB.setIfInBounds (i*2) (.int .i64 0)).setIfInBounds (i*2+1) (.int .i64 1)) n (fun j=>if j<i+1 then (0,1) else (0,0))):=⟨(HP.out.put hlt (0,1)).congr (fun j _=>by
    by_cases e:j=i
    ·rw [if_pos e,if_pos (by omega)]
    ·rw [if_neg e]
     by_cases e2:j<i
     ·rw [if_pos e2,if_pos (by omega)]
     ·rw [if_neg e2,if_neg (by omega)])⟩
   go_wp2_with (first|(go_at_call 55;(with_reducible refine (HW.out _).mono ?_);rintro e w1 ⟨rfl,hb1⟩;have kB:=Aside0.mk (ah pE.out hb1);have iJ:=Aside0.mk (ah eV.out hb1);have nN:=Aside0.mk (ah iA.out hb1);have fG:=Aside0.mk (ai bL.out hb1);have h1:=bz nN.out (HP.out.num i Cn.out);have h2:=bz nN.out (HP.out.den i Cn.out);have h3:=aa nN.out (i*2);have h4:=aa nN.out (i*2+1);clear hb1))
   have b7H:=Aside0.mk (heap_set (k:=i*2+1) (v:= .int .i64 1) (heap_set (k:=i*2) (v:= .int .i64 0) nN.out))
   have b7I:Aside0 (((w1.setCell ⟨w.heap.size+1+1,i*2,none⟩ (.int .i64 0)).setCell ⟨w.heap.size+1+1,i*2+1,none⟩ (.int .i64 1)).heap[w.heap.size]? =some (.cells cs 62 (0,0))):=⟨bA (bA kB.out (by omega)) (by omega)⟩
   have b7J:Aside0 (((w1.setCell ⟨w.heap.size+1+1,i*2,none⟩ (.int .i64 0)).setCell ⟨w.heap.size+1+1,i*2+1,none⟩ (.int .i64 1)).heap[w.heap.size+1]? =some (.cells #[.int .i64 0,.int .i64 0] 26 (0,0))):=⟨bA (bA iJ.out (by omega)) (by omega)⟩
   go_roundw
   case rel=>exact ⟨i+1,_,by first|(rw [oa.out];done)|rfl|(simp;done),Cn.out,wZ,b7I,b7J,b7H,⟨br (br fG.out (by omega)) (by omega)⟩⟩
   case measure=>(try rw [oa.out]);have:=Cn.out;simp [intOf];omega
  ·have hin:i=n:=by omega
   have g2:decide ((i:Int)<(n:Int))=false:=decide_eq_false (by omega)
   have Br:decide (i<n)=false:=decide_eq_false hlt
   have Ir:Aside0 (uK iB n (fun _=>(0,1))):=⟨HP.out.congr (fun j hj=>by rw [if_pos (by omega)])⟩
   clear hin hlt hi HP
   go_wp2_with (first|(go_at_call 55;(with_reducible refine (HW.out _).mono ?_);rintro e w1 ⟨rfl,hb1⟩;have kB:=Aside0.mk (aq (ah pE.out hb1) (.cells #[.int .i64 0,.int .i64 1] 26));have iJ:=Aside0.mk (aq (ah eV.out hb1) (.cells #[.int .i64 0,.int .i64 1] 26));have nN:=Aside0.mk (aq (ah iA.out hb1) (.cells #[.int .i64 0,.int .i64 1] 26));have fG:=Aside0.mk (aK (ai bL.out hb1) (.cells #[.int .i64 0,.int .i64 1] 26));have Bu:=Aside0.mk (bW w1 (.cells #[.int .i64 0,.int .i64 1] 26));have h1:=bz kB.out HR.out.rows;have Iu:Aside0 (w.heap.size+1+1<w1.heap.size):=⟨aY (ah iA.out hb1)⟩;clear hb1))
   clear pE eV iA bL g2 Br hmk
   have HZ3:Aside0 (w.heap.size<=w1.heap.size):=⟨by have:=Iu.out;omega⟩
   generalize zx:w1.heap.size=g8 at*
   generalize w1.alloc (.cells #[.int .i64 0,.int .i64 1] 26)=w4 at*
   clear h1
   go_loopw [25] (fun rv wr=>∃(r:Nat) (iB:Array Value),rv= .int .i64 (r:Int)/\r<=m/\Aside0 (uK iB n (fun j=>((xq T N r j).num,((xq T N r j).den:Int))))/\Aside0 (wr.heap[w.heap.size]? =some (.cells cs 62 (0,0)))/\Aside0 (wr.heap[w.heap.size+1]? =some (.cells #[.int .i64 0,.int .i64 0] 26 (0,0)))/\Aside0 (wr.heap[w.heap.size+1+1]? =some (.cells iB 26 (0,0)))/\Aside0 (wr.heap[g8]? =some (.cells #[.int .i64 (sm T N n r).num,.int .i64 ((sm T N n r).den:Int)] 26 (0,0)))/\Aside0 (Below w.heap.size w wr)) (fun rv _=>m -(intOf rv).toNat)
   case atStart=>exact ⟨0,iB,rfl,Nat.zero_le _,⟨Ir.out.congr (fun j _=>rfl)⟩,kB,iJ,nN,Bu,fG⟩
   case round=>
    clear kB iJ nN Bu fG Ir zx
    obtain ⟨r,iB,rfl,hr,HP,pE,eV,iA,Ml,bL⟩:=hrel
    by_cases hlt:r<m
    ·have nO:=Aside0.mk hlt
     have hN:=HR.out.hN
     have hmK:=HR.out.hm
     have Co:r<m+K:=by omega
     have h1:=bz pE.out (HR.out.fc r hlt)
     have g0:(0:Int)<=(r:Int):=by omega
     have g1:(r:Int)<16:=by omega
     have g2:decide ((r:Int)<(m:Int))=true:=decide_eq_true (by omega)
     have Br:decide (r<m)=true:=decide_eq_true hlt
     have oa:Aside0 (wrap64 ((r:Int)+1)=((r+1:Nat):Int)):=⟨eD (by omega)⟩
     have hq:∀j,xq T N (r+1) j=if T.basis r=j then T.cell r N else xq T N r j:=fun j=>rfl
     have hsm:sm T N n (r+1)=if T.basis r<n then sm T N n r+T.cell r N else sm T N n r:=rfl
     have a9u:=HBs.out r hlt
     have HBas:=Aside0.mk (HR.out.fc r hlt)
     generalize T.basis r=b at*
     by_cases EB:b<n
     ·have HbN:=Aside0.mk EB
      have g3:decide ((b:Int)<(n:Int))=true:=decide_eq_true (by omega)
      have Mm:decide (b<n)=true:=decide_eq_true EB
      have g4:(0:Int)<=(b:Int):=by omega
      have g5:(b:Int)<(n:Int):=by omega
      have g6:(0:Int)<=(N:Int):=by omega
      have g7:(N:Int)<16:=by omega
      have wZ:Aside0 (uK ((iB.setIfInBounds (b*2) (.int .i64 (T.cell r N).num)).setIfInBounds (b*2+1) (.int .i64 ((T.cell r N).den:Int))) n (fun j=>((xq T N (r+1) j).num,((xq T N (r+1) j).den:Int)))):=⟨(HP.out.put EB ((T.cell r N).num,((T.cell r N).den:Int))).congr (fun j _=>by
       rw [hq]
       by_cases e:b=j
       ·rw [if_pos e,if_pos e.symm]
       ·rw [if_neg e,if_neg (fun h=>e h.symm)])⟩
      have HS2:=Aside0.mk (show sm T N n (r+1)=sm T N n r+T.cell r N by rw [hsm,if_pos EB])
      have HAd:=Aside0.mk (fun W=>a3T W (HSm.out r hr) (HOk.out r hlt) (by rw [<-HS2.out];exact HSm.out (r+1) hlt))
      have h2:=bz pE.out HR.out.ni
      have h3:=bz pE.out (HR.out.num r N Co (Nat.le_refl _))
      have h4:=bz pE.out (HR.out.den r N Co (Nat.le_refl _))
      have h5:=bz iA.out (HP.out.num b EB)
      have h6:=bz iA.out (HP.out.den b EB)
      have h7:=aa iA.out (b*2)
      have h8:=aa iA.out (b*2+1)
      clear hlt hr hN hmK Co hq hsm a9u EB
      go_wp2
      have h5:wr.drew.cell? ⟨w.heap.size+1+1,b*2,none⟩=_:=h5
      have h6:wr.drew.cell? ⟨w.heap.size+1+1,b*2+1,none⟩=_:=h6
      have Ye:=Aside0.mk (ak pE.out)
      have Bv:=Aside0.mk (ak eV.out)
      have EC:=Aside0.mk (ak iA.out)
      have ED:=Aside0.mk (ak Ml.out)
      have oc:=Aside0.mk (bn bL.out)
      clear pE eV iA Ml bL
      refine eG (n:=14) (S:=fun w'=>w'.cell? ⟨w.heap.size,512+r,none⟩=some (.int .i64 (b:Int))/\w'.cell? ⟨w.heap.size,529,none⟩=some (.int .i64 (N:Int))/\w'.cell? ⟨w.heap.size,r*32+N*2,none⟩=some (.int .i64 (T.cell r N).num)/\w'.cell? ⟨w.heap.size,r*32+N*2+1,none⟩=some (.int .i64 ((T.cell r N).den:Int))) (ds:=[13]) #[false,false,false,false,false,false,false,false,false,false,false,false,false,false] (by kernel_rfl) rfl rfl ⟨h1,h2,h3,h4⟩ (fun hHeld=>?_)
      clear h1 h2 h3 h4
      generalize wr.drew=w5 at*
      refine aI (i:=0) (N:=some 34) ?_
      refine aI (i:=1) (N:=some 35) ?_
      refine aI (i:=2) (N:=some 36) ?_
      refine aI (i:=3) (N:=some 37) ?_
      refine cE (i:=4) (N:=some 38) (v:=?_) (a':=?_) #[true,true,true,true,true,false,false,false,false,false,false,false,false,false] rfl rfl (by kernel_rfl) (fun _ _ _ h=>h) (Or.inl ⟨by rfl,?_⟩) hHeld ?_ ?_
      rotate_left
      ·rintro w' ⟨s0,s1,s2,s3⟩
       go_simp
       with_reducible rfl
      rotate_left
      ·exact dx
      refine aI (i:=5) (N:=some 39) ?_
      refine aI (i:=6) (N:=some 40) ?_
      refine cE (i:=7) (N:=some 41) (v:=?_) (a':=?_) #[true,true,true,true,true,true,true,true,false,false,false,false,false,false] rfl rfl (by kernel_rfl) (fun _ _ _ h=>h) (Or.inl ⟨by rfl,?_⟩) hHeld ?_ ?_
      rotate_left
      ·rintro w' ⟨s0,s1,s2,s3⟩
       go_simp
       with_reducible rfl
      rotate_left
      ·exact dx
      refine aI (i:=8) (N:=some 42) ?_
      refine aI (i:=9) (N:=some 43) ?_
      refine aI (i:=10) (N:=some 44) ?_
      refine cE (i:=11) (N:=some 45) (v:=?_) (a':=?_) #[true,true,true,true,true,true,true,true,true,true,true,true,false,false] rfl rfl (by kernel_rfl) (fun _ _ _ h=>h) (Or.inl ⟨by rfl,?_⟩) hHeld ?_ ?_
      rotate_left
      ·rintro w' ⟨s0,s1,s2,s3⟩
       go_simp
       with_reducible rfl
      rotate_left
      ·exact dx
      refine aI (i:=12) (N:=some 46) ?_
      refine nu (i:=13) (N:=none) #[true,true,true,true,true,true,true,true,true,true,true,true,true,true] rfl rfl (by kernel_rfl) (by decide) (fun K hK=>?_)
      have h7:=aa EC.out (b*2)
      have h8:=aa EC.out (b*2+1)
      refine ku (w1:=?_) (by rfl) rfl ?_ ?_
      rotate_left
      ·go_simp
       rfl
      refine hK.out _ _ ?_
      clear hK K
      refine fl (by kernel_rfl) ?_
      have kZ:=Aside0.mk (heap_set (k:=b*2+1) (v:= .int .i64 ((T.cell r N).den:Int)) (heap_set (k:=b*2) (v:= .int .i64 (T.cell r N).num) EC.out))
      have sQ:Aside0 (((w5.setCell ⟨w.heap.size+1+1,b*2,none⟩ (.int .i64 (T.cell r N).num)).setCell ⟨w.heap.size+1+1,b*2+1,none⟩ (.int .i64 ((T.cell r N).den:Int))).heap[w.heap.size]? =some (.cells cs 62 (0,0))):=⟨bA (bA Ye.out (by omega)) (by omega)⟩
      have Mn:Aside0 (((w5.setCell ⟨w.heap.size+1+1,b*2,none⟩ (.int .i64 (T.cell r N).num)).setCell ⟨w.heap.size+1+1,b*2+1,none⟩ (.int .i64 ((T.cell r N).den:Int))).heap[w.heap.size+1]? =some (.cells #[.int .i64 0,.int .i64 0] 26 (0,0))):=⟨bA (bA Bv.out (by omega)) (by omega)⟩
      have mX:Aside0 (((w5.setCell ⟨w.heap.size+1+1,b*2,none⟩ (.int .i64 (T.cell r N).num)).setCell ⟨w.heap.size+1+1,b*2+1,none⟩ (.int .i64 ((T.cell r N).den:Int))).heap[g8]? =some (.cells #[.int .i64 (sm T N n r).num,.int .i64 ((sm T N n r).den:Int)] 26 (0,0))):=⟨bA (bA ED.out (by have:=Iu.out;omega)) (by have:=Iu.out;omega)⟩
      have pP:Aside0 (Below w.heap.size w ((w5.setCell ⟨w.heap.size+1+1,b*2,none⟩ (.int .i64 (T.cell r N).num)).setCell ⟨w.heap.size+1+1,b*2+1,none⟩ (.int .i64 ((T.cell r N).den:Int)))):=⟨br (br oc.out (by omega)) (by omega)⟩
      clear Ye Bv EC ED oc h5 h6 h7 h8 HP hHeld
      generalize ((w5.setCell ⟨w.heap.size+1+1,b*2,none⟩ (.int .i64 (T.cell r N).num)).setCell ⟨w.heap.size+1+1,b*2+1,none⟩ (.int .i64 ((T.cell r N).den:Int)))=w6 at*
      generalize (iB.setIfInBounds (b*2) (.int .i64 (T.cell r N).num)).setIfInBounds (b*2+1) (.int .i64 ((T.cell r N).den:Int))=Ck at*
      go_wp2
      have h2:=bz sQ.out HR.out.ni
      have h3:=bz sQ.out (HR.out.num r N (by have:=nO.out;omega) (Nat.le_refl _))
      have h4:=bz sQ.out (HR.out.den r N (by have:=nO.out;omega) (Nat.le_refl _))
      have h5:=(ag mX.out 0).trans rfl
      have h6:=(ag mX.out 1).trans rfl
      have Ye:=Aside0.mk (ak sQ.out)
      have Bv:=Aside0.mk (ak Mn.out)
      have EC:=Aside0.mk (ak kZ.out)
      have ED:=Aside0.mk (ak mX.out)
      have oc:=Aside0.mk (bn pP.out)
      clear sQ Mn kZ mX pP
      refine eG (n:=10) (S:=fun w'=>w'.cell? ⟨w.heap.size,529,none⟩=some (.int .i64 (N:Int))/\w'.cell? ⟨w.heap.size,r*32+N*2,none⟩=some (.int .i64 (T.cell r N).num)/\w'.cell? ⟨w.heap.size,r*32+N*2+1,none⟩=some (.int .i64 ((T.cell r N).den:Int))/\w'.cell? ⟨g8,0,none⟩=some (.int .i64 (sm T N n r).num)/\w'.cell? ⟨g8,1,none⟩=some (.int .i64 ((sm T N n r).den:Int))) (ds:=[9]) #[false,false,false,false,false,false,false,false,false,false] (by kernel_rfl) rfl rfl ⟨h2,h3,h4,h5,h6⟩ (fun hHeld=>?_)
      clear h2 h3 h4 h5 h6
      generalize w6.drew=w7 at*
      refine cE (i:=0) (N:=some 47) (v:=?_) (a':=?_) #[true,false,false,false,false,false,false,false,false,false] rfl rfl (by kernel_rfl) (fun _ _ _ h=>h) (Or.inl ⟨by rfl,?_⟩) hHeld ?_ ?_
      rotate_left
      ·rintro w' ⟨s0,s1,s2,s3,s4⟩
       go_simp
       with_reducible rfl
      rotate_left
      ·exact dx
      refine aI (i:=1) (N:=some 48) ?_
      refine aI (i:=2) (N:=some 49) ?_
      refine cE (i:=3) (N:=some 50) (v:=?_) (a':=?_) #[true,true,true,true,false,false,false,false,false,false] rfl rfl (by kernel_rfl) (fun _ _ _ h=>h) (Or.inl ⟨by rfl,?_⟩) hHeld ?_ ?_
      rotate_left
      ·rintro w' ⟨s0,s1,s2,s3,s4⟩
       go_simp
       with_reducible rfl
      rotate_left
      ·exact dx
      refine aI (i:=4) (N:=some 51) ?_
      refine aI (i:=5) (N:=some 52) ?_
      refine aI (i:=6) (N:=some 53) ?_
      refine cE (i:=7) (N:=some 54) (v:=?_) (a':=?_) #[true,true,true,true,true,true,true,true,false,false] rfl rfl (by kernel_rfl) (fun _ _ _ h=>h) (Or.inl ⟨by rfl,?_⟩) hHeld ?_ ?_
      rotate_left
      ·rintro w' ⟨s0,s1,s2,s3,s4⟩
       go_simp
       with_reducible rfl
      rotate_left
      ·exact dx
      refine fK (i:=8) (N:=some 55) #[true,true,true,true,true,true,true,true,true,false] rfl rfl (by kernel_rfl) (by decide) (fun K hK=>?_)
      refine om Try.func20 (by kernel_rfl) rfl #[V (sm T N n r),V (T.cell r N)] (by rfl) rfl rfl (by (try simp only [List.map_toArray,List.map_cons,List.map_nil]);first|done|rfl) ?_
      refine (HAd.out _).mono ?_
      rintro e w8 ⟨rfl,mq⟩
      have sQ:=Aside0.mk (ah Ye.out mq)
      have Mn:=Aside0.mk (ah Bv.out mq)
      have kZ:=Aside0.mk (ah EC.out mq)
      have mX:=Aside0.mk (ah ED.out mq)
      have pP:=Aside0.mk (ai oc.out mq)
      clear Ye Bv EC ED oc mq hHeld
      refine ⟨_,rfl,?_⟩
      have h5:=(ag mX.out 0).trans rfl
      have h6:=(ag mX.out 1).trans rfl
      refine hK.out _ _ ⟨bz sQ.out HR.out.ni,bz sQ.out (HR.out.num r N (by have:=nO.out;omega) (Nat.le_refl _)),bz sQ.out (HR.out.den r N (by have:=nO.out;omega) (Nat.le_refl _)),h5,h6⟩ (fun hHeld=>?_)
      clear hK K hHeld
      refine eP (a':=?_) ?_ ?_
      rotate_left
      ·show Act.put _ (some 55) _=_
       simp only [Act.put,List.setIfInBounds_toArray,List.set_cons_zero,List.set_cons_succ,cZ,eo]
       rfl
      refine nu (i:=9) (N:=none) #[true,true,true,true,true,true,true,true,true,true] rfl rfl (by kernel_rfl) (by decide) (fun K hK=>?_)
      have h7:=aa mX.out 0
      have h8:=aa mX.out 1
      refine ku (w1:=?_) (by rfl) rfl ?_ ?_
      rotate_left
      ·go_simp
       rfl
      refine hK.out _ _ ?_
      clear hK K
      refine fl (by kernel_rfl) ?_
      clear h5 h6 h7 h8
      rw [<-HS2.out]
      have Sq:Aside0 (((w8.setCell ⟨g8,0,none⟩ (.int .i64 (sm T N n (r+1)).num)).setCell ⟨g8,1,none⟩ (.int .i64 ((sm T N n (r+1)).den:Int))).heap[g8]? =some (.cells #[.int .i64 (sm T N n (r+1)).num,.int .i64 ((sm T N n (r+1)).den:Int)] 26 (0,0))):=⟨aX (aX mX.out 0 (.int .i64 (sm T N n (r+1)).num) (cs':= #[.int .i64 (sm T N n (r+1)).num,.int .i64 ((sm T N n r).den:Int)]) rfl) 1 (.int .i64 ((sm T N n (r+1)).den:Int)) (cs':= #[.int .i64 (sm T N n (r+1)).num,.int .i64 ((sm T N n (r+1)).den:Int)]) rfl⟩
      have HF0:Aside0 (((w8.setCell ⟨g8,0,none⟩ (.int .i64 (sm T N n (r+1)).num)).setCell ⟨g8,1,none⟩ (.int .i64 ((sm T N n (r+1)).den:Int))).heap[w.heap.size]? =some (.cells cs 62 (0,0))):=⟨bA (bA sQ.out (by have:=Iu.out;omega)) (by have:=Iu.out;omega)⟩
      have rR:Aside0 (((w8.setCell ⟨g8,0,none⟩ (.int .i64 (sm T N n (r+1)).num)).setCell ⟨g8,1,none⟩ (.int .i64 ((sm T N n (r+1)).den:Int))).heap[w.heap.size+1]? =some (.cells #[.int .i64 0,.int .i64 0] 26 (0,0))):=⟨bA (bA Mn.out (by have:=Iu.out;omega)) (by have:=Iu.out;omega)⟩
      have Iw:Aside0 (((w8.setCell ⟨g8,0,none⟩ (.int .i64 (sm T N n (r+1)).num)).setCell ⟨g8,1,none⟩ (.int .i64 ((sm T N n (r+1)).den:Int))).heap[w.heap.size+1+1]? =some (.cells Ck 26 (0,0))):=⟨bA (bA kZ.out (by have:=Iu.out;omega)) (by have:=Iu.out;omega)⟩
      have Ix:Aside0 (Below w.heap.size w ((w8.setCell ⟨g8,0,none⟩ (.int .i64 (sm T N n (r+1)).num)).setCell ⟨g8,1,none⟩ (.int .i64 ((sm T N n (r+1)).den:Int)))):=⟨br (br pP.out HZ3.out) HZ3.out⟩
      clear sQ Mn kZ mX pP
      generalize ((w8.setCell ⟨g8,0,none⟩ (.int .i64 (sm T N n (r+1)).num)).setCell ⟨g8,1,none⟩ (.int .i64 ((sm T N n (r+1)).den:Int)))=w9 at*
      go_wp2
      go_roundw
      case rel=>exact ⟨r+1,Ck,by first|(rw [oa.out];done)|rfl|(simp;done),nO.out,wZ,HF0,rR,Iw,Sq,Ix⟩
      case measure=>(try rw [oa.out]);have:=nO.out;simp [intOf];omega
     ·have g3:decide ((b:Int)<(n:Int))=false:=decide_eq_false (by omega)
      have Mm:decide (b<n)=false:=decide_eq_false EB
      have wZ:Aside0 (uK iB n (fun j=>((xq T N (r+1) j).num,((xq T N (r+1) j).den:Int)))):=⟨HP.out.congr (fun j hj=>by rw [hq,if_neg (by omega)])⟩
      have HA4:Aside0 (wr.heap[g8]? =some (.cells #[.int .i64 (sm T N n (r+1)).num,.int .i64 ((sm T N n (r+1)).den:Int)] 26 (0,0))):=⟨by rw [hsm,if_neg EB];exact Ml.out⟩
      clear hlt hr hN hmK Co hq hsm a9u EB HP Ml
      go_wp2
      go_roundw
      case rel=>exact ⟨r+1,iB,by first|(rw [oa.out];done)|rfl|(simp;done),nO.out,wZ,pE,eV,iA,HA4,bL⟩
      case measure=>(try rw [oa.out]);have:=nO.out;simp [intOf];omega
    ·have Mo:r=m:=by omega
     have g2:decide ((r:Int)<(m:Int))=false:=decide_eq_false (by omega)
     have Br:decide (r<m)=false:=decide_eq_false hlt
     rw [Mo] at HP Ml
     clear Mo hlt hr
     have h5:=(ag Ml.out 0).trans rfl
     have h6:=(ag Ml.out 1).trans rfl
     have h7:=(ag eV.out 0).trans rfl
     have h8:=(ag eV.out 1).trans rfl
     have h9:=aa eV.out 0
     have h10:=aa eV.out 1
     go_wp2
     have EC:=Aside0.mk (ak iA.out)
     have Bv:=Aside0.mk (ak eV.out)
     have oc:=Aside0.mk (bn bL.out)
     refine eG (n:=4) (S:=fun w'=>w'.cell? ⟨g8,0,none⟩=some (.int .i64 (sm T N n m).num)/\w'.cell? ⟨g8,1,none⟩=some (.int .i64 ((sm T N n m).den:Int))) (ds:=[3]) #[false,false,false,false] (by kernel_rfl) rfl rfl ⟨h5,h6⟩ (fun hHeld=>?_)
     clear h5 h6 h7 h8 h9 h10 pE eV iA Ml bL
     generalize wr.drew=w5 at*
     refine aI (i:=0) (N:=some 57) ?_
     refine cE (i:=1) (N:=some 58) (v:=?_) (a':=?_) #[true,true,false,false] rfl rfl (by kernel_rfl) (fun _ _ _ h=>h) (Or.inl ⟨by rfl,?_⟩) hHeld ?_ ?_
     rotate_left
     ·rintro w' ⟨s0,s1⟩
      go_simp
      with_reducible rfl
     rotate_left
     ·exact dx
     refine aI (i:=2) (N:=some 4) ?_
     refine nu (i:=3) (N:=none) #[true,true,true,true] rfl rfl (by kernel_rfl) (by decide) (fun K hK=>?_)
     have h7:=(ag Bv.out 0).trans rfl
     have h8:=(ag Bv.out 1).trans rfl
     have h9:=aa Bv.out 0
     have h10:=aa Bv.out 1
     refine ku (w1:=?_) (by rfl) rfl ?_ ?_
     rotate_left
     ·go_simp
      rfl
     refine hK.out _ _ ?_
     clear hK K
     refine fl (by kernel_rfl) ?_
     have rR:Aside0 (((w5.setCell ⟨w.heap.size+1,0,none⟩ (.int .i64 (sm T N n m).num)).setCell ⟨w.heap.size+1,1,none⟩ (.int .i64 ((sm T N n m).den:Int))).heap[w.heap.size+1]? =some (.cells #[.int .i64 (sm T N n m).num,.int .i64 ((sm T N n m).den:Int)] 26 (0,0))):=⟨aX (aX Bv.out 0 (.int .i64 (sm T N n m).num) (cs':= #[.int .i64 (sm T N n m).num,.int .i64 0]) rfl) 1 (.int .i64 ((sm T N n m).den:Int)) (cs':= #[.int .i64 (sm T N n m).num,.int .i64 ((sm T N n m).den:Int)]) rfl⟩
     have Iw:Aside0 (((w5.setCell ⟨w.heap.size+1,0,none⟩ (.int .i64 (sm T N n m).num)).setCell ⟨w.heap.size+1,1,none⟩ (.int .i64 ((sm T N n m).den:Int))).heap[w.heap.size+1+1]? =some (.cells iB 26 (0,0))):=⟨bA (bA EC.out (by omega)) (by omega)⟩
     have Ix:Aside0 (Below w.heap.size w ((w5.setCell ⟨w.heap.size+1,0,none⟩ (.int .i64 (sm T N n m).num)).setCell ⟨w.heap.size+1,1,none⟩ (.int .i64 ((sm T N n m).den:Int)))):=⟨br (br oc.out (by omega)) (by omega)⟩
     clear Bv EC oc h7 h8 h9 h10 hHeld
     generalize ((w5.setCell ⟨w.heap.size+1,0,none⟩ (.int .i64 (sm T N n m).num)).setCell ⟨w.heap.size+1,1,none⟩ (.int .i64 ((sm T N n m).den:Int)))=w6 at*
     have h7:=(ag rR.out 0).trans rfl
     have h8:=(ag rR.out 1).trans rfl
     go_wp2
     refine bodyPost_ret (v:= .tuple #[.slice (some ⟨w.heap.size+1+1,0,none⟩) n n,V (sm T N n m)]) (by simp [results,Try.results32,go_sem, *]) rfl ?_
     exact ⟨_,iB,rfl,Iw.out,HP.out,by omega,Ix.out⟩
end Go.Proofs.Ytnhknojfpjheoaa.PT
namespace Go.Proofs.Ytnhknojfpjheoaa.P
open Go.RowKit Go.Proofs.YtnhknojfpjheoaaW.PrintWords Go.Proofs.YtnhknojfpjheoaaW.PrintLast Go.Proofs.YtnhknojfpjheoaaW.PrintMore
attribute [local go_sem] max2_int min2_int max_two min_two max_three min_three max_four min_four
set_option linter.all false
def bU.l0:Nat->Int->List (bV)->Int->Option ((List (bV)))
 |0,_,_,_=>none
 |k+1,x0,x3,x4=>if x4<x0 then (if x3.length<8796093022208 then (bU.l0 k x0 (x3++[(⟨0,1⟩:bV)]) (wrap64 (x4+1))) else (none)) else (some x3)
def bU.f (k:Nat) (a0:Int):Option ((List (bV))):=bU.l0 k a0 (([]:List (bV))) 0
theorem bU.cH:∀k,(∀y0 y1 y2,aW (bU.l0 k y0 y1 y2) (bU.l0 (k+1) y0 y1 y2))
 |0=>fun _ _ _ r h=>by simp [bU.l0] at h
 |k+1=>by
  have dP:=bU.cH k
  ·intro y0 y1 y2
   unfold bU.l0
   repeat' first
   |(with_reducible exact dP _ _ _)
   |(with_reducible exact aW.refl _)
   |(with_reducible exact aW.none _)
   |(with_reducible refine aW.ite ?_ ?_)
   |(with_reducible refine aW.bind ?_ (fun _=>?_))
theorem bU.mono:∀a0 k,aW (bU.f k a0) (bU.f (k+1) a0):=by
 intro a0 k
 have dP:=bU.cH k
 unfold bU.f
 repeat' first
  |(with_reducible exact dP _ _ _)
  |(with_reducible exact aW.refl _)
  |(with_reducible exact aW.none _)
  |(with_reducible refine aW.ite ?_ ?_)
  |(with_reducible refine aW.bind ?_ (fun _=>?_))
set_option maxHeartbeats 8000000 in
set_option maxRecDepth 100000 in
theorem bU.calls (k:Nat) (a0:Int) (r:List (bV)) (w:World) (h:bU.f k a0=some r):
 Calls Try.prog 24 #[.int .i64 a0] w fun e w'=>∃mF:Value,e= .returned (mF)/\Kd.R fD 26 w' w.heap.size (fun _=>True) mF r/\Below w.heap.size w w':=by
 have lY:=Try.underlying26
 have HB:=Aside0.mk (Below.refl w.heap.size w)
 have H:(bU.l0 k a0 (([]:List (bV))) 0)=some r:=h
 clear h
 obtain ⟨a9w,Iy⟩:∃y_:List (bV),y_=(([]:List (bV))):=⟨_,rfl⟩
 replace H:(bU.l0 k a0 a9w 0)=some r:=by first|(rw [Iy];with_reducible exact H)|(have dK:=(Option.bind_some _ _).symm.trans H;rw [Iy];with_reducible exact dK)|(have dK:=(Option.bind_some _ _).symm.trans H;with_reducible exact dK)|with_reducible exact H|(rw [Iy];exact H)|exact H
 have a4b:=Aside0.mk Iy
 clear Iy
 have H':=Aside0.mk H
 clear H
 go_enter Try.func24,Try.ntmps24
 go_wp2_with (first|((with_reducible refine bk (N:=5) rfl ?_);refine Kd.Ag fD _ 26 ?hg (N:=5) ?hd (xs:=([]:List (bV))) (inner:=[]) (ok:=fun _=>True) (fN:=fun _=>True) ?hr ?hp (fun _ hk=>hk) trivial (Below.refl _ _) (Nat.le_refl _) (by simp) ?_;(case hd=>rfl);(case hg=>rfl);(case hr=>first|(go_simp;done)|(go_simp;rfl));(case hp=>exact (cT.none _ _));intro v108 w2 rS hb uw mG;clear uw mG;(first|rw [<-a4b.out] at rS|(simp only [Int.reduceToNat] at rS;rw [<-a4b.out] at rS));have ay:=Aside0.mk (Kd.gG rS (av ax));have aA:=Aside0.mk (ai ax hb);clear HB;have b3I:=ay;have HB:=aA;clear ay aA;clear hb rS))
 go_loopg [3,4] k (fun kq v3 v4 w'=>∃(gS:List (bV)) (dZ:Int),v4= .int .i64 dZ/\Aside0 (bU.l0 kq a0 gS dZ=some r)/\Aside0 (kq<=k)/\Aside0 (Kd.R fD 26 w' w.heap.size (fun _=>True) v3 gS)/\Aside0 (Below w.heap.size w w'))
 case atStart=>exact ⟨(a9w),(0),(by first|rfl|(simp;done)|(simp [*];done)),H',⟨Nat.le_refl _⟩,⟨by (with_reducible repeat (first|apply Kd.cF|apply Kd.dm|apply Kd.dO));exact b3I.out⟩,⟨ax⟩⟩
 case round=>
  clear H'
  try clear c2
  try clear p2
  obtain ⟨gS,dZ,rfl,HA,fI,gT,HB⟩:=hrel
  cases gk with
  |zero=>exact absurd HA.out (by simp [bU.l0])
  |succ k1=>
   have H:=HA.out
   clear HA
   simp only [bU.l0] at H
   by_cases c4:dZ<a0
   ·rw [if_pos c4] at H
    have kP:decide (dZ<a0)=true:=decide_eq_true c4
    clear c4
    by_cases c5:gS.length<8796093022208
    ·rw [if_pos c5] at H
     have b7K:=Aside0.mk c5
     clear c5
     obtain ⟨a9x,Iz⟩:∃y_:List (bV),y_=(gS++[(⟨0,1⟩:bV)]):=⟨_,rfl⟩
     replace H:(bU.l0 k1 a0 a9x (wrap64 (dZ+1)))=some r:=by first|(rw [Iz];with_reducible exact H)|(have dK:=(Option.bind_some _ _).symm.trans H;rw [Iz];with_reducible exact dK)|(have dK:=(Option.bind_some _ _).symm.trans H;with_reducible exact dK)|with_reducible exact H|(rw [Iz];exact H)|exact H
     have b3J:=Aside0.mk Iz
     clear Iz
     have H':=Aside0.mk H
     clear H
     go_wp2_with (first|((with_reducible refine cK (b:= .append) (xs:= #[.tmp 11,.tmp 13]) rfl ?_);at_builtin;refine Kd.fB fD (w0:=w) w.heap.size rfl (.tmp 11) (.tmp 13) 27 26 (.agg #[(.int .i64 0),(.int .i64 0)]) 16 rfl Try.underlying27 WD rfl (by decide) (by omega) u3 gS (⟨0,1⟩:bV) [.int .i64 0,.int .i64 1] (fun _=>True) (fun _=>False) rfl rfl ?aP (fun _ hk=>hk.elim) ?aF ?aO ?aB ?aS ?aL ?_;(case aP=>exact Dl _ _ _ (⟨0,1⟩:bV));(case aB=>exact ax);(case aF=>exact (fun _ _=>trivial));(case aO=>exact (by (with_reducible repeat (first|apply Kd.cF|apply Kd.dm|apply Kd.dO));exact gT.out));(case aS=>exact (av ax));(case aL=>have:=b7K.out;omega);intro v111 w6 ho hb hg hat;rw [<-b3J.out] at ho;have ay:=Aside0.mk (hb);have aA:=Aside0.mk (ho);clear HB;clear gT;have HB:=ay;have b3K:=aA;clear ay aA;clear ho hb hg hat))
     go_roundg k1
     case measure=>have:=fI.out;omega
     case rel=>exact ⟨(a9x),(wrap64 (dZ+1)),(by first|rfl|(simp;done)|(simp [*];done)),H',⟨by have:=fI.out;omega⟩,⟨by (with_reducible repeat (first|apply Kd.cF|apply Kd.dm|apply Kd.dO));exact b3K.out⟩,⟨ax⟩⟩
    ·rw [if_neg c5] at H
     exact absurd H (by simp)
   ·rw [if_neg c4] at H
    have kP:decide (dZ<a0)=false:=decide_eq_false c4
    clear c4
    obtain rfl:=Option.some.inj H
    go_wp2
    go_ret
    exact ⟨_,by first|rfl|(simp [aM,aQ]<;>rfl)|(simp [*,aM,aQ]<;>rfl),by (with_reducible repeat (first|apply Kd.cF|apply Kd.dm|apply Kd.dO));exact gT.out,ax⟩
end Go.Proofs.Ytnhknojfpjheoaa.P
namespace Go.Proofs.Ytnhknojfpjheoaa.PT
open Go.RowKit Go.Proofs.Ytnhknojfpjheoaa.P Go.Proofs.YtnhknojfpjheoaaW.PrintWords Go.Proofs.YtnhknojfpjheoaaW.PrintLast Go.Proofs.Ytnhknojfpjheoaa.EvKit Go.Proofs.Ytnhknojfpjheoaa.Num Go.Proofs.Ytnhknojfpjheoaa.Lp
set_option linter.all false
def iU (R:Nat->Nat->Rat) (c:Nat):Nat->Nat->Nat
 |p,0=>p
 |p,d+1=>if R p c=0 then iU R c (p+1) d else p
theorem PA (R:Nat->Nat->Rat) (c:Nat):∀d p,p<=iU R c p d/\iU R c p d<=p+d
 |0,p=>⟨Nat.le_refl _,Nat.le_refl _⟩
 |d+1,p=>by
  simp only [iU]
  split
  ·have:=PA R c d (p+1);omega
  ·omega
theorem IA (R:Nat->Nat->Rat) (c:Nat):∀d p,iU R c p d<p+d->R (iU R c p d) c≠0
 |0,p=>by simp only [iU];omega
 |d+1,p=>by
  simp only [iU]
  split
  ·intro h;exact IA R c d (p+1) (by omega)
  ·next h=>intro _;exact h
def gi (p c i:Nat):Nat:=if i=c then p else if i=p then c else i
def jM (R:Nat->Nat->Rat) (p c:Nat):Nat->Nat->Rat:=fun i j=>R (gi p c i) j
def fu (R:Nat->Nat->Rat) (c:Nat):Nat->Nat->Rat:=fun r j=>if r=c∨j<c then R r j else R r j - R r c/R c c*R c j
def fZ (n:Nat) (R0:Nat->Nat->Rat):Nat->Option (Nat->Nat->Rat)
 |0=>some R0
 |c+1=>(fZ n R0 c).bind fun R=>if iU R c c (n - c)<n then some (fu (jM R (iU R c c (n - c)) c) c) else none
theorem Mq {n:Nat} {R0:Nat->Nat->Rat}:∀{c d:Nat},fZ n R0 c=none->fZ n R0 (c+d)=none
 |c,0,h=>h
 |c,d+1,h=>by
  show (fZ n R0 (c+d)).bind _=none
  rw [Mq h];rfl
def gK (W:World) (g n:Nat) (q:Nat->Int×Int):Prop:=∃cs:Array Value,W.heap[g]? =some (.cells cs 26 (0,0))/\∀j,j<=n->cs[j*2]? =some (.int .i64 (q j).1)/\cs[j*2+1]? =some (.int .i64 (q j).2)
theorem gK.move {W W1:World} {g n:Nat} {q:Nat->Int×Int} (h:gK W g n q) (e:W1.heap[g]? =W.heap[g]?):gK W1 g n q:=by
 obtain ⟨cs,h1,h2⟩:=h;exact ⟨cs,e.trans h1,h2⟩
theorem gK.lt {W:World} {g n:Nat} {q:Nat->Int×Int} (h:gK W g n q):g<W.heap.size:=by
 obtain ⟨cs,h1,_⟩:=h;exact aY h1
theorem gK.below {W W1:World} {g n:Nat} {q:Nat->Int×Int} (h:gK W g n q) (hb:Below W.heap.size W W1):gK W1 g n q:=h.move (hb.block _ h.lt)
theorem gK.at {W:World} {g n j:Nat} {q:Nat->Int×Int} (h:gK W g n q) (hj:j<=n):W.cell? ⟨g,j*2,none⟩=some (.int .i64 (q j).1)/\W.cell? ⟨g,j*2+1,none⟩=some (.int .i64 (q j).2):=by
 obtain ⟨cs,h1,h2⟩:=h;exact ⟨bz h1 (h2 j hj).1,bz h1 (h2 j hj).2⟩
theorem gK.frozen {W:World} {g n:Nat} {q:Nat->Int×Int} (h:gK W g n q) (k:Nat):W.frozen? ⟨g,k,none⟩=false:=by
 obtain ⟨cs,h1,_⟩:=h;exact aa h1 k
theorem gK.put {W:World} {g n j:Nat} {q:Nat->Int×Int} (h:gK W g n q) (hj:j<=n) (p:Int×Int):gK ((W.setCell ⟨g,j*2,none⟩ (.int .i64 p.1)).setCell ⟨g,j*2+1,none⟩ (.int .i64 p.2)) g n (fun k=>if k=j then p else q k):=by
 obtain ⟨cs,h1,h2⟩:=h
 have hs1:=(Array.getElem?_eq_some_iff.1 (h2 j hj).1).1
 have hs2:=(Array.getElem?_eq_some_iff.1 (h2 j hj).2).1
 refine ⟨_,heap_set (heap_set h1),fun k hk=>?_⟩
 by_cases e:k=j
 ·subst e
  refine ⟨?_,?_⟩
  ·rw [Array.getElem?_setIfInBounds_ne (by omega),Array.getElem?_setIfInBounds,if_pos rfl,if_pos hs1]
   show _=some (Value.int .i64 (if k=k then p else q k).1);rw [if_pos rfl]
  ·rw [Array.getElem?_setIfInBounds,if_pos rfl,if_pos (by simpa using hs2)]
   show _=some (Value.int .i64 (if k=k then p else q k).2);rw [if_pos rfl]
 ·refine ⟨?_,?_⟩
  ·rw [Array.getElem?_setIfInBounds_ne (by omega),Array.getElem?_setIfInBounds_ne (by omega),(h2 k hk).1]
   show _=some (Value.int .i64 (if k=j then p else q k).1);rw [if_neg e]
  ·rw [Array.getElem?_setIfInBounds_ne (by omega),Array.getElem?_setIfInBounds_ne (by omega),(h2 k hk).2]
   show _=some (Value.int .i64 (if k=j then p else q k).2);rw [if_neg e]
theorem gK.other {W:World} {g g' n k:Nat} {v:Value} {q:Nat->Int×Int} (h:gK W g n q) (hne:g≠g'):gK (W.setCell ⟨g',k,none⟩ v) g n q:=by
 obtain ⟨cs,h1,h2⟩:=h;exact ⟨cs,bA h1 hne,h2⟩
theorem gK.congr {W:World} {g n:Nat} {q q':Nat->Int×Int} (h:gK W g n q) (e:∀j,j<=n->q' j=q j):gK W g n q':=by
 obtain ⟨cs,h1,h2⟩:=h;exact ⟨cs,h1,fun j hj=>by rw [e j hj];exact h2 j hj⟩
theorem a6z {W:World} {base n:Nat} {v:Value} (h:Kd.R fD 26 W base (fun _=>True) v (List.replicate (n+1) ⟨0,1⟩)):∃g c,v= .slice (some ⟨g,0,none⟩) (n+1) c/\base<=g/\gK W g n (fun _=>(0,1)):=by
 obtain ⟨_,inner,ho,hr⟩:=h
 rw [List.length_replicate] at ho
 rcases ho.2 with ⟨_,h0⟩|⟨g,cap,cur,rfl,hb,hh,h1,h2,h3,h4⟩
 ·omega
 ·refine ⟨g,cap,rfl,hb,cur,hh,fun j hj=>?_⟩
  have BH:=hr.2 j ⟨0,1⟩ (by rw [List.getElem?_replicate,if_pos (by omega)])
  have hop:=uu BH
  have hsz:(fD).sz=2:=rfl
  rw [hsz] at hop h4
  have e:∀i,i<2->cur[j*2+i]? =([Value.int .i64 0,.int .i64 1]:List Value)[i]? :=by
   intro i hi
   rw [<-hop,List.getElem?_take,if_pos hi,List.getElem?_drop,<-h4,List.getElem?_take,if_pos (by omega)]
   simp
  exact ⟨e 0 (by omega),e 1 (by omega)⟩
abbrev vG:Kd (Nat×Nat×Nat):=Kd.scalar (fun x:Nat×Nat×Nat=>Value.slice (some ⟨x.1,0,none⟩) x.2.1 x.2.2) (fun _=>rfl)
def mA (W:World) (gR n:Nat) (g cp:Nat->Nat):Prop:=∃cs:Array Value,W.heap[gR]? =some (.cells cs 27 (0,0))/\∀i,i<n->cs[i]? =some (.slice (some ⟨g i,0,none⟩) (n+1) (cp i))
theorem a6A {W:World} {base n:Nat} {v:Value} {g cp:Nat->Nat} (hn:0<n) (h:Kd.R vG 27 W base (fun _=>True) v ((List.range n).map (fun i=>(g i,n+1,cp i)))):∃gR c,v= .slice (some ⟨gR,0,none⟩) n c/\base<=gR/\mA W gR n g cp:=by
 obtain ⟨_,inner,ho,hr⟩:=h
 rw [List.length_map,List.length_range] at ho
 rcases ho.2 with ⟨_,h0⟩|⟨gR,cap,cur,rfl,hb,hh,h1,h2,h3,h4⟩
 ·omega
 ·refine ⟨gR,cap,rfl,hb,cur,hh,fun i hi=>?_⟩
  have BH:=hr.2 i (g i,n+1,cp i) (by rw [List.getElem?_map,List.getElem?_range hi];rfl)
  have hop:(inner.drop (i*1)).take 1=[.slice (some ⟨g i,0,none⟩) (n+1) (cp i)]:=BH
  have hsz:(vG).sz=1:=rfl
  rw [hsz] at h4
  have e:(List.take 1 (List.drop (i*1) inner))[0]? =some (.slice (some ⟨g i,0,none⟩) (n+1) (cp i)):=by rw [hop];rfl
  rw [List.getElem?_take,if_pos (by omega),List.getElem?_drop,<-h4,List.getElem?_take,if_pos (by omega)] at e
  simpa using e
theorem mA.move {W W1:World} {gR n:Nat} {g cp:Nat->Nat} (h:mA W gR n g cp) (e:W1.heap[gR]? =W.heap[gR]?):mA W1 gR n g cp:=by
 obtain ⟨cs,h1,h2⟩:=h;exact ⟨cs,e.trans h1,h2⟩
theorem mA.lt {W:World} {gR n:Nat} {g cp:Nat->Nat} (h:mA W gR n g cp):gR<W.heap.size:=by
 obtain ⟨cs,h1,_⟩:=h;exact aY h1
theorem mA.below {W W1:World} {gR n:Nat} {g cp:Nat->Nat} (h:mA W gR n g cp) (hb:Below W.heap.size W W1):mA W1 gR n g cp:=h.move (hb.block _ h.lt)
theorem mA.at {W:World} {gR n i:Nat} {g cp:Nat->Nat} (h:mA W gR n g cp) (hi:i<n):W.cell? ⟨gR,i,none⟩=some (.slice (some ⟨g i,0,none⟩) (n+1) (cp i)):=by
 obtain ⟨cs,h1,h2⟩:=h;exact bz h1 (h2 i hi)
theorem mA.frozen {W:World} {gR n:Nat} {g cp:Nat->Nat} (h:mA W gR n g cp) (i:Nat):W.frozen? ⟨gR,i,none⟩=false:=by
 obtain ⟨cs,h1,_⟩:=h;exact aa h1 i
theorem mA.other {W:World} {gR g' n k:Nat} {v:Value} {g cp:Nat->Nat} (h:mA W gR n g cp) (hne:gR≠g'):mA (W.setCell ⟨g',k,none⟩ v) gR n g cp:=by
 obtain ⟨cs,h1,h2⟩:=h;exact ⟨cs,bA h1 hne,h2⟩
theorem mA.ne {W:World} {gR n k:Nat} {g cp:Nat->Nat} {q:Nat->Int×Int} (h:mA W gR n g cp) (hr:gK W k n q):k≠gR:=by
 obtain ⟨cs,h1,_⟩:=h;obtain ⟨cs',h2,_⟩:=hr
 exact Wk h2 h1 (by decide)
theorem mA.put {W:World} {gR n i:Nat} {g cp:Nat->Nat} (h:mA W gR n g cp) (hi:i<n) (a b:Nat):mA (W.setCell ⟨gR,i,none⟩ (.slice (some ⟨a,0,none⟩) (n+1) b)) gR n (fun k=>if k=i then a else g k) (fun k=>if k=i then b else cp k):=by
 obtain ⟨cs,h1,h2⟩:=h
 have hs1:=(Array.getElem?_eq_some_iff.1 (h2 i hi)).1
 refine ⟨_,heap_set h1,fun k hk=>?_⟩
 by_cases e:k=i
 ·subst e
  rw [Array.getElem?_setIfInBounds,if_pos rfl,if_pos hs1]
  show _=some (Value.slice (some ⟨if k=k then a else g k,0,none⟩) (n+1) (if k=k then b else cp k))
  rw [if_pos rfl,if_pos rfl]
 ·rw [Array.getElem?_setIfInBounds_ne (by omega),h2 k hk]
  show _=some (Value.slice (some ⟨if k=i then a else g k,0,none⟩) (n+1) (if k=i then b else cp k))
  rw [if_neg e,if_neg e]
section
variable {x y:Rat} {a b c d:Nat}
theorem Sr (w:World) (hx:Sz a b x) (hy:Sz c d y) (h1:a*d<=9223372036854775807) (h2:b*c<=9223372036854775807) (hy0:y≠0):
 Calls Try.prog 62 #[V x,V y] w fun e w'=>e= .returned (V (x/y))/\Below w.heap.size w w':=by
 obtain ⟨k,hk⟩:=Ev.rounds (a6w hx hy h1 h2 hy0)
 exact kK.calls k x.num x.den y.num y.den _ _ w hk
theorem a1h (w:World) (hx:Sz a b x) (hy:Sz c d y) (h1:a*c<=9223372036854775807) (h2:b*d<=9223372036854775807):
 Calls Try.prog 64 #[V x,V y] w fun e w'=>e= .returned (V (x*y))/\Below w.heap.size w w':=by
 obtain ⟨k,hk⟩:=Ev.rounds (a1c hx hy h1 h2)
 exact jL.calls k x.num x.den y.num y.den _ _ w hk
theorem a1i (w:World) (hx:Sz a b x) (hy:Sz c d y) (h1:a*d+c*b<=9223372036854775807) (h2:b*d<=9223372036854775807):
 Calls Try.prog 63 #[V x,V y] w fun e w'=>e= .returned (V (x - y))/\Below w.heap.size w w':=by
 obtain ⟨k,hk⟩:=Ev.rounds (a1b hx hy h1 h2)
 exact jK.calls k x.num x.den y.num y.den _ _ w hk
end
theorem PB (n:Nat) (hn:n<=1048576):Ev (fun k=>bU.f k (n:Int)) (List.replicate n ⟨0,1⟩):=by
 unfold bU.f
 have key:∀d i,i+d=n->Ev (fun k=>bU.l0 k (n:Int) (List.replicate i ⟨0,1⟩) (i:Int)) (List.replicate n ⟨0,1⟩):=by
  intro d
  induction d with
  |zero=>
   intro i hi
   refine Ev.succ ?_
   simp only [bU.l0]
   rw [show i=n by omega]
   exact Ev.neg (by omega) (Ev.now _)
  |succ d ih=>
   intro i hi
   have ih:=ih (i+1) (by omega)
   refine Ev.succ ?_
   simp only [bU.l0,eD (show i<=9223372036854775806 by omega)]
   refine Ev.pos (by omega) (Ev.pos (by simp;omega) ?_)
   rw [List.replicate_succ'] at ih
   exact ih
 exact key n 0 (by omega)
theorem a6B (n:Nat) (hn:n<=1048575) (w:World):Calls Try.prog 24 #[.int .i64 ((n+1:Nat):Int)] w fun e w'=>∃g c,e= .returned (.slice (some ⟨g,0,none⟩) (n+1) c)/\w.heap.size<=g/\gK w' g n (fun _=>(0,1))/\Below w.heap.size w w':=by
 obtain ⟨k,hk⟩:=Ev.rounds (PB (n+1) (by omega))
 refine (bU.calls k _ _ w hk).mono ?_
 rintro e w1 ⟨v,rfl,hr,hb⟩
 obtain ⟨g,c,rfl,hg,hB⟩:=a6z hr
 exact ⟨g,c,rfl,hg,hB,hb⟩
def gQ (ch:List cC) (n k j:Nat):Rat:=if j=n then (((ch.getD k z49).f2:Int):Rat) else if (j:Int)∈(ch.getD k z49).f0 then 1 else 0
abbrev qp (x:Rat):Int×Int:=(x.num,(x.den:Int))
theorem a6C {W W1:World} {base:Nat} {v:Value} {xs:List (Nat×Nat×Nat)} (h:Kd.R vG 27 W base (fun _=>True) v xs) (hm:∀k:Nat,(∃cells:Array Value,W.heap[k]? =some (.cells cells 27 (0,0)))->W1.heap[k]? =W.heap[k]?):Kd.R vG 27 W1 base (fun _=>True) v xs:=by
 have h':Kd.R vG 27 W base (fun k=>v.ownBlock=some k) v xs:=⟨fun k hk=>hk,h.2.ny (fun _ _ hp=>hp)⟩
 refine Kd.dU (Kd.wF h' (fun k hk=>hm k ?_)) (fun _ _=>trivial)
 obtain ⟨_,inner,ho,_⟩:=h
 exact pH ho k hk
theorem Ss {W:World} {base g k l:Nat} {v u u':Value} {xs:List (Nat×Nat×Nat)} {cs:Array Value} (h:Kd.R vG 27 W base (fun _=>True) v xs) (hr:W.heap[g]? =some (.cells cs 26 (0,0))):Kd.R vG 27 ((W.setCell ⟨g,k,none⟩ u).setCell ⟨g,l,none⟩ u') base (fun _=>True) v xs:=by
 refine a6C h (fun m ⟨cells,hl⟩=>?_)
 have hne:m≠g:=Wk hl hr (by decide)
 exact (bA (bA hl hne) hne).trans hl.symm
theorem Yf (W:World) (p p':Addr) (v v':Value):((W.setCell p v).setCell p' v').heap.size=W.heap.size:=by
 have h1:((W.setCell p v).setCell p' v').heap.size=(W.setCell p v).heap.size:=Array.size_modify
 have h2:(W.setCell p v).heap.size=W.heap.size:=Array.size_modify
 exact h1.trans h2
theorem IB {W W1:World} {base g n:Nat} {v:Value} {xs:List (Nat×Nat×Nat)} {q:Nat->Int×Int} (h:gK W g n q) (hR:Kd.R vG 27 W base (fun _=>True) v xs) (hg:W.grownBy W1 v.ownBlock):gK W1 g n q:=
 h.move (hg.block g h.lt (fun e=>by
  obtain ⟨_,inner,ho,_⟩:=hR
  obtain ⟨cells,hk⟩:=pH ho g e.symm
  obtain ⟨cs,hc,_⟩:=h
  rw [hc] at hk;simp only [Option.some.injEq,Obj.cells.injEq] at hk
  exact absurd hk.2.1 (by decide)))
structure GOk (n c:Nat) (R:Nat->Nat->Rat):Prop where
 sz:∀i j,i<n->j<=n->Sz 2822400 2822400 (R i j)
 f:iU R c c (n - c)<n->∀r,r<n->r≠c->Sz 2822400 2822400 (jM R (iU R c c (n - c)) c r c/jM R (iU R c c (n - c)) c c c)
 pr:iU R c c (n - c)<n->∀r j,r<n->r≠c->j<=n->Sz 4741632000 4741632000 (jM R (iU R c c (n - c)) c r c/jM R (iU R c c (n - c)) c c c*jM R (iU R c c (n - c)) c c j)
structure a9y (n:Nat) (R:Nat->Nat->Rat):Prop where
 sz:∀i j,i<n->j<=n->Sz 2822400 2822400 (R i j)
 ne:∀c,c<n->R c c≠0
def Cp (w:World) (n:Nat) (o:Option (Nat->Nat->Rat)) (e:Ending) (w':World):Prop:=
 ∃v0:Value,e= .returned (.tuple #[v0,.bool o.isSome])/\Kd.R fD 26 w' w.heap.size (fun _=>True) v0 (match o with|none=>[]|some R=>(List.range n).map (fun c=>(⟨(R c n/R c c).num,((R c n/R c c).den:Int)⟩:bV)))/\Below w.heap.size w w'
theorem PC {R:Nat->Nat->Rat} {c:Nat}:∀(d p q:Nat),p<=q->q<=p+d->(∀i,p<=i->i<q->R i c=0)->(q=p+d∨R q c≠0)->iU R c p d=q
 |0,p,q,h1,h2,_,_=>by simp only [iU];omega
 |d+1,p,q,h1,h2,h3,h4=>by
  simp only [iU]
  by_cases e:q=p
  ·subst e
   rcases h4 with h4|h4
   ·omega
   ·rw [if_neg h4]
  ·rw [if_pos (h3 p (Nat.le_refl _) (by omega))]
   exact PC d (p+1) q (by omega) (by omega) (fun i hi hi2=>h3 i (by omega) hi2) (h4.imp (by omega) id)
theorem a6D {n c:Nat} {R0 R:Nat->Nat->Rat} (h:fZ n R0 c=some R) (hc:c<n) (hp:¬iU R c c (n - c)<n):fZ n R0 n=none:=by
 have h1:fZ n R0 (c+1)=none:=by
  show (fZ n R0 c).bind _=none
  rw [h];show (if _ then _ else _)=none;rw [if_neg hp]
 have:=Mq (d:=n -(c+1)) h1
 rwa [show c+1+(n -(c+1))=n by omega] at this
theorem a6E {n c:Nat} {R0 R:Nat->Nat->Rat} (h:fZ n R0 c=some R) (hp:iU R c c (n - c)<n):fZ n R0 (c+1)=some (fu (jM R (iU R c c (n - c)) c) c):=by
 show (fZ n R0 c).bind _=_
 rw [h];show (if _ then _ else _)=_;rw [if_pos hp]
structure GS (w:World) (gR n:Nat) (W:World) (g cp:Nat->Nat) (R:Nat->Nat->Rat):Prop where
 out:mA W gR n g cp
 row:∀k,k<n->gK W (g k) n (fun j=>qp (R k j))
 lo:∀k,k<n->w.heap.size<=g k
 inj:∀k l,k<n->l<n->g k=g l->k=l
 PD:w.heap.size<=gR
 dN:Below w.heap.size w W
section
variable {w W W1:World} {gR n:Nat} {g cp:Nat->Nat} {R:Nat->Nat->Rat}
theorem GS.below (h:GS w gR n W g cp R) (hb:Below W.heap.size W W1):GS w gR n W1 g cp R:=
 ⟨h.out.below hb,fun k hk=>(h.row k hk).below hb,h.lo,h.inj,h.PD,ai h.dN hb⟩
theorem GS.congr {R':Nat->Nat->Rat} (h:GS w gR n W g cp R) (e:∀k j,k<n->j<=n->R' k j=R k j):GS w gR n W g cp R':=
 ⟨h.out,fun k hk=>(h.row k hk).congr (fun j hj=>by rw [e k j hk hj]),h.lo,h.inj,h.PD,h.dN⟩
theorem GS.put (h:GS w gR n W g cp R) {i j:Nat} (hi:i<n) (hj:j<=n) (x:Rat):GS w gR n ((W.setCell ⟨g i,j*2,none⟩ (.int .i64 x.num)).setCell ⟨g i,j*2+1,none⟩ (.int .i64 (x.den:Int))) g cp (fun k l=>if k=i/\l=j then x else R k l):=by
 refine ⟨(h.out.other (fun e=>h.out.ne (h.row i hi) e.symm)).other (fun e=>h.out.ne (h.row i hi) e.symm),fun k hk=>?_,h.lo,h.inj,h.PD,br (br h.dN (h.lo i hi)) (h.lo i hi)⟩
 by_cases e:k=i
 ·subst e
  refine ((h.row k hk).put hj (qp x)).congr (fun l hl=>?_)
  show qp (if k=k/\l=j then x else R k l)=if l=j then qp x else qp (R k l)
  by_cases e2:l=j
  ·rw [if_pos ⟨rfl,e2⟩,if_pos e2]
  ·rw [if_neg (fun h=>e2 h.2),if_neg e2]
 ·refine (((h.row k hk).other (fun e2=>e (h.inj k i hk hi e2))).other (fun e2=>e (h.inj k i hk hi e2))).congr (fun l hl=>?_)
  show qp (if k=i/\l=j then x else R k l)=qp (R k l)
  rw [if_neg (fun h=>e h.1)]
theorem GS.far (h:GS w gR n W g cp R) {x:Nat} (h1:gR≠x) (h2:∀l,l<n->g l≠x) (h3:w.heap.size<=x) (k:Nat) (v:Value):GS w gR n (W.setCell ⟨x,k,none⟩ v) g cp R:=
 ⟨h.out.other h1,fun l hl=>(h.row l hl).other (h2 l hl),h.lo,h.inj,h.PD,br h.dN h3⟩
theorem GS.swap (h:GS w gR n W g cp R) {p c:Nat} (hp:p<n) (hc:c<n):GS w gR n ((W.setCell ⟨gR,p,none⟩ (.slice (some ⟨g c,0,none⟩) (n+1) (cp c))).setCell ⟨gR,c,none⟩ (.slice (some ⟨g p,0,none⟩) (n+1) (cp p))) (fun k=>g (gi p c k)) (fun k=>cp (gi p c k)) (jM R p c):=by
 have hlt:∀k,k<n->gi p c k<n:=fun k hk=>by unfold gi;split;exact hp;split;exact hc;exact hk
 have hsi:∀k l,gi p c k=gi p c l->k=l:=fun k l e=>by unfold gi at e;(repeat' split at e)<;>omega
 have hne:∀k,k<n->g k≠gR:=fun k hk=>h.out.ne (h.row k hk)
 refine ⟨?_,fun k hk=>((h.row _ (hlt k hk)).other (hne _ (hlt k hk))).other (hne _ (hlt k hk)),fun k hk=>h.lo _ (hlt k hk),fun k l hk hl e=>hsi k l (h.inj _ _ (hlt k hk) (hlt l hl) e),h.PD,br (br h.dN h.PD) h.PD⟩
 obtain ⟨cs,h1,h2⟩:=(h.out.put hp (g c) (cp c)).put hc (g p) (cp p)
 refine ⟨cs,h1,fun k hk=>?_⟩
 rw [h2 k hk]
 show some (Value.slice (some ⟨if k=c then g p else if k=p then g c else g k,0,none⟩) (n+1) (if k=c then cp p else if k=p then cp c else cp k))=some (Value.slice (some ⟨g (gi p c k),0,none⟩) (n+1) (cp (gi p c k)))
 unfold gi
 by_cases e:k=c
 ·rw [if_pos e,if_pos e,if_pos e]
 ·rw [if_neg e,if_neg e,if_neg e]
  by_cases e2:k=p
  ·rw [if_pos e2,if_pos e2,if_pos e2]
  ·rw [if_neg e2,if_neg e2,if_neg e2]
end
theorem a1j (w:World):Kd.R vG 27 (w.alloc (.cells #[] 27)) w.heap.size (fun _=>True) (.slice (some ⟨w.heap.size,0,none⟩) 0 0) []:=
 ⟨fun _ _=>trivial,[],⟨rfl,.inr ⟨w.heap.size,0,#[],rfl,Nat.le_refl _,bW w _,Nat.le_refl _,by unfold maxLen;omega,rfl,rfl⟩⟩,cT.none _ _⟩
theorem a1k (w:World):Kd.R fD 26 (w.alloc (.cells #[] 26)) w.heap.size (fun _=>True) (.slice (some ⟨w.heap.size,0,none⟩) 0 0) []:=
 ⟨fun _ _=>trivial,[],⟨rfl,.inr ⟨w.heap.size,0,#[],rfl,Nat.le_refl _,bW w _,Nat.le_refl _,by unfold maxLen;omega,rfl,rfl⟩⟩,cT.none _ _⟩
theorem a1l {W:World} {base:Nat} {v:Value} {xs:List (Nat×Nat×Nat)} (h:Kd.R vG 27 W base (fun _=>True) v xs):∃B m d,v= .slice B m d:=by
 obtain ⟨B,d,e⟩:=Kd.cX h
 exact ⟨B,_,d,e⟩
set_option maxHeartbeats 2000000 in
set_option maxRecDepth 100000 in
theorem Vd (A:Option Addr) (c0 n:Nat) (ch:List cC) (w:World) (hC:Kd.C jh w A ch.length ch) (hc:ch.length<=c0) (hn:ch.length=n) (PE:0<n) (sR:n<=7)
 (hS:∀c R,c<n->fZ n (gQ ch n) c=some R->GOk n c R) (hE:∀R,fZ n (gQ ch n) n=some R->a9y n R)
 (hat:∀d,d∈ch->d.f0.length<=1048576/\∀x,x∈d.f0->0<=x/\x<(n:Int)):
 Calls Try.prog 48 #[.int .i64 (n:Int),.slice A ch.length c0] w (Cp w n (fZ n (gQ ch n) n)):=by
 have hu:=Try.underlying49
 have HC:=Aside0.mk hC
 have HN:=Aside0.mk hn
 have HAt:=Aside0.mk hat
 have HSz:=Aside0.mk hS
 have HEn:=Aside0.mk hE
 have HZ:Aside0 (∀W,Calls Try.prog 24 #[.int .i64 ((n:Int)+1)] W fun e w'=>∃g c,e= .returned (.slice (some ⟨g,0,none⟩) (n+1) c)/\W.heap.size<=g/\gK w' g n (fun _=>(0,1))/\Below W.heap.size W w'):=⟨a6B n (by omega)⟩
 have HB:=Aside0.mk (Below.refl w.heap.size w)
 have hw1:IntKind.i64.wrap ((n:Int)+1)=((n+1:Nat):Int):=by rw [cZ,cL (by omega) (by omega)];rfl
 rw [hn]
 rw [hn] at hc
 clear hC hat hn hS hE
 go_enter Try.func48,Try.ntmps48
 go_wp2
 have eL:=Aside0.mk (a1j w)
 have jo:Aside0 (Below w.heap.size w (w.alloc (.cells #[] 27))):=⟨aK (Below.refl _ _) _⟩
 generalize w.alloc (.cells #[] 27)=w0 at*
 go_loopw [6,23] (fun rv iv wr=>∃(i:Nat) (g cp:Nat->Nat),iv= .int .i64 (i:Int)/\i<=n/\Aside0 (Kd.R vG 27 wr w.heap.size (fun _=>True) rv ((List.range i).map (fun k=>(g k,n+1,cp k))))/\Aside0 (∀k,k<i->gK wr (g k) n (fun j=>qp (gQ ch n k j))/\w.heap.size<=g k)/\Aside0 (∀k l,k<i->l<i->g k=g l->k=l)/\Aside0 (Below w.heap.size w wr)) (fun _ iv _=>n -(intOf iv).toNat)
 case atStart=>exact ⟨0,fun _=>0,fun _=>0,rfl,by omega,eL,⟨fun k hk=>by omega⟩,⟨fun k l hk=>by omega⟩,jo⟩
 case round=>
  clear eL jo
  obtain ⟨i,g,cp,rfl,hi,HO,Mr,Ve,bL⟩:=hrel
  by_cases hin:i<n
  ·have Su:=Aside0.mk hin
   have hic:i<ch.length:=by rw [HN.out];exact hin
   obtain ⟨ad,A1,c1,e,hx0,hx1,hx2,Bw,qI⟩:=Ol HC.out (i:Int) (by omega) (by omega)
   cases e
   have hd:se ch (i:Int)=ch.getD i z49:=rfl
   have hmem:ch.getD i z49∈ch:=by
    have:ch.getD i z49=ch[i]:=by simp [List.getD_eq_getElem?_getD,hic]
    rw [this];exact List.getElem_mem hic
   have nB:=HAt.out _ hmem
   have a9z:∀j,gQ ch n i j=if j=n then (((ch.getD i z49).f2:Int):Rat) else if (j:Int)∈(ch.getD i z49).f0 then 1 else 0:=fun j=>rfl
   rw [hd] at hx0 hx1 hx2 Bw qI
   rw [Int.toNat_natCast] at hx0 hx1 hx2
   generalize ch.getD i z49=dd at*
   obtain ⟨iK,up,bd⟩:=dd
   dsimp only at*
   replace hx0:=(bL.out.cell (World.block_lt_of_cell? w _ hx0)).trans hx0
   replace hx1:=(bL.out.cell (World.block_lt_of_cell? w _ hx1)).trans hx1
   replace hx2:=(bL.out.cell (World.block_lt_of_cell? w _ hx2)).trans hx2
   have iJ:=Aside0.mk qI
   have a9A:=Aside0.mk nB
   have b7L:=Aside0.mk a9z
   have g0:(0:Int)<=(i:Int):=by omega
   have g1:(i:Int)<(n:Int):=by omega
   have vH:decide ((i:Int)<(n:Int))=true:=decide_eq_true g1
   have sD:decide (i<n)=true:=decide_eq_true hin
   have fy:Aside0 (wrap64 ((i:Int)+1)=((i+1:Nat):Int)):=⟨eD (by omega)⟩
   clear hin hi hic hmem nB a9z qI Bw hd
   go_wp2_with (first|(go_at_call 24;(with_reducible refine (HZ.out _).mono ?_);rintro e w1 ⟨gz,cz,rfl,hgz,hrz,hbz⟩;have hba:Below wr.heap.size wr w1:=ai (aK (Below.refl _ _) _) hbz;have dG:=Aside0.mk (ai bL.out hba);have rT:=Aside0.mk (Kd.mC HO.out hba);have tO:Aside0 (∀k,k<i->gK w1 (g k) n (fun j=>qp (gQ ch n k j))/\w.heap.size<=g k/\g k≠gz):=⟨fun k hk=>⟨(Mr.out k hk).1.below hba,(Mr.out k hk).2,by have h1:=(Mr.out k hk).1.lt;rw [kL] at hgz;omega⟩⟩;have pQ:=Aside0.mk (ah (bW wr (.cells #[.slice A1 iK.length c1,.bool up,.int .i64 bd] 49)) hbz);have uL:=Aside0.mk hrz;have PF:Aside0 (w.heap.size<=gz/\wr.heap.size<gz):=⟨by rw [kL] at hgz;have:=bL.out.size;omega⟩;have Yg:=(ag pQ.out 0).trans rfl;clear hba hbz hgz hrz))
   have xT:Aside0 (wr.heap.size<w1.heap.size/\w.heap.size<=wr.heap.size):=⟨aY pQ.out,bL.out.size⟩
   clear HO Mr bL hx0 hx1 hx2
   generalize wr.heap.size=g8 at*
   go_loopw [33] (fun kv wr=>∃k:Nat,kv= .int .i64 (k:Int)/\k<=iK.length/\Aside0 (gK wr gz n (fun j=>if (j:Int)∈iK.take k/\j<n then (1,1) else (0,1)))/\Aside0 (Kd.R vG 27 wr w.heap.size (fun _=>True) u6 ((List.range i).map (fun k=>(g k,n+1,cp k))))/\Aside0 (∀k,k<i->gK wr (g k) n (fun j=>qp (gQ ch n k j))/\w.heap.size<=g k/\g k≠gz)/\Aside0 (wr.heap[g8]? =some (.cells #[.slice A1 iK.length c1,.bool up,.int .i64 bd] 49 (0,0)))/\Aside0 (Below w.heap.size w wr)) (fun kv _=>iK.length -(intOf kv).toNat)
   case atStart=>exact ⟨0,rfl,by omega,⟨uL.out.congr (fun j _=>by rw [if_neg (by simp)])⟩,rT,tO,pQ,dG⟩
   case round=>
    clear uL rT tO pQ dG Yg
    obtain ⟨k,rfl,hk,uL,rT,tO,pQ,dG⟩:=hrel
    by_cases Ms:k<iK.length
    ·have HKl:=Aside0.mk Ms
     obtain ⟨IC,e,hy⟩:=Kd.fC iJ.out (k:Int) (by omega) (by omega)
     cases e
     have hxk:rd iK (k:Int)=iK[k]:=qa Ms
     rw [hxk,Int.toNat_natCast] at hy
     obtain ⟨xn,Yh⟩:∃xn:Nat,iK[k]=(xn:Int)/\xn<n:=⟨(iK[k]).toNat,by have:=a9A.out.2 _ (List.getElem_mem Ms);omega⟩
     have EE:wr.cell? (IC.add k)=some (.int .i64 (xn:Int)):=by rw [<-Yh.1];exact (dG.out.cell (World.block_lt_of_cell? w _ hy)).trans hy
     have a1m:Aside0 (gK ((wr.setCell ⟨gz,xn*2,none⟩ (.int .i64 1)).setCell ⟨gz,xn*2+1,none⟩ (.int .i64 1)) gz n (fun j=>if (j:Int)∈iK.take (k+1)/\j<n then (1,1) else (0,1))):=⟨(uL.out.put (by omega) (1,1)).congr (fun j hj=>by
      rw [List.take_succ_eq_append_getElem Ms,Yh.1]
      by_cases e:j=xn
      ·rw [if_pos e,if_pos ⟨by rw [e];simp,by omega⟩]
      ·rw [if_neg e]
       have:((j:Int)∈List.take k iK++[(xn:Int)])↔(j:Int)∈List.take k iK:=by
        rw [List.mem_append,List.mem_singleton]
        exact ⟨fun h=>h.resolve_right (by omega),fun h=> .inl h⟩
       by_cases e2:(j:Int)∈List.take k iK/\j<n
       ·rw [if_pos e2,if_pos ⟨this.2 e2.1,e2.2⟩]
       ·rw [if_neg e2,if_neg (fun h=>e2 ⟨this.1 h.1,h.2⟩)])⟩
     have hr1:=(uL.out.at (show xn<=n by omega)).1
     have hr2:=(uL.out.at (show xn<=n by omega)).2
     have hr3:=uL.out.frozen (xn*2)
     have hr4:=uL.out.frozen (xn*2+1)
     have g2:(0:Int)<=(k:Int):=by omega
     have g3:(k:Int)<(iK.length:Int):=by omega
     have g3d:decide ((k:Int)<(iK.length:Int))=true:=decide_eq_true g3
     have Mm:decide (k<iK.length)=true:=decide_eq_true Ms
     have g4:(0:Int)<=(xn:Int):=by omega
     have g5:(xn:Int)<((n+1:Nat):Int):=by omega
     have g6:(xn:Int)<(n:Int)+1:=by omega
     have HKk:Aside0 (wrap64 ((k:Int)+1)=((k+1:Nat):Int)):=⟨eD (by have:=a9A.out.1;omega)⟩
     have Bx:Aside0 (Kd.R vG 27 ((wr.setCell ⟨gz,xn*2,none⟩ (.int .i64 1)).setCell ⟨gz,xn*2+1,none⟩ (.int .i64 1)) w.heap.size (fun _=>True) u6 ((List.range i).map (fun k=>(g k,n+1,cp k)))):=⟨by
      obtain ⟨cs,hcs,b7M⟩:=uL.out
      exact Ss rT.out hcs⟩
     have Cq:Aside0 (∀k,k<i->gK ((wr.setCell ⟨gz,xn*2,none⟩ (.int .i64 1)).setCell ⟨gz,xn*2+1,none⟩ (.int .i64 1)) (g k) n (fun j=>qp (gQ ch n k j))/\w.heap.size<=g k/\g k≠gz):=⟨fun k hk=>⟨((tO.out k hk).1.other (tO.out k hk).2.2).other (tO.out k hk).2.2,(tO.out k hk).2⟩⟩
     have Sv:=Aside0.mk (bA (k:=xn*2+1) (v:= .int .i64 1) (bA (k:=xn*2) (v:= .int .i64 1) pQ.out (show g8≠gz by have:=PF.out;omega)) (show g8≠gz by have:=PF.out;omega))
     have iw:Aside0 (Below w.heap.size w ((wr.setCell ⟨gz,xn*2,none⟩ (.int .i64 1)).setCell ⟨gz,xn*2+1,none⟩ (.int .i64 1))):=⟨br (br dG.out PF.out.1) PF.out.1⟩
     clear Ms hk hxk hy Yh uL rT tO pQ dG
     go_wp2
     go_roundw
     case rel=>exact ⟨k+1,by first|(rw [HKk.out];done)|rfl|(simp;done),HKl.out,a1m,Bx,Cq,Sv,iw⟩
     case measure=>(try rw [HKk.out]);have:=HKl.out;simp [intOf];omega
    ·have a9D:k=iK.length:=by omega
     have g3d:decide ((k:Int)<(iK.length:Int))=false:=decide_eq_false (by omega)
     have Mm:decide (k<iK.length)=false:=decide_eq_false Ms
     have hr1:=(uL.out.at (Nat.le_refl n)).1
     have hr2:=(uL.out.at (Nat.le_refl n)).2
     have hr3:=uL.out.frozen (n*2)
     have hr4:=uL.out.frozen (n*2+1)
     have hq2:=(ag pQ.out 2).trans rfl
     have g4:(0:Int)<=(n:Int):=by omega
     have g6:(n:Int)<(n:Int)+1:=by omega
     have a1m:Aside0 (gK ((wr.setCell ⟨gz,n*2,none⟩ (.int .i64 bd)).setCell ⟨gz,n*2+1,none⟩ (.int .i64 1)) gz n (fun j=>qp (gQ ch n i j))):=⟨(uL.out.put (Nat.le_refl n) (bd,1)).congr (fun j hj=>by
      rw [b7L.out]
      by_cases e:j=n
      ·rw [if_pos e,if_pos e];rfl
      ·rw [if_neg e,if_neg e,a9D,List.take_length]
       by_cases e2:(j:Int)∈iK
       ·rw [if_pos e2,if_pos ⟨e2,by omega⟩];rfl
       ·rw [if_neg e2,if_neg (fun h=>e2 h.1)];rfl)⟩
     have Bx:Aside0 (Kd.R vG 27 ((wr.setCell ⟨gz,n*2,none⟩ (.int .i64 bd)).setCell ⟨gz,n*2+1,none⟩ (.int .i64 1)) w.heap.size (fun _=>True) u6 ((List.range i).map (fun k=>(g k,n+1,cp k)))):=⟨by
      obtain ⟨cs,hcs,b7M⟩:=uL.out
      exact Ss rT.out hcs⟩
     have Cq:Aside0 (∀k,k<i->gK ((wr.setCell ⟨gz,n*2,none⟩ (.int .i64 bd)).setCell ⟨gz,n*2+1,none⟩ (.int .i64 1)) (g k) n (fun j=>qp (gQ ch n k j))/\w.heap.size<=g k/\g k≠gz):=⟨fun k hk=>⟨((tO.out k hk).1.other (tO.out k hk).2.2).other (tO.out k hk).2.2,(tO.out k hk).2⟩⟩
     have iw:Aside0 (Below w.heap.size w ((wr.setCell ⟨gz,n*2,none⟩ (.int .i64 bd)).setCell ⟨gz,n*2+1,none⟩ (.int .i64 1))):=⟨br (br dG.out PF.out.1) PF.out.1⟩
     have HHx:Aside0 ((wr.setCell ⟨gz,n*2,none⟩ (.int .i64 bd)).setCell ⟨gz,n*2+1,none⟩ (.int .i64 1)=(wr.setCell ⟨gz,n*2,none⟩ (.int .i64 bd)).setCell ⟨gz,n*2+1,none⟩ (.int .i64 1)):=⟨rfl⟩
     clear a9D Ms hk uL rT tO pQ dG
     go_wp2_with (first|((with_reducible refine cK (b:= .append) (xs:= #[.tmp 48,.tmp 50]) rfl ?_);at_builtin;refine Kd.fB vG (w0:=w) w.heap.size rfl _ _ 89 27 (.slice none 0 0) 24 rfl Try.underlying89 (by kernel_rfl) rfl (by decide) (by omega) u6 ((List.range i).map (fun k=>(g k,n+1,cp k))) (gz,n+1,cz) [.slice (some ⟨gz,0,none⟩) (n+1) cz] (fun _=>True) (fun _=>False) rfl (by first|rfl|exact congrArg (fun n=>Value.slice (some ⟨n,0,none⟩) 1 1) (Yf _ _ _ _ _).symm|(go_simp;done)|(go_simp;rfl)) rfl (fun _ hk=>hk.elim) (fun _ _=>trivial) Bx.out iw.out iw.out.size (by rw [List.length_map,List.length_range];have:=Su.out;omega) ?_;intro v1 w3 rS hb3 hg3 xd;obtain ⟨B3,m3,d3,rfl⟩:=a1l rS;have HO3:=Aside0.mk rS;have xe:=Aside0.mk hb3;have a9E:=Aside0.mk (IB a1m.out Bx.out hg3);have PG:Aside0 (∀k,k<i->gK w3 (g k) n (fun j=>qp (gQ ch n k j))/\w.heap.size<=g k/\g k≠gz):=⟨fun k hk=>⟨IB (Cq.out k hk).1 Bx.out hg3,(Cq.out k hk).2⟩⟩;clear rS hb3 hg3 xd))
     have a4d:(List.range (i+1)).map (fun k=>((if k=i then gz else g k:Nat),n+1,(if k=i then cz else cp k:Nat)))=(List.range i).map (fun k=>(g k,n+1,cp k))++[(gz,n+1,cz)]:=by
      rw [List.range_succ,List.map_append,List.map_singleton,if_pos rfl,if_pos rfl]
      congr 1
      refine List.map_congr_left (fun k hk=>?_)
      have:=List.mem_range.1 hk
      rw [if_neg (by omega),if_neg (by omega)]
     have PI:Aside0 (Kd.R vG 27 w3 w.heap.size (fun _=>True) (.slice B3 m3 d3) ((List.range (i+1)).map (fun k=>((if k=i then gz else g k:Nat),n+1,(if k=i then cz else cp k:Nat))))):=⟨by rw [a4d];exact HO3.out⟩
     have b7N:Aside0 (∀k,k<i+1->gK w3 (if k=i then gz else g k) n (fun j=>qp (gQ ch n k j))/\w.heap.size<=(if k=i then gz else g k)):=⟨fun k hk=>by
      by_cases e:k=i
      ·rw [if_pos e,e];exact ⟨a9E.out,PF.out.1⟩
      ·rw [if_neg e];exact ⟨(PG.out k (by omega)).1,(PG.out k (by omega)).2.1⟩⟩
     have b3L:Aside0 (∀k l,k<i+1->l<i+1->(if k=i then gz else g k)=(if l=i then gz else g l)->k=l):=⟨fun k l hk hl h=>by
      by_cases e:k=i
      ·by_cases e2:l=i
       ·omega
       ·rw [if_pos e,if_neg e2] at h;exact absurd h.symm (PG.out l (by omega)).2.2
      ·by_cases e2:l=i
       ·rw [if_neg e,if_pos e2] at h;exact absurd h (PG.out k (by omega)).2.2
       ·rw [if_neg e,if_neg e2] at h;exact Ve.out k l (by omega) (by omega) h⟩
     clear a4d HO3 PG a9E
     go_roundw
     case rel=>exact ⟨i+1,_,_,by first|(rw [fy.out];done)|rfl|(simp;done),Su.out,PI,b7N,b3L,xe⟩
     case measure=>(try rw [fy.out]);have:=Su.out;simp [intOf];omega
  ·have KU:i=n:=by omega
   have vH:decide ((i:Int)<(n:Int))=false:=decide_eq_false (by omega)
   have sD:decide (i<n)=false:=decide_eq_false hin
   rw [KU] at HO Mr Ve
   clear KU hin hi
   obtain ⟨gR,cR,rfl,hgR,hOB⟩:=a6A PE HO.out
   have HOB:=Aside0.mk hOB
   have HGR:=Aside0.mk hgR
   clear hOB hgR HO
   have PJ:Aside0 (GS w gR n wr g cp (gQ ch n)):=⟨HOB.out,fun k hk=>(Mr.out k hk).1,fun k hk=>(Mr.out k hk).2,Ve.out,HGR.out,bL.out⟩
   clear HOB Mr Ve HGR bL
   go_wp2
   go_loopw [12] (fun cv wr=>∃(c:Nat) (R:Nat->Nat->Rat) (g cp:Nat->Nat),cv= .int .i64 (c:Int)/\c<=n/\Aside0 (fZ n (gQ ch n) c=some R)/\Aside0 (GS w gR n wr g cp R)) (fun cv _=>n -(intOf cv).toNat)
   case atStart=>exact ⟨0,_,g,cp,rfl,by omega,⟨rfl⟩,PJ⟩
   case round=>
    clear PJ
    obtain ⟨c,R,g,cp,rfl,Mt,HR,HG⟩:=hrel
    by_cases hc:c<n
    ·have lF:=Aside0.mk hc
     have HOk:=Aside0.mk (HSz.out c R hc HR.out)
     have c0':(0:Int)<=(c:Int):=by omega
     have c1':(c:Int)<(n:Int):=by omega
     have c1d:decide ((c:Int)<(n:Int))=true:=decide_eq_true c1'
     have c1n:decide (c<n)=true:=decide_eq_true hc
     have c2':(c:Int)<(n:Int)+1:=by omega
     have xU:Aside0 (wrap64 ((c:Int)+1)=((c+1:Nat):Int)):=⟨eD (by omega)⟩
     clear hc Mt
     go_wp2
     go_loopw [13] (fun pv wr=>∃p:Nat,pv= .int .i64 (p:Int)/\p<=n/\Aside0 (c<=p/\∀i,c<=i->i<p->R i c=0)/\Aside0 (GS w gR n wr g cp R)) (fun pv _=>n -(intOf pv).toNat)
     case atStart=>exact ⟨c,rfl,by have:=lF.out;omega,⟨Nat.le_refl _,fun i h1 h2=>by omega⟩,HG⟩
     case round=>
      clear HG
      obtain ⟨p,rfl,EF,HP,HG⟩:=hrel
      by_cases hp:p<n
      ·have PK:=Aside0.mk hp
       have p0:(0:Int)<=(p:Int):=by omega
       have p1:(p:Int)<(n:Int):=by omega
       have p1d:decide ((p:Int)<(n:Int))=true:=decide_eq_true p1
       have EG:decide (p<n)=true:=decide_eq_true hp
       have p2:((p:Int)==(n:Int))=false:=beq_eq_false_iff_ne.mpr (by omega)
       have p2n:(p==n)=false:=beq_eq_false_iff_ne.mpr (by omega)
       have hx1:=HG.out.out.at hp
       have hx2:=((HG.out.row p hp).at (Nat.le_of_lt lF.out)).1
       have HKp:Aside0 (wrap64 ((p:Int)+1)=((p+1:Nat):Int)):=⟨eD (by omega)⟩
       by_cases hz:R p c=0
       ·have e1:((R p c).num==0)=true:=by rw [Lp.sign_zero.2 hz];rfl
        have wZ:Aside0 (c<=p+1/\∀i,c<=i->i<p+1->R i c=0):=⟨by have:=HP.out.1;omega,fun i h1 h2=>by
         by_cases e:i=p
         ·rw [e];exact hz
         ·exact HP.out.2 i h1 (by omega)⟩
        clear hz hp EF p2 p2n
        go_wp2
        go_roundw
        case rel=>exact ⟨p+1,by first|(rw [HKp.out];done)|rfl|(simp;done),PK.out,wZ,HG⟩
        case measure=>(try rw [HKp.out]);have:=PK.out;simp [intOf];omega
       ·have e1:((R p c).num==0)=false:=beq_eq_false_iff_ne.mpr (fun h=>hz (Lp.sign_zero.1 h))
        have Yi:iU R c c (n - c)=p:=PC (n - c) c p HP.out.1 (by omega) HP.out.2 (.inr hz)
        have Sw:=Aside0.mk Yi
        have hx3:=HG.out.out.at lF.out
        have mV:=HG.out.out.frozen p
        have zw:(wr.setCell ⟨gR,p,none⟩ (.slice (some ⟨g c,0,none⟩) (n+1) (cp c))).cell? ⟨gR,c,none⟩=some (if c=p then .slice (some ⟨g c,0,none⟩) (n+1) (cp c) else .slice (some ⟨g c,0,none⟩) (n+1) (cp c)):=by
         have:=(HG.out.out.put hp (g c) (cp c)).at lF.out
         rw [this]
         by_cases e:c=p
         ·rw [if_pos e,if_pos e,if_pos e]
         ·rw [if_neg e,if_neg e,if_neg e]
        rw [ite_self] at zw
        have hf2:=(HG.out.out.put hp (g c) (cp c)).frozen c
        have Sy:=Aside0.mk (HG.out.swap hp lF.out)
        clear hz hp EF Yi HP
        go_wp2
        generalize (wr.setCell ⟨gR,p,none⟩ (.slice (some ⟨g c,0,none⟩) (n+1) (cp c))).setCell ⟨gR,c,none⟩ (.slice (some ⟨g p,0,none⟩) (n+1) (cp p))=w5 at*
        have hok:=HOk.out
        have HGJ:=Aside0.mk (a6E HR.out (by rw [Sw.out];exact PK.out))
        rw [Sw.out] at HGJ
        have rR:Aside0 (∀r,r<n->r≠c->Sz 2822400 2822400 (jM R p c r c/jM R p c c c)):=⟨by have:=hok.f;rw [Sw.out] at this;exact this PK.out⟩
        have Iw:Aside0 (∀r j,r<n->r≠c->j<=n->Sz 4741632000 4741632000 (jM R p c r c/jM R p c c c*jM R p c c j)):=⟨by have:=hok.pr;rw [Sw.out] at this;exact this PK.out⟩
        have Sq:Aside0 (∀i j,i<n->j<=n->Sz 2822400 2822400 (jM R p c i j)):=⟨fun i j hi hj=>hok.sz _ j (by unfold gi;have:=PK.out;have:=lF.out;(repeat' split)<;>omega) hj⟩
        have EH:Aside0 (jM R p c c c≠0):=⟨by
         have h:=IA R c (n - c) c (by rw [Sw.out];have:=PK.out;have:=lF.out;omega)
         rw [Sw.out] at h
         show R (gi p c c) c≠0
         unfold gi;rw [if_pos rfl];exact h⟩
        clear hok hx1 hx2 hx3 zw mV hf2 HG HOk
        generalize (fun k=>g (gi p c k))=g1 at*
        generalize (fun k=>cp (gi p c k))=pF at*
        generalize jM R p c=R1 at*
        have sQ:Aside0 (GS w gR n w5 g1 pF (fun k l=>if k<0 then fu R1 c k l else R1 k l)):=⟨Sy.out.congr (fun k l _ _=>by rw [if_neg (by omega)])⟩
        clear Sy
        go_loopw [95] (fun rv wr=>∃r:Nat,rv= .int .i64 (r:Int)/\r<=n/\Aside0 (GS w gR n wr g1 pF (fun k l=>if k<r then fu R1 c k l else R1 k l))) (fun rv _=>n -(intOf rv).toNat)
        case atStart=>exact ⟨0,rfl,by omega,sQ⟩
        case round=>
         clear sQ
         obtain ⟨r,rfl,hrn,HG⟩:=hrel
         by_cases hr:r<n
         ·have vI:=Aside0.mk hr
          have r0:(0:Int)<=(r:Int):=by omega
          have r1:(r:Int)<(n:Int):=by omega
          have r1d:decide ((r:Int)<(n:Int))=true:=decide_eq_true r1
          have r1n:decide (r<n)=true:=decide_eq_true hr
          have nt:Aside0 (wrap64 ((r:Int)+1)=((r+1:Nat):Int)):=⟨eD (by omega)⟩
          have hx1:=HG.out.out.at hr
          have hv1:∀l,(if r<r then fu R1 c r l else R1 r l)=R1 r l:=fun l=>if_neg (by omega)
          have hx2:=((HG.out.row r hr).at (Nat.le_of_lt lF.out)).1
          simp only [hv1] at hx2
          by_cases hrc:r=c
          ·have Sy:Aside0 (GS w gR n wr g1 pF (fun k l=>if k<r+1 then fu R1 c k l else R1 k l)):=⟨HG.out.congr (fun k l _ _=>by
            by_cases e:k=r
            ·rw [if_pos (by omega),if_neg (by omega)];unfold fu;rw [if_pos (by omega)]
            ·by_cases e2:k<r
             ·rw [if_pos (by omega),if_pos e2]
             ·rw [if_neg (by omega),if_neg e2])⟩
           have e0:((r:Int)==(c:Int))=true:=by rw [hrc];simp
           have e0n:(r==c)=true:=by rw [hrc];simp
           have PL:=Aside0.mk hrc
           clear hrc hr hrn HG hv1
           go_wp2
           go_roundw
           case rel=>exact ⟨r+1,by first|(rw [nt.out];done)|rfl|(simp;done)|(rw [PL.out];first|rfl|(simp;done)),vI.out,Sy⟩
           case measure=>(try rw [nt.out]);have:=vI.out;simp [intOf];omega
          ·have e0:((r:Int)==(c:Int))=false:=beq_eq_false_iff_ne.mpr (by omega)
           have e0n:(r==c)=false:=beq_eq_false_iff_ne.mpr hrc
           have PL:=Aside0.mk hrc
           by_cases hz:R1 r c=0
           ·have e1:((R1 r c).num==0)=true:=by rw [Lp.sign_zero.2 hz];rfl
            have Sy:Aside0 (GS w gR n wr g1 pF (fun k l=>if k<r+1 then fu R1 c k l else R1 k l)):=⟨HG.out.congr (fun k l _ _=>by
             by_cases e:k=r
             ·rw [if_pos (by omega),if_neg (by omega),e];unfold fu
              split
              ·rfl
              ·rw [hz];grind
             ·by_cases e2:k<r
              ·rw [if_pos (by omega),if_pos e2]
              ·rw [if_neg (by omega),if_neg e2])⟩
            clear hrc hr hrn HG hv1 hz
            go_wp2
            go_roundw
            case rel=>exact ⟨r+1,by first|(rw [nt.out];done)|rfl|(simp;done),vI.out,Sy⟩
            case measure=>(try rw [nt.out]);have:=vI.out;simp [intOf];omega
           ·have e1:((R1 r c).num==0)=false:=beq_eq_false_iff_ne.mpr (fun h=>hz (Lp.sign_zero.1 h))
            have hcc:∀l,(if c<r then fu R1 c c l else R1 c l)=R1 c l:=fun l=>by
             by_cases e:c<r
             ·rw [if_pos e];unfold fu;rw [if_pos (Or.inl rfl)]
             ·rw [if_neg e]
            have HVc:=Aside0.mk hcc
            have HVr:=Aside0.mk hv1
            have Yj:=Aside0.mk (fun W=>Sr W (Sq.out r c hr (Nat.le_of_lt lF.out)) (Sq.out c c lF.out (Nat.le_of_lt lF.out)) (by omega) (by omega) EH.out)
            have HS:Aside0 (∀W,GS w gR n W g1 pF (fun k l=>if k<r then fu R1 c k l else R1 k l)->W.cell? ⟨gR,r,none⟩=some (.slice (some ⟨g1 r,0,none⟩) (n+1) (pF r))/\W.cell? ⟨g1 r,c*2,none⟩=some (.int .i64 (R1 r c).num)/\W.cell? ⟨g1 r,c*2+1,none⟩=some (.int .i64 ((R1 r c).den:Int))/\W.cell? ⟨gR,c,none⟩=some (.slice (some ⟨g1 c,0,none⟩) (n+1) (pF c))/\W.cell? ⟨g1 c,c*2,none⟩=some (.int .i64 (R1 c c).num)/\W.cell? ⟨g1 c,c*2+1,none⟩=some (.int .i64 ((R1 c c).den:Int))):=⟨fun W h=>by
             have a1:=(h.row r hr).at (Nat.le_of_lt lF.out)
             have a2:=(h.row c lF.out).at (Nat.le_of_lt lF.out)
             simp only [hv1] at a1
             simp only [hcc] at a2
             exact ⟨h.out.at hr,a1.1,a1.2,h.out.at lF.out,a2.1,a2.2⟩⟩
            clear hrc hr hrn hz hv1 hcc
            go_wp2
            clear hx1 hx2
            go_cut [16] from 112 to 126 (fun s_ wx=>∃g16,s_= .pointer (some ⟨g16,0,none⟩)/\Aside0 (GS w gR n wx g1 pF (fun k l=>if k<r then fu R1 c k l else R1 k l))/\Aside0 (wx.heap[g16]? =some (.cells #[.int .i64 (R1 r c/R1 c c).num,.int .i64 ((R1 r c/R1 c c).den:Int)] 26 (0,0)))/\Aside0 (w.heap.size<=g16/\∀k,k<n->g1 k≠g16))
            case first=>
             have zy:Aside0 (w.heap.size<=wr.heap.size/\gR<wr.heap.size/\∀k,k<n->g1 k<wr.heap.size):=⟨HG.out.dN.size,HG.out.out.lt,fun k hk=>(HG.out.row k hk).lt⟩
             have HSd:=Aside0.mk (HS.out _ (HG.out.below (bn (Below.refl _ _))))
             have HSa:=Aside0.mk (fun o=>HS.out _ (HG.out.below (aK (bn (Below.refl _ _)) o)))
             go_region_held3 (fun w'=>w'.cell? ⟨gR,r,none⟩=some (.slice (some ⟨g1 r,0,none⟩) (n+1) (pF r))/\w'.cell? ⟨g1 r,c*2,none⟩=some (.int .i64 (R1 r c).num)/\w'.cell? ⟨g1 r,c*2+1,none⟩=some (.int .i64 ((R1 r c).den:Int))/\w'.cell? ⟨gR,c,none⟩=some (.slice (some ⟨g1 c,0,none⟩) (n+1) (pF c))/\w'.cell? ⟨g1 c,c*2,none⟩=some (.int .i64 (R1 c c).num)/\w'.cell? ⟨g1 c,c*2+1,none⟩=some (.int .i64 ((R1 c c).den:Int))) (first|(with_reducible exact Ez.out)|(with_reducible exact b7O.out _)|(with_reducible exact b7P.out _ _)|(with_reducible exact b7Q.out _ _ _ _)|exact HSd.out|exact HSa.out _) (first|(go_at_call 62;(with_reducible refine (Yj.out _).mono ?_);rintro e w1 ⟨rfl,hb1⟩;(first|(have PM:Aside0 (w1.heap[wr.heap.size]? =some (.cells #[.int .i64 0,.int .i64 0] 26 (0,0))):=⟨ah (bW wr.drew (.cells #[.int .i64 0,.int .i64 0] 26)) hb1⟩;have hz0:w1.cell? ⟨wr.heap.size,0,none⟩=some (.int .i64 0):=(ag PM.out 0).trans rfl;have hz1:w1.cell? ⟨wr.heap.size,1,none⟩=some (.int .i64 0):=(ag PM.out 1).trans rfl;have hz2:=aa PM.out 0;have hz3:=aa PM.out 1;have hb2:Below wr.heap.size wr w1:=ai (aK (bn (Below.refl _ _)) _) hb1)|(have hb2:Below wr.heap.size wr w1:=ai (bn (Below.refl _ _)) hb1));have PN:=Aside0.mk (HG.out.below hb2);have Ez:=Aside0.mk (HS.out _ PN.out);have b7O:=Aside0.mk (fun o=>HS.out _ (PN.out.below (aK (Below.refl _ _) o)));have HGp:Aside0 (∀k v,GS w gR n (w1.setCell ⟨wr.heap.size,k,none⟩ v) g1 pF (fun k l=>if k<r then fu R1 c k l else R1 k l)):=⟨fun k v=>PN.out.far (Nat.ne_of_lt zy.out.2.1) (fun l hl=>Nat.ne_of_lt (zy.out.2.2 l hl)) zy.out.1 k v⟩;have b7P:=Aside0.mk (fun k v=>HS.out _ (HGp.out k v));have b7Q:=Aside0.mk (fun k v k' v'=>HS.out _ ((HGp.out k v).far (Nat.ne_of_lt zy.out.2.1) (fun l hl=>Nat.ne_of_lt (zy.out.2.2 l hl)) zy.out.1 k' v'));have HWt:Aside0 (wr.heap.size<=w1.heap.size):=⟨hb2.size⟩;clear hb2 hb1))
             all_goals
              go_wp2_with fail
              go_meet
              case rel=>first|exact ⟨_,rfl,⟨PN.out.below (aK (Below.refl _ _) _)⟩,⟨bW _ _⟩,⟨by have h1:=zy.out.1;have h2:=HWt.out;omega,fun k hk=>by have h1:=zy.out.2.2 k hk;have h2:=HWt.out;omega⟩⟩|exact ⟨_,rfl,⟨(HGp.out 0 _).far (Nat.ne_of_lt zy.out.2.1) (fun l hl=>Nat.ne_of_lt (zy.out.2.2 l hl)) zy.out.1 1 _⟩,⟨aX (aX PM.out 0 (.int .i64 (R1 r c/R1 c c).num) (cs':= #[.int .i64 (R1 r c/R1 c c).num,.int .i64 0]) rfl) 1 (.int .i64 ((R1 r c/R1 c c).den:Int)) (cs':= #[.int .i64 (R1 r c/R1 c c).num,.int .i64 ((R1 r c/R1 c c).den:Int)]) rfl⟩,⟨zy.out.1,fun k hk=>Nat.ne_of_lt (zy.out.2.2 k hk)⟩⟩
            case rest=>
            obtain ⟨g16,rfl,Mu,HX6,vJ⟩:=hcut
            clear HG HS Yj
            generalize wc=w6 at*
            have HF:=Aside0.mk (rR.out r vI.out PL.out)
            have HJ0:Aside0 (GS w gR n w6 g1 pF (fun k l=>if k<r then fu R1 c k l else if k=r/\l<c then fu R1 c r l else R1 k l)):=⟨Mu.out.congr (fun k l _ _=>by
             by_cases e:k<r
             ·rw [if_pos e,if_pos e]
             ·rw [if_neg e,if_neg e]
              by_cases e2:k=r/\l<c
              ·rw [if_pos e2,e2.1];unfold fu;rw [if_pos (Or.inr e2.2)]
              ·rw [if_neg e2])⟩
            clear Mu
            go_wp2
            go_loopw [17] (fun jv wr=>∃j:Nat,jv= .int .i64 (j:Int)/\c<=j/\j<=n+1/\Aside0 (GS w gR n wr g1 pF (fun k l=>if k<r then fu R1 c k l else if k=r/\l<j then fu R1 c r l else R1 k l))/\Aside0 (wr.heap[g16]? =some (.cells #[.int .i64 (R1 r c/R1 c c).num,.int .i64 ((R1 r c/R1 c c).den:Int)] 26 (0,0)))) (fun jv _=>n+1 -(intOf jv).toNat)
            case atStart=>exact ⟨c,rfl,Nat.le_refl _,by have:=lF.out;omega,HJ0,HX6⟩
            case round=>
             clear HJ0 HX6
             obtain ⟨j,rfl,hcj,hjn,HG,HX⟩:=hrel
             by_cases hj:j<=n
             ·have ID:=Aside0.mk hj
              have HCj:=Aside0.mk hcj
              have j0:(0:Int)<=(j:Int):=by omega
              have j1:(j:Int)<=(n:Int):=by omega
              have j1d:decide ((j:Int)<=(n:Int))=true:=decide_eq_true j1
              have j1n:decide (j<=n)=true:=decide_eq_true hj
              have j2:(j:Int)<(n:Int)+1:=by omega
              have kC:Aside0 (wrap64 ((j:Int)+1)=((j+1:Nat):Int)):=⟨eD (by omega)⟩
              have Yk:(if r<r then fu R1 c r j else if r=r/\j<j then fu R1 c r j else R1 r j)=R1 r j:=by rw [if_neg (by omega),if_neg (by omega)]
              have hcc:(if c<r then fu R1 c c j else if c=r/\j<j then fu R1 c r j else R1 c j)=R1 c j:=by
               by_cases e:c<r
               ·rw [if_pos e];unfold fu;rw [if_pos (Or.inl rfl)]
               ·rw [if_neg e,if_neg (by omega)]
              have HS:Aside0 (∀W,GS w gR n W g1 pF (fun k l=>if k<r then fu R1 c k l else if k=r/\l<j then fu R1 c r l else R1 k l)->W.heap[g16]? =some (.cells #[.int .i64 (R1 r c/R1 c c).num,.int .i64 ((R1 r c/R1 c c).den:Int)] 26 (0,0))->W.cell? ⟨gR,r,none⟩=some (.slice (some ⟨g1 r,0,none⟩) (n+1) (pF r))/\W.cell? ⟨g1 r,j*2,none⟩=some (.int .i64 (R1 r j).num)/\W.cell? ⟨g1 r,j*2+1,none⟩=some (.int .i64 ((R1 r j).den:Int))/\W.cell? ⟨gR,c,none⟩=some (.slice (some ⟨g1 c,0,none⟩) (n+1) (pF c))/\W.cell? ⟨g1 c,j*2,none⟩=some (.int .i64 (R1 c j).num)/\W.cell? ⟨g1 c,j*2+1,none⟩=some (.int .i64 ((R1 c j).den:Int))/\W.cell? ⟨g16,0,none⟩=some (.int .i64 (R1 r c/R1 c c).num)/\W.cell? ⟨g16,1,none⟩=some (.int .i64 ((R1 r c/R1 c c).den:Int))):=⟨fun W h hx=>by
               have a1:W.cell? ⟨g1 r,j*2,none⟩=some (.int .i64 (R1 r j).num)/\W.cell? ⟨g1 r,j*2+1,none⟩=some (.int .i64 ((R1 r j).den:Int)):=by
                have t:=(h.row r vI.out).at hj
                rw [<-Yk];exact t
               have a2:W.cell? ⟨g1 c,j*2,none⟩=some (.int .i64 (R1 c j).num)/\W.cell? ⟨g1 c,j*2+1,none⟩=some (.int .i64 ((R1 c j).den:Int)):=by
                have t:=(h.row c lF.out).at hj
                rw [<-hcc];exact t
               exact ⟨h.out.at vI.out,a1.1,a1.2,h.out.at lF.out,a2.1,a2.2,(ag hx 0).trans rfl,(ag hx 1).trans rfl⟩⟩
              have uJ:=Aside0.mk (fun W=>a1h W HF.out (Sq.out c j lF.out hj) (by omega) (by omega))
              have zu:=Aside0.mk (fun W=>a1i W (Sq.out r j vI.out hj) (Iw.out r j vI.out PL.out hj) (by omega) (by omega))
              have HEq:Aside0 (∀W,GS w gR n W g1 pF (fun k l=>if k=r/\l=j then R1 r j - R1 r c/R1 c c*R1 c j else if k<r then fu R1 c k l else if k=r/\l<j then fu R1 c r l else R1 k l)->GS w gR n W g1 pF (fun k l=>if k<r then fu R1 c k l else if k=r/\l<j+1 then fu R1 c r l else R1 k l)):=⟨fun W h=>h.congr (fun k l _ _=>by
               by_cases e:k=r/\l=j
               ·rw [if_pos e,if_neg (by omega),if_pos (by omega)];unfold fu;rw [if_neg (by have:=PL.out;omega),e.2]
               ·rw [if_neg e]
                by_cases e1:k<r
                ·rw [if_pos e1,if_pos e1]
                ·rw [if_neg e1,if_neg e1]
                 by_cases e2:k=r/\l<j
                 ·rw [if_pos e2,if_pos (by omega)]
                 ·rw [if_neg e2,if_neg (by omega)])⟩
              clear hj hcj hjn Yk hcc
              go_wp2
              have HG':=Aside0.mk (HG.out.below (bn (Below.refl _ _)))
              have SA:=Aside0.mk (ak HX.out)
              clear HG HX
              obtain ⟨h1,h2,h3,h4,h5,h6,h7,h8⟩:=HS.out _ HG'.out SA.out
              refine eG (n:=24) (S:=fun w'=>w'.cell? ⟨gR,r,none⟩=some (.slice (some ⟨g1 r,0,none⟩) (n+1) (pF r))/\w'.cell? ⟨g1 r,j*2,none⟩=some (.int .i64 (R1 r j).num)/\w'.cell? ⟨g1 r,j*2+1,none⟩=some (.int .i64 ((R1 r j).den:Int))/\w'.cell? ⟨gR,c,none⟩=some (.slice (some ⟨g1 c,0,none⟩) (n+1) (pF c))/\w'.cell? ⟨g1 c,j*2,none⟩=some (.int .i64 (R1 c j).num)/\w'.cell? ⟨g1 c,j*2+1,none⟩=some (.int .i64 ((R1 c j).den:Int))/\w'.cell? ⟨g16,0,none⟩=some (.int .i64 (R1 r c/R1 c c).num)/\w'.cell? ⟨g16,1,none⟩=some (.int .i64 ((R1 r c/R1 c c).den:Int))) (ds:=[23]) #[false,false,false,false,false,false,false,false,false,false,false,false,false,false,false,false,false,false,false,false,false,false,false,false] (by kernel_rfl) rfl rfl ⟨h1,h2,h3,h4,h5,h6,h7,h8⟩ (fun hHeld=>?_)
              generalize wr.drew=w7 at*
              refine aI (i:=0) (N:=some 133) ?_
              refine aI (i:=1) (N:=some 134) ?_
              refine aI (i:=2) (N:=some 135) ?_
              refine cE (i:=3) (N:=some 136) (v:=?_) (a':=?_) #[true,true,true,true,false,false,false,false,false,false,false,false,false,false,false,false,false,false,false,false,false,false,false,false] rfl rfl (by kernel_rfl) (fun _ _ _ h=>h) (Or.inl ⟨by rfl,?_⟩) hHeld ?_ ?_
              rotate_left
              ·rintro w' ⟨s0,s1,s2,s3,s4,s5,s6,s7⟩
               go_simp
               with_reducible rfl
              rotate_left
              ·exact dx
              refine aI (i:=4) (N:=some 137) ?_
              refine aI (i:=5) (N:=some 138) ?_
              refine aI (i:=6) (N:=some 139) ?_
              refine aI (i:=7) (N:=some 140) ?_
              refine cE (i:=8) (N:=some 141) (v:=?_) (a':=?_) #[true,true,true,true,true,true,true,true,true,false,false,false,false,false,false,false,false,false,false,false,false,false,false,false] rfl rfl (by kernel_rfl) (fun _ _ _ h=>h) (Or.inl ⟨by rfl,?_⟩) hHeld ?_ ?_
              rotate_left
              ·rintro w' ⟨s0,s1,s2,s3,s4,s5,s6,s7⟩
               go_simp
               with_reducible rfl
              rotate_left
              ·exact dx
              refine aI (i:=9) (N:=some 142) ?_
              refine aI (i:=10) (N:=some 143) ?_
              refine cE (i:=11) (N:=some 144) (v:=?_) (a':=?_) #[true,true,true,true,true,true,true,true,true,true,true,true,false,false,false,false,false,false,false,false,false,false,false,false] rfl rfl (by kernel_rfl) (fun _ _ _ h=>h) (Or.inl ⟨by rfl,?_⟩) hHeld ?_ ?_
              rotate_left
              ·rintro w' ⟨s0,s1,s2,s3,s4,s5,s6,s7⟩
               go_simp
               with_reducible rfl
              rotate_left
              ·exact dx
              refine cE (i:=12) (N:=some 145) (v:=?_) (a':=?_) #[true,true,true,true,true,true,true,true,true,true,true,true,true,false,false,false,false,false,false,false,false,false,false,false] rfl rfl (by kernel_rfl) (fun _ _ _ h=>h) (Or.inl ⟨by rfl,?_⟩) hHeld ?_ ?_
              rotate_left
              ·rintro w' ⟨s0,s1,s2,s3,s4,s5,s6,s7⟩
               go_simp
               with_reducible rfl
              rotate_left
              ·exact dx
              refine aI (i:=13) (N:=some 146) ?_
              refine aI (i:=14) (N:=some 147) ?_
              refine aI (i:=15) (N:=some 148) ?_
              refine cE (i:=16) (N:=some 149) (v:=?_) (a':=?_) #[true,true,true,true,true,true,true,true,true,true,true,true,true,true,true,true,true,false,false,false,false,false,false,false] rfl rfl (by kernel_rfl) (fun _ _ _ h=>h) (Or.inl ⟨by rfl,?_⟩) hHeld ?_ ?_
              rotate_left
              ·rintro w' ⟨s0,s1,s2,s3,s4,s5,s6,s7⟩
               go_simp
               with_reducible rfl
              rotate_left
              ·exact dx
              refine aI (i:=17) (N:=some 150) ?_
              refine aI (i:=18) (N:=some 151) ?_
              refine cE (i:=19) (N:=some 152) (v:=?_) (a':=?_) #[true,true,true,true,true,true,true,true,true,true,true,true,true,true,true,true,true,true,true,true,false,false,false,false] rfl rfl (by kernel_rfl) (fun _ _ _ h=>h) (Or.inl ⟨by rfl,?_⟩) hHeld ?_ ?_
              rotate_left
              ·rintro w' ⟨s0,s1,s2,s3,s4,s5,s6,s7⟩
               go_simp
               with_reducible rfl
              rotate_left
              ·exact dx
              refine fK (i:=20) (N:=some 153) #[true,true,true,true,true,true,true,true,true,true,true,true,true,true,true,true,true,true,true,true,true,false,false,false] rfl rfl (by kernel_rfl) (by decide) (fun K hK=>?_)
              refine pY 64 #[V (R1 r c/R1 c c),V (R1 c j)] (by rfl) rfl ?_ ?_
              ·go_simp
              refine (uJ.out _).mono ?_
              rintro e w8 ⟨rfl,mq⟩
              have Mv:=Aside0.mk (HG'.out.below mq)
              have pJ:=Aside0.mk (ah SA.out mq)
              clear mq HG' SA h1 h2 h3 h4 h5 h6 h7 h8 uJ
              refine ⟨_,rfl,?_⟩
              refine hK.out _ _ (HS.out _ Mv.out pJ.out) (fun hHeld=>?_)
              clear hK K hHeld
              refine eP (a':=?_) ?_ ?_
              rotate_left
              ·show Act.put _ (some 153) _=_
               simp only [Act.put,List.setIfInBounds_toArray,List.set_cons_zero,List.set_cons_succ,cZ,eo]
               rfl
              refine fK (i:=21) (N:=some 154) #[true,true,true,true,true,true,true,true,true,true,true,true,true,true,true,true,true,true,true,true,true,true,false,false] rfl rfl (by kernel_rfl) (by decide) (fun K hK=>?_)
              refine pY 63 #[V (R1 r j),V (R1 r c/R1 c c*R1 c j)] (by rfl) rfl ?_ ?_
              ·go_simp
              refine (zu.out _).mono ?_
              rintro e w9 ⟨rfl,IE⟩
              have Bn:=Aside0.mk (Mv.out.below IE)
              have Mw:=Aside0.mk (ah pJ.out IE)
              clear IE Mv pJ zu
              refine ⟨_,rfl,?_⟩
              refine hK.out _ _ (HS.out _ Bn.out Mw.out) (fun hHeld=>?_)
              clear hK K hHeld
              refine eP (a':=?_) ?_ ?_
              rotate_left
              ·show Act.put _ (some 154) _=_
               simp only [Act.put,List.setIfInBounds_toArray,List.set_cons_zero,List.set_cons_succ,cZ,eo]
               rfl
              refine aI (i:=22) (N:=some 155) ?_
              refine nu (i:=23) (N:=none) #[true,true,true,true,true,true,true,true,true,true,true,true,true,true,true,true,true,true,true,true,true,true,true,true] rfl rfl (by kernel_rfl) (by decide) (fun K hK=>?_)
              obtain ⟨h1,h2,h3,h4,h5,h6,h7,h8⟩:=HS.out _ Bn.out Mw.out
              have mV:=(Bn.out.row r vI.out).frozen (j*2)
              have hf2:=(Bn.out.row r vI.out).frozen (j*2+1)
              refine ku (w1:=?_) (by rfl) rfl ?_ ?_
              rotate_left
              ·go_simp
               rfl
              refine hK.out _ _ ?_
              clear hK K
              refine fl (by kernel_rfl) ?_
              have HGA:Aside0 (GS w gR n ((w9.setCell ⟨g1 r,j*2,none⟩ (.int .i64 (R1 r j - R1 r c/R1 c c*R1 c j).num)).setCell ⟨g1 r,j*2+1,none⟩ (.int .i64 ((R1 r j - R1 r c/R1 c c*R1 c j).den:Int))) g1 pF (fun k l=>if k<r then fu R1 c k l else if k=r/\l<j+1 then fu R1 c r l else R1 k l)):=⟨HEq.out _ (Bn.out.put vI.out ID.out (R1 r j - R1 r c/R1 c c*R1 c j))⟩
              have HXA:Aside0 (((w9.setCell ⟨g1 r,j*2,none⟩ (.int .i64 (R1 r j - R1 r c/R1 c c*R1 c j).num)).setCell ⟨g1 r,j*2+1,none⟩ (.int .i64 ((R1 r j - R1 r c/R1 c c*R1 c j).den:Int))).heap[g16]? =some (.cells #[.int .i64 (R1 r c/R1 c c).num,.int .i64 ((R1 r c/R1 c c).den:Int)] 26 (0,0))):=⟨bA (bA Mw.out (Ne.symm (vJ.out.2 r vI.out))) (Ne.symm (vJ.out.2 r vI.out))⟩
              clear Bn Mw h1 h2 h3 h4 h5 h6 h7 h8 mV hf2 HS HEq
              generalize ((w9.setCell ⟨g1 r,j*2,none⟩ (.int .i64 (R1 r j - R1 r c/R1 c c*R1 c j).num)).setCell ⟨g1 r,j*2+1,none⟩ (.int .i64 ((R1 r j - R1 r c/R1 c c*R1 c j).den:Int)))=wA at*
              go_wp2
              go_roundw
              case rel=>exact ⟨j+1,by first|(rw [kC.out];done)|rfl|(simp;done),by have:=HCj.out;omega,by have:=ID.out;omega,HGA,HXA⟩
              case measure=>(try rw [kC.out]);have:=ID.out;simp [intOf];omega
             ·have Pt:j=n+1:=by omega
              have j1d:decide ((j:Int)<=(n:Int))=false:=decide_eq_false (by omega)
              have j1n:decide (j<=n)=false:=decide_eq_false hj
              have HGB:Aside0 (GS w gR n wr g1 pF (fun k l=>if k<r+1 then fu R1 c k l else R1 k l)):=⟨HG.out.congr (fun k l _ hl=>by
               by_cases e:k<r
               ·rw [if_pos (by omega),if_pos e]
               ·rw [if_neg e]
                by_cases e1:k=r
                ·rw [if_pos (by omega),if_pos (by omega),e1]
                ·rw [if_neg (by omega),if_neg (by omega)])⟩
              clear HG HX Pt hj hcj hjn
              go_wp2
              go_roundw
              case rel=>exact ⟨r+1,by first|(rw [nt.out];done)|rfl|(simp;done),vI.out,HGB⟩
              case measure=>(try rw [nt.out]);have:=vI.out;simp [intOf];omega
         ·have hr1:r=n:=by omega
          have r1d:decide ((r:Int)<(n:Int))=false:=decide_eq_false (by omega)
          have r1n:decide (r<n)=false:=decide_eq_false hr
          have HGB:Aside0 (GS w gR n wr g1 pF (fu R1 c)):=⟨HG.out.congr (fun k l hk _=>by rw [if_pos (by omega)])⟩
          clear hr1 hr hrn HG
          go_wp2
          go_roundw
          case rel=>exact ⟨c+1,_,g1,pF,by first|(rw [xU.out];done)|rfl|(simp;done),lF.out,HGJ,HGB⟩
          case measure=>(try rw [xU.out]);have:=lF.out;simp [intOf];omega
      ·have Yl:p=n:=by omega
       have Yi:iU R c c (n - c)=n:=PC (n - c) c n (by have:=lF.out;omega) (by have:=lF.out;omega) (fun i h1 h2=>HP.out.2 i h1 (by omega)) (.inl (by have:=lF.out;omega))
       have hno:=a6D HR.out lF.out (by rw [Yi];omega)
       have p1d:decide ((p:Int)<(n:Int))=false:=decide_eq_false (by omega)
       have EG:decide (p<n)=false:=decide_eq_false hp
       have p2:((p:Int)==(n:Int))=true:=by rw [Yl];simp
       have p2n:(p==n)=true:=by rw [Yl];simp
       have HNo:Aside0 (Cp w n (fZ n (gQ ch n) n) (.returned (.tuple #[.slice none 0 0,.bool false])) wr):=⟨by
        rw [hno]
        exact ⟨_,rfl,⟨fun _ _=>trivial,[],⟨rfl,.inl ⟨rfl,rfl⟩⟩,cT.none _ _⟩,HG.out.dN⟩⟩
       clear Yl Yi hno hp EF HG HP
       go_wp2
       refine bodyPost_ret (results_tmp2 rfl _ _ _) rfl ?_
       exact HNo.out
    ·have hc1:c=n:=by omega
     have c1d:decide ((c:Int)<(n:Int))=false:=decide_eq_false (by omega)
     have c1n:decide (c<n)=false:=decide_eq_false hc
     rw [hc1] at HR
     clear hc1 hc Mt
     go_wp2
     obtain ⟨wz,hwz⟩:∃wz,wz=wr:=⟨_,rfl⟩
     subst hwz
     have SB:=Aside0.mk (HEn.out R HR.out)
     have HX0:=Aside0.mk (a1k wz)
     have jo:Aside0 (Below wz.heap.size wz (wz.alloc (.cells #[] 26))):=⟨aK (Below.refl _ _) _⟩
     generalize wz.alloc (.cells #[] 26)=wl at*
     go_loopw [18,19] (fun xv cv wr=>∃c:Nat,cv= .int .i64 (c:Int)/\c<=n/\Aside0 (Kd.R fD 26 wr wz.heap.size (fun _=>True) xv ((List.range c).map (fun c=>(⟨(R c n/R c c).num,((R c n/R c c).den:Int)⟩:bV))))/\Aside0 (Below wz.heap.size wz wr)) (fun _ cv _=>n -(intOf cv).toNat)
     case atStart=>exact ⟨0,rfl,by omega,HX0,jo⟩
     case round=>
      clear HX0 jo
      obtain ⟨c,rfl,Mt,HX,HBq⟩:=hrel
      by_cases hc:c<n
      ·have lF:=Aside0.mk hc
       have c0':(0:Int)<=(c:Int):=by omega
       have c1':(c:Int)<(n:Int):=by omega
       have c1d:decide ((c:Int)<(n:Int))=true:=decide_eq_true c1'
       have c1n:decide (c<n)=true:=decide_eq_true hc
       have c2':(c:Int)<(n:Int)+1:=by omega
       have c3':(n:Int)<(n:Int)+1:=by omega
       have c4':(0:Int)<=(n:Int):=by omega
       have xU:Aside0 (wrap64 ((c:Int)+1)=((c+1:Nat):Int)):=⟨eD (by omega)⟩
       have HS:Aside0 (∀W,Below wz.heap.size wz W->W.cell? ⟨gR,c,none⟩=some (.slice (some ⟨g c,0,none⟩) (n+1) (cp c))/\W.cell? ⟨g c,n*2,none⟩=some (.int .i64 (R c n).num)/\W.cell? ⟨g c,n*2+1,none⟩=some (.int .i64 ((R c n).den:Int))/\W.cell? ⟨g c,c*2,none⟩=some (.int .i64 (R c c).num)/\W.cell? ⟨g c,c*2+1,none⟩=some (.int .i64 ((R c c).den:Int))):=⟨fun W hb=>by
        have h:=HG.out.below hb
        have a1:=(h.row c lF.out).at (Nat.le_refl n)
        have a2:=(h.row c lF.out).at (Nat.le_of_lt lF.out)
        exact ⟨h.out.at lF.out,a1.1,a1.2,a2.1,a2.2⟩⟩
       have Yj:=Aside0.mk (fun W=>Sr W (SB.out.sz c n hc (Nat.le_refl _)) (SB.out.sz c c hc (Nat.le_of_lt hc)) (by omega) (by omega) (SB.out.ne c hc))
       clear hc Mt
       go_wp2
       have SA:=Aside0.mk (Kd.mC HX.out (bn (Below.refl _ _)))
       have XX:=Aside0.mk (bn HBq.out)
       clear HX HBq
       obtain ⟨h1,h2,h3,h4,h5⟩:=HS.out _ XX.out
       refine eG (n:=19) (S:=fun w'=>w'.cell? ⟨gR,c,none⟩=some (.slice (some ⟨g c,0,none⟩) (n+1) (cp c))/\w'.cell? ⟨g c,n*2,none⟩=some (.int .i64 (R c n).num)/\w'.cell? ⟨g c,n*2+1,none⟩=some (.int .i64 ((R c n).den:Int))/\w'.cell? ⟨g c,c*2,none⟩=some (.int .i64 (R c c).num)/\w'.cell? ⟨g c,c*2+1,none⟩=some (.int .i64 ((R c c).den:Int))) (ds:=[]) #[false,false,false,false,false,false,false,false,false,false,false,false,false,false,false,false,false,false,false] (by kernel_rfl) rfl rfl ⟨h1,h2,h3,h4,h5⟩ (fun hHeld=>?_)
       generalize wr.drew=w7 at*
       refine aI (i:=0) (N:=some 163) ?_
       refine aI (i:=1) (N:=some 164) ?_
       refine aI (i:=2) (N:=some 165) ?_
       refine aI (i:=3) (N:=some 166) ?_
       refine cE (i:=4) (N:=some 167) (v:=?_) (a':=?_) #[true,true,true,true,true,false,false,false,false,false,false,false,false,false,false,false,false,false,false] rfl rfl (by kernel_rfl) (fun _ _ _ h=>h) (Or.inl ⟨by rfl,?_⟩) hHeld ?_ ?_
       rotate_left
       ·rintro w' ⟨s0,s1,s2,s3,s4⟩
        go_simp
        with_reducible rfl
       rotate_left
       ·exact dx
       refine aI (i:=5) (N:=some 168) ?_
       refine aI (i:=6) (N:=some 169) ?_
       refine cE (i:=7) (N:=some 170) (v:=?_) (a':=?_) #[true,true,true,true,true,true,true,true,false,false,false,false,false,false,false,false,false,false,false] rfl rfl (by kernel_rfl) (fun _ _ _ h=>h) (Or.inl ⟨by rfl,?_⟩) hHeld ?_ ?_
       rotate_left
       ·rintro w' ⟨s0,s1,s2,s3,s4⟩
        go_simp
        with_reducible rfl
       rotate_left
       ·exact dx
       refine aI (i:=8) (N:=some 171) ?_
       refine aI (i:=9) (N:=some 172) ?_
       refine aI (i:=10) (N:=some 173) ?_
       refine cE (i:=11) (N:=some 174) (v:=?_) (a':=?_) #[true,true,true,true,true,true,true,true,true,true,true,true,false,false,false,false,false,false,false] rfl rfl (by kernel_rfl) (fun _ _ _ h=>h) (Or.inl ⟨by rfl,?_⟩) hHeld ?_ ?_
       rotate_left
       ·rintro w' ⟨s0,s1,s2,s3,s4⟩
        go_simp
        with_reducible rfl
       rotate_left
       ·exact dx
       refine aI (i:=12) (N:=some 175) ?_
       refine aI (i:=13) (N:=some 176) ?_
       refine cE (i:=14) (N:=some 177) (v:=?_) (a':=?_) #[true,true,true,true,true,true,true,true,true,true,true,true,true,true,true,false,false,false,false] rfl rfl (by kernel_rfl) (fun _ _ _ h=>h) (Or.inl ⟨by rfl,?_⟩) hHeld ?_ ?_
       rotate_left
       ·rintro w' ⟨s0,s1,s2,s3,s4⟩
        go_simp
        with_reducible rfl
       rotate_left
       ·exact dx
       refine fK (i:=15) (N:=some 178) #[true,true,true,true,true,true,true,true,true,true,true,true,true,true,true,true,false,false,false] rfl rfl (by kernel_rfl) (by decide) (fun K hK=>?_)
       refine pY 62 #[V (R c n),V (R c c)] (by rfl) rfl ?_ ?_
       ·go_simp
       refine (Yj.out _).mono ?_
       rintro e w8 ⟨rfl,mq⟩
       have pJ:=Aside0.mk (Kd.mC SA.out mq)
       have Cl:=Aside0.mk (ai XX.out mq)
       clear mq SA XX h1 h2 h3 h4 h5 Yj
       refine ⟨_,rfl,?_⟩
       refine hK.out _ _ (HS.out _ Cl.out) (fun hHeld=>?_)
       clear hK K hHeld
       refine eP (a':=?_) ?_ ?_
       rotate_left
       ·show Act.put _ (some 178) _=_
        simp only [Act.put,List.setIfInBounds_toArray,List.set_cons_zero,List.set_cons_succ,cZ,eo]
        rfl
       refine fK (i:=16) (N:=some 179) #[true,true,true,true,true,true,true,true,true,true,true,true,true,true,true,true,true,false,false] rfl rfl (by kernel_rfl) (by decide) (fun K hK=>?_)
       refine uq (w1:=?_) (v:=?_) (by rfl) rfl ?_ ?_
       rotate_left 2
       ·go_simp
        constructor
        ·rfl
        ·rfl
       refine hK.out _ _ (HS.out _ (aK Cl.out _)) (fun hHeld=>?_)
       clear hK K hHeld
       refine eP (a':=?_) ?_ ?_
       rotate_left
       ·show Act.put _ (some 179) _=_
        simp only [Act.put,List.setIfInBounds_toArray,List.set_cons_zero,List.set_cons_succ,cZ,eo]
        rfl
       refine fK (i:=17) (N:=some 180) #[true,true,true,true,true,true,true,true,true,true,true,true,true,true,true,true,true,true,false] rfl rfl (by kernel_rfl) (by decide) (fun K hK=>?_)
       refine Kd.Nk fD (w0:=wz) wz.heap.size (by rfl) (.tmp 163) (.tmp 179) 27 26 (.agg #[.int .i64 0,.int .i64 0]) 16 rfl Try.underlying27 WD rfl (by decide) (by omega) u18 ((List.range c).map (fun c=>(⟨(R c n/R c c).num,((R c n/R c c).den:Int)⟩:bV))) (⟨(R c n/R c c).num,((R c n/R c c).den:Int)⟩:bV) [.int .i64 (R c n/R c c).num,.int .i64 ((R c n/R c c).den:Int)] (fun _=>True) (fun _=>False) rfl rfl (Dl _ _ _ _) (fun _ hk=>hk.elim) (fun _ _=>trivial) pJ.out Cl.out Cl.out.size (by rw [List.length_map,List.length_range];have:=lF.out;omega) ?_
       intro v9 w9 SC IE Ym b7R
       obtain ⟨A9,c9,rfl⟩:=Kd.cX SC
       have Mw:Aside0 (Kd.R fD 26 w9 wz.heap.size (fun _=>True) (.slice A9 ((List.range c).map (fun c=>(⟨(R c n/R c c).num,((R c n/R c c).den:Int)⟩:bV))++[(⟨(R c n/R c c).num,((R c n/R c c).den:Int)⟩:bV)]).length c9) ((List.range (c+1)).map (fun c=>(⟨(R c n/R c c).num,((R c n/R c c).den:Int)⟩:bV)))):=⟨by rw [List.range_succ,List.map_append,List.map_singleton];exact SC⟩
       have Mx:=Aside0.mk IE
       generalize ((List.range c).map (fun c=>(⟨(R c n/R c c).num,((R c n/R c c).den:Int)⟩:bV))++[(⟨(R c n/R c c).num,((R c n/R c c).den:Int)⟩:bV)]).length=m9 at*
       clear SC IE Ym b7R pJ Cl
       refine hK.out _ _ (HS.out _ Mx.out) (fun hHeld=>?_)
       clear hK K hHeld
       refine eP (a':=?_) ?_ ?_
       rotate_left
       ·show Act.put _ (some 180) _=_
        simp only [Act.put,List.setIfInBounds_toArray,List.set_cons_zero,List.set_cons_succ,cZ,eo]
        rfl
       refine fK (i:=18) (N:=some 18) #[true,true,true,true,true,true,true,true,true,true,true,true,true,true,true,true,true,true,true] rfl rfl (by kernel_rfl) (by decide) (fun K hK=>?_)
       refine uq (w1:=?_) (v:=?_) (by rfl) rfl ?_ ?_
       rotate_left 2
       ·go_simp
        constructor
        ·rfl
        ·rfl
       refine hK.out _ _ (HS.out _ Mx.out) (fun hHeld=>?_)
       clear hK K hHeld
       refine eP (a':=?_) ?_ ?_
       rotate_left
       ·show Act.put _ (some 18) _=_
        simp only [Act.put,List.setIfInBounds_toArray,List.set_cons_zero,List.set_cons_succ,cZ,eo]
        rfl
       refine fl (by kernel_rfl) ?_
       go_wp2
       go_roundw
       case rel=>exact ⟨c+1,by first|(rw [xU.out];done)|rfl|(simp;done),lF.out,Mw,Mx⟩
       case measure=>(try rw [xU.out]);have:=lF.out;simp [intOf];omega
      ·have hc1:c=n:=by omega
       have c1d:decide ((c:Int)<(n:Int))=false:=decide_eq_false (by omega)
       have c1n:decide (c<n)=false:=decide_eq_false hc
       rw [hc1] at HX
       have HPs:Aside0 (Cp w n (fZ n (gQ ch n) n) (.returned (.tuple #[u18,.bool true])) wr):=⟨by
        rw [HR.out]
        exact ⟨_,rfl,Kd.gG HX.out HG.out.dN.size,ai HG.out.dN HBq.out⟩⟩
       clear hc1 hc Mt HX HBq
       go_wp2
       refine bodyPost_ret (results_tmp2 rfl _ _ _) rfl ?_
       exact HPs.out
end Go.Proofs.Ytnhknojfpjheoaa.PT
set_option linter.unusedVariables false
set_option linter.unusedSimpArgs false
namespace Go.Proofs.Ytnhknojfpjheoaa.Lp
def fact:Nat->Nat
 |0=>1
 |n+1=>(n+1)*fact n
theorem My {a b:Nat} (h:a<=b):fact a<=fact b:=by
 induction h with
 |refl=>exact Nat.le_refl _
 |step _ ih=>exact Nat.le_trans ih (by simp only [fact];exact Nat.le_mul_of_pos_left _ (by omega))
def cnt:Nat->(Nat->Bool)->Nat
 |0,_=>0
 |n+1,W=>cnt n W+(if W n then 1 else 0)
theorem Cr:∀{n:Nat} {W V:Nat->Bool},(∀j,j<n->W j=V j)->cnt n W=cnt n V
 |0,_,_,_=>rfl
 |n+1,W,V,h=>by simp only [cnt];rw [Cr (fun j hj=>h j (by omega)),h n (by omega)]
theorem xV:∀(n a:Nat) (W:Nat->Bool),cnt (a+n) W=cnt a W+cnt n (fun k=>W (a+k))
 |0,a,W=>rfl
 |n+1,a,W=>by
  show cnt (a+n) W+_=_
  rw [xV n a W]
  show cnt a W+cnt n (fun k=>W (a+k))+(if W (a+n) then 1 else 0)=cnt a W+(cnt n (fun k=>W (a+k))+(if W (a+n) then 1 else 0))
  omega
theorem PO {n j:Nat} (W:Nat->Bool) (hj:j<n+1):cnt (n+1) W=cnt n (fun k=>W (if k<j then k else k+1))+(if W j then 1 else 0):=by
 have h1:n+1=j+(1+(n - j)):=by omega
 have h2:n=j+(n - j):=by omega
 have e1:cnt (n+1) W=cnt j W+((if W j then 1 else 0)+cnt (n - j) (fun k=>W (j+(1+k)))):=by
  rw [h1,xV,xV]
  show cnt j W+((0+if W (j+0) then 1 else 0)+_)=_
  rw [Nat.zero_add];rfl
 have e2:cnt n (fun k=>W (if k<j then k else k+1))=cnt j W+cnt (n - j) (fun k=>W (j+(1+k))):=by
  conv=>lhs;rw [h2]
  rw [xV]
  rw [Cr (n:=j) (V:=W) (fun k hk=>by rw [if_pos hk])]
  rw [Cr (n:=n - j) (V:=fun k=>W (j+(1+k))) (fun k hk=>by
   show W (if j+k<j then _ else _)=_
   rw [if_neg (by omega)];congr 1;omega)]
 omega
theorem Bd.mono {a b:Nat} {q:Rat} (h:Bd a q) (hab:a<=b):Bd b q:=by
 obtain ⟨z,e,hz⟩:=h;exact ⟨z,e,by omega⟩
theorem Bd.b7S {b n:Nat} {W:Nat->Bool} {f:Nat->Rat} (h:∀j,j<n->Bd (if W j then b else 0) (f j)):Bd (cnt n W*b) (S n f):=by
 induction n with
 |zero=>simp only [S];exact Bd.zero _
 |succ n ih=>
  have:=(ih (fun j hj=>h j (by omega))).add (h n (by omega))
  simp only [S,cnt]
  refine this.mono ?_
  split
  ·rw [Nat.add_mul];omega
  ·simp
theorem Bd.mul {a b:Nat} {p q:Rat} (h:Bd a p) (h':Bd b q):Bd (a*b) (p*q):=by
 obtain ⟨x,rfl,hx⟩:=h
 obtain ⟨y,rfl,hy⟩:=h'
 exact ⟨x*y,by rw [Rat.intCast_mul],by rw [Int.natAbs_mul];exact Nat.mul_le_mul hx hy⟩
theorem Sg.bd {x:Rat} (h:Sg x):Bd 1 x:=by
 rcases h with h|h
 ·exact ⟨1,by rw [h];rfl,by decide⟩
 ·exact ⟨-1,by rw [h];rfl,by decide⟩
def Nar (n:Nat) (v:Nat->Rat):Prop:=∃i0,∀i,i<n->i≠i0->v i=0
theorem Nr {n c:Nat} {M:Nat->Nat->Rat} (hc:c<n) (h:∀i,i<n->M i c=0):eN n M=0:=by
 rw [<-BZ M hc]
 refine mJ n (fun i j hi hj=>?_)
 unfold upd;split
 ·next e=>rw [e];exact h i hi
 ·rfl
theorem PR:∀(n:Nat) (M:Nat->Nat->Rat) (W:Nat->Bool),(∀i j,i<n->j<n->Bd 1 (M i j))->(∀j,j<n->W j=false->Nar n (fun i=>M i j))->Bd (fact (cnt n W)) (eN n M)
 |0,_,_,_,_=>⟨1,rfl,by simp [cnt,fact]⟩
 |n+1,M,W,h1,h2=>by
  have EI:∀j,j<n+1->∀i k,i<n->k<n->Bd 1 (minor M j i k):=fun j hj i k hi hk=>by
   unfold minor;exact h1 _ _ (by omega) (by split<;>omega)
  have hm2:∀j,j<n+1->∀k,k<n->W (if k<j then k else k+1)=false->Nar n (fun i=>minor M j i k):=fun j hj k hk hw=>by
   obtain ⟨i0,Hv⟩:=h2 _ (by split<;>omega) hw
   by_cases e:i0=0
   ·exact ⟨n,fun i hi _=>Hv (i+1) (by omega) (by omega)⟩
   ·exact ⟨i0 - 1,fun i hi hne=>Hv (i+1) (by omega) (by omega)⟩
  have ih:=fun j (hj:j<n+1)=>PR n (minor M j) (fun k=>W (if k<j then k else k+1)) (EI j hj) (hm2 j hj)
  have hs:∀j,Bd 1 (jZ j):=fun j=>(Pc j).bd
  simp only [eN]
  by_cases hx:∃j0,j0<n+1/\W j0=false/\M 0 j0≠0
  ·obtain ⟨j0,hj0,hw,hne⟩:=hx
   obtain ⟨i0,Hv⟩:=h2 j0 hj0 hw
   have hi00:i0=0:=by
    by_cases e:i0=0
    ·exact e
    ·exact absurd (Hv 0 (by omega) (fun h=>e h.symm)) hne
   have e:S (n+1) (fun j=>jZ j*M 0 j*eN n (minor M j))=S (n+1) (fun j=>if j=j0 then jZ j*M 0 j*eN n (minor M j) else 0):=by
    refine dD (fun j hj=>?_)
    by_cases ej:j=j0
    ·rw [if_pos ej]
    ·rw [if_neg ej,Nr (c:=if j0<j then j0 else j0 - 1) (by split<;>omega) (fun i hi=>by
      have b7T:(if (if j0<j then j0 else j0 - 1)<j then (if j0<j then j0 else j0 - 1) else (if j0<j then j0 else j0 - 1)+1)=j0:=by
       by_cases e3:j0<j
       ·rw [if_pos e3,if_pos e3]
       ·rw [if_neg e3,if_neg (by omega)];omega
      unfold minor
      rw [b7T]
      exact Hv (i+1) (by omega) (by omega))]
     grind
   rw [e,fF hj0 (fun j=>jZ j*M 0 j*eN n (minor M j))]
   have hc:cnt n (fun k=>W (if k<j0 then k else k+1))=cnt (n+1) W:=by
    rw [PO W hj0,if_neg (by rw [hw];decide)];omega
   have:=((hs j0).mul (h1 0 j0 (by omega) hj0)).mul (ih j0 hj0)
   rw [hc] at this
   exact this.mono (by omega)
  ·have hno:∀j,j<n+1->W j=false->M 0 j=0:=fun j hj hw=>by
    by_cases e:M 0 j=0
    ·exact e
    ·exact absurd ⟨j,hj,hw,e⟩ hx
   have b7U:Bd (cnt (n+1) W*fact (cnt (n+1) W - 1)) (S (n+1) fun j=>jZ j*M 0 j*eN n (minor M j)):=by
    refine Bd.b7S (fun j hj=>?_)
    cases hw:W j with
    |false=>rw [hno j hj hw];have:jZ j*0*eN n (minor M j)=0:=by grind
            rw [this];exact Bd.zero _
    |true=>
     have hc:cnt n (fun k=>W (if k<j then k else k+1))=cnt (n+1) W - 1:=by
      rw [PO W hj,if_pos hw];omega
     have:=((hs j).mul (h1 0 j (by omega) hj)).mul (ih j hj)
     rw [hc] at this
     exact this.mono (by simp)
   refine b7U.mono ?_
   cases cnt (n+1) W with
   |zero=>simp [fact]
   |succ p=>exact Nat.le_refl _
theorem a6F {m n:Nat} (f:Nat->Nat) (h:∀p q,p<m->q<m->f p=f q->p=q):cnt m (fun q=>decide (f q<n))<=n:=by
 have h1:cnt m (fun q=>decide (f q<n))=(((List.range m).filter (fun q=>decide (f q<n))).map f).length:=by
  clear h
  induction m with
  |zero=>rfl
  |succ m ih=>
   rw [List.range_succ,List.filter_append]
   simp only [cnt]
   rw [ih]
   by_cases e:f m<n
   ·simp [e]
   ·simp [e]
 rw [h1]
 have h2:=wS (((List.range m).filter (fun q=>decide (f q<n))).map f) (List.range n) (by
  rw [List.nodup_iff_pairwise_ne,List.pairwise_map]
  have RV:((List.range m).filter (fun q=>decide (f q<n))).Pairwise (fun a b=>a≠b):=List.Pairwise.filter _ List.nodup_range
  refine List.Pairwise.imp_of_mem ?_ RV
  intro a b ha hb hne e
  have ha':=List.mem_range.1 (List.mem_filter.1 ha).1
  have hb':=List.mem_range.1 (List.mem_filter.1 hb).1
  exact hne (h a b ha' hb' e)) (fun x hx=>by
  obtain ⟨q,hq,rfl⟩:=List.mem_map.1 hx
  exact List.mem_range.2 (of_decide_eq_true (List.mem_filter.1 hq).2))
 rw [List.length_range] at h2
 exact h2
theorem FQ {m n N R:Nat} {t0:bw} (he:∀i j,i<R->j<N->Bd 1 (t0.cell i j)) (hn:∀j,n<=j->j<N->∃i0,∀i,i<R->i≠i0->t0.cell i j=0) (ρ f:Nat->Nat) (hρ:∀i,i<m->ρ i<R) (hρi:∀i k,i<m->k<m->ρ i=ρ k->i=k) (hf:∀q,q<m->f q<N):
 Bd (fact n) (eN m (fun i q=>t0.cell (ρ i) (f q))):=by
 by_cases h:∃p q,p<m/\q<m/\p≠q/\f p=f q
 ·obtain ⟨p,q,hp,hq,hne,e⟩:=h
  rw [Pb hp hq hne (fun i _=>by rw [e])];exact Bd.zero _
 ·have hinj:∀p q,p<m->q<m->f p=f q->p=q:=fun p q hp hq e=>by
   by_cases e2:p=q
   ·exact e2
   ·exact absurd ⟨p,q,hp,hq,e2,e⟩ h
  refine (PR m _ (fun q=>decide (f q<n)) (fun i q hi hq=>he _ _ (hρ i hi) (hf q hq)) (fun q hq hw=>?_)).mono (My (a6F f hinj))
  have hq2:n<=f q:=by have:=of_decide_eq_false hw;omega
  obtain ⟨i0,Hv⟩:=hn (f q) hq2 (hf q hq)
  by_cases hx:∃k,k<m/\ρ k=i0
  ·obtain ⟨k,hk,e⟩:=hx
   exact ⟨k,fun i hi hne=>Hv _ (hρ i hi) (fun e2=>hne (hρi i k hi hk (e2.trans e.symm)))⟩
  ·exact ⟨m,fun i hi _=>Hv _ (hρ i hi) (fun e2=>hx ⟨i,hi,e2⟩)⟩
section
variable {n m:Nat} {A:Nat->Nat->Rat} {right:Nat->Rat} {s:Rat}
theorem yl:∀j,n<=j->j<n+m->∃i0,∀i,i<m+(n+1)->i≠i0->(init n m A right s).cell i j=0:=by
 intro j h1 h2
 refine ⟨j - n,fun i hi hne=>?_⟩
 simp only [init]
 by_cases h3:i<m
 ·rw [if_pos h3,if_neg (by omega),if_neg (by omega),if_neg (by omega)]
 ·rw [if_neg h3]
  by_cases h4:i=m
  ·rw [if_pos h4,if_neg (by omega)]
  ·rw [if_neg h4,if_neg (by omega)]
theorem a1o {N K:Nat} {t0:bw} (h:tV m N K t0) {i j:Nat} (hi:i<m+K) (hj:j<=N):Bd 1 (t0.cell i j):=by
 obtain ⟨σ,τ,h1,h2,h3⟩:=h
 rcases h3 i j hi hj with e|e
 ·rw [e];exact Bd.zero _
 ·rw [e];exact ((h1 j).mul (h2 i)).bd
theorem Vf {t:bw} (hs:tV m (n+m) (n+1) (init n m A right s)) (v:Valid m (n+m) (n+1) (init n m A right s) t) (hr:xH m (n+m) (n+1) (init n m A right s) t):
 (∀{q:Rat},q=(init n m A right s).D t m->Bd (fact n) q)/\(∀r j,r<m->j<n+m->Bd (fact n) (t.cell r j*(init n m A right s).D t m))/\(∀k j,k<n+1->j<n+m->Bd (fact n) (t.cell (m+k) j*(init n m A right s).D t m)):=by
 have he:∀i j,i<m+(n+1)->j<n+m->Bd 1 ((init n m A right s).cell i j):=fun i j hi hj=>a1o hs hi (by omega)
 refine ⟨fun e=>?_,fun r j hrr hj=>?_,fun k j hk hj=>?_⟩
 ·rw [e]
  exact FQ (m:=m) he yl (fun i=>i) t.basis (fun i hi=>by omega) (fun _ _ _ _ e=>e) (fun q hq=>v.lt q hq)
 ·rw [hr.FJ hrr (by omega)]
  have e:eN m (upd (fun i r=>(init n m A right s).cell i (t.basis r)) r (fun i=>(init n m A right s).cell i j))=eN m (fun i q=>(init n m A right s).cell i (if q=r then j else t.basis q)):=
   mJ m (fun i q _ _=>by unfold upd;split<;>rfl)
  rw [e]
  exact FQ (m:=m) he yl (fun i=>i) (fun q=>if q=r then j else t.basis q) (fun i hi=>by omega) (fun _ _ _ _ e=>e) (fun q hq=>by
   show (if q=r then j else t.basis q)<_
   split
   ·exact hj
   ·exact v.lt q hq)
 ·rw [hr.Pd hk (by omega)]
  have e:eN (m+1) (nw m (init n m A right s) t k (fun i=>if i<m then (init n m A right s).cell i j else (init n m A right s).cell (m+k) j))=eN (m+1) (fun i q=>(init n m A right s).cell (if i<m then i else m+k) (if q<m then t.basis q else j)):=
   mJ (m+1) (fun i q hi hq=>by
    unfold nw
    by_cases h1:q<m
    ·simp only [if_pos h1];split<;>rfl
    ·simp only [if_neg h1];split<;>rfl)
  rw [e]
  exact FQ (m:=m+1) he yl (fun i=>if i<m then i else m+k) (fun q=>if q<m then t.basis q else j) (fun i hi=>by
   show (if i<m then i else m+k)<_
   split<;>omega) (fun i l hi hl e=>by
   have e':(if i<m then i else m+k)=(if l<m then l else m+k):=e
   split at e'<;>split at e'<;>omega) (fun q hq=>by
   show (if q<m then t.basis q else j)<_
   split
   ·next h=>exact v.lt q h
   ·exact hj)
end
end Go.Proofs.Ytnhknojfpjheoaa.Lp
