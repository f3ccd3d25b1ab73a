/-
  Part 15 of the proof of this: The law FnCover answers true at every argument.
-/
import Derived.Test.YtnhknojfpjheoaaKCover2
import Derived.Test.YtnhknojfpjheoaaKCover10
import Derived.Test.YtnhknojfpjheoaaKCover11
import Derived.Deep.CutBlock
namespace Go.Proofs.Ytnhknojfpjheoaa.PT
open Go.RowKit Go.Proofs.Ytnhknojfpjheoaa.P Go.Proofs.YtnhknojfpjheoaaW.PrintWords Go.Proofs.YtnhknojfpjheoaaW.PrintLast Go.Proofs.Ytnhknojfpjheoaa.EvKit
set_option linter.all false
def lG (W:World) (g:Nat) (A:Option Addr) (n c k:Nat):Prop:=∃p s:Int,W.heap[g]? =some (.cells #[.slice A n c,.int .i64 p,.int .i64 s] 70 (0,0))/\0<=p/\p<=k/\0<=s/\s<2147483648
def Wb (w:World) (A:Option Addr) (n:Nat):Prop:=∃l:List Int,l.length=n/\Kd.C (Kd.int .u8) w A n l/\∀i,i<n->0<=l.getD i 0/\l.getD i 0<=255
def zV (w W:World) (g:Nat) (A:Option Addr) (n c k:Nat) (R:Int->Prop) (e:Ending) (w':World):Prop:=∃x,e= .returned (.int .i64 x)/\R x/\lG w' g A n c k/\Below w.heap.size w w'/\Tr (·=g) W w'
theorem Re {W:World} {g j:Nat} {v:Value}:Tr (·=g) W (W.setCell ⟨g,j,none⟩ v):=⟨rfl,rfl,rfl,by simp [World.setCell],fun k hk hn=>Below.heap_setCell W ⟨g,j,none⟩ v k hn⟩
theorem Eg {W:World} {S:Nat->Prop}:Tr S W W.drew:=⟨rfl,rfl,rfl,Nat.le_refl _,fun _ _ _=>rfl⟩
theorem Tr.and {S:Nat->Prop} {W W' W'':World} (h:Tr S W W') (h':Tr S W' W''):Tr S W W'':=Tr.trans h h' (fun _ h=>h) (fun _ h _=>h)
theorem Eh {a m:Int} (ha:0<=a) (hm:0<m):0<=a.tmod m/\a.tmod m<m:=⟨Int.tmod_nonneg _ ha,Int.tmod_lt_of_pos _ hm⟩
theorem a7y {a m:Int} (ha:0<=a) (hm:0<m):0<=a.tdiv m/\a.tdiv m<=a:=by
 refine ⟨Int.tdiv_nonneg ha (by omega),?_⟩
 rw [Int.tdiv_eq_ediv_of_nonneg ha]
 exact Int.ediv_le_self _ ha
set_option maxHeartbeats 4000000 in
set_option maxRecDepth 100000 in
theorem Zy (w W:World) (g:Nat) (A:Option Addr) (n c k:Nat) (hn:n<=1048576) (hnc:n<=c) (hk:k<=1000000) (hg:w.heap.size<=g) (hB:Below w.heap.size w W) (hC:lG W g A n c k) (hL:Wb w A n):
 Calls Try.prog 60 #[.pointer (some ⟨g,0,none⟩)] W (zV w W g A n c (k+1) (fun x=>0<=x/\x<=255)):=by
 obtain ⟨p,s,hx,h0,h1,h2,h3⟩:=hC
 have hz1:=(ag hx 1).trans rfl
 have mV:=aa hx 1
 have pQ:Aside0 ((W.setCell ⟨g,1,none⟩ (.int .i64 (p+1))).heap[g]? =some (.cells #[.slice A n c,.int .i64 (p+1),.int .i64 s] 70 (0,0))):=⟨aX hx 1 _ rfl⟩
 have dG:Aside0 (Below w.heap.size w (W.setCell ⟨g,1,none⟩ (.int .i64 (p+1)))):=⟨br hB hg⟩
 have uJ:Aside0 (Tr (·=g) W (W.setCell ⟨g,1,none⟩ (.int .i64 (p+1)))):=⟨Re⟩
 have HG:=Aside0.mk hg
 have HL:=Aside0.mk hL
 have HP:Aside0 (0<=p/\p<=k):=⟨h0,h1⟩
 have HS:Aside0 (0<=s/\s<2147483648):=⟨h2,h3⟩
 have HN:=Aside0.mk hn
 have e1:wrap64 (p+1)=p+1:=rN (by omega) (by omega)
 have e2:wrap64 (40*(n:Int))=40*(n:Int):=rN (by omega) (by omega)
 have e3:wrap64 (150+40*(n:Int))=150+40*(n:Int):=rN (by omega) (by omega)
 clear hx hB hg hL h0 h1 h2 h3
 go_enter Try.func60,Try.ntmps60
 go_wp2
 clear hz1 mV e1
 generalize W.setCell ⟨g,1,none⟩ (.int .i64 (p+1))=W1 at*
 obtain ⟨b1,c1⟩:∃b,decide (p+1>150+40*(n:Int))=b:=⟨_,rfl⟩
 obtain ⟨b2,c2⟩:∃b,decide (p+1>(n:Int))=b:=⟨_,rfl⟩
 have iJ:=Aside0.mk c1
 have nN:=Aside0.mk c2
 have Jt:Aside0 (∀w':World,w'.heap[g]? =some (.cells #[.slice A n c,.int .i64 (p+1),.int .i64 s] 70 (0,0))->w'.cell? ⟨g,0,none⟩=some (.slice A n c)/\w'.cell? ⟨g,1,none⟩=some (.int .i64 (p+1))/\w'.cell? ⟨g,2,none⟩=some (.int .i64 s)):=⟨fun w' h=>⟨(ag h 0).trans rfl,(ag h 1).trans rfl,(ag h 2).trans rfl⟩⟩
 refine eG (n:=12) (S:=fun w'=>w'.cell? ⟨g,0,none⟩=some (.slice A n c)/\w'.cell? ⟨g,1,none⟩=some (.int .i64 (p+1))/\w'.cell? ⟨g,2,none⟩=some (.int .i64 s)) (ds:=[]) #[false,false,false,false,false,false,false,false,false,false,false,false] (by kernel_rfl) rfl rfl (Jt.out _ (ak pQ.out)) (fun hHeld=>?_)
 refine aI (i:=0) (N:=some 10) ?_
 refine aI (i:=1) (N:=some 11) ?_
 refine aI (i:=2) (N:=some 12) ?_
 refine cE (i:=3) (N:=some 13) (v:=?_) (a':=?_) #[true,true,true,true,false,false,false,false,false,false,false,false] rfl rfl (by kernel_rfl) (fun _ _ _ h=>h) (Or.inl ⟨by rfl,?_⟩) hHeld ?_ ?_
 rotate_left
 ·rintro w' ⟨s0,s1,s2⟩
  go_simp
  with_reducible rfl
 rotate_left
 ·exact dx
 refine aI (i:=4) (N:=some 14) ?_
 refine aI (i:=5) (N:=some 15) ?_
 refine aI (i:=6) (N:=some 16) ?_
 refine cE (i:=7) (N:=some 17) (v:=?_) (a':=?_) #[true,true,true,true,true,true,true,true,false,false,false,false] rfl rfl (by kernel_rfl) (fun _ _ _ h=>h) (Or.inl ⟨by rfl,?_⟩) hHeld ?_ ?_
 rotate_left
 ·rintro w' ⟨s0,s1,s2⟩
  go_simp
  with_reducible rfl
 rotate_left
 ·exact dx
 refine aI (i:=8) (N:=some 18) ?_
 refine aI (i:=9) (N:=some 19) ?_
 refine aI (i:=10) (N:=some 20) ?_
 refine aI (i:=11) (N:=some 21) ?_
 refine fl (by kernel_rfl) ?_
 clear c1 c2 hHeld
 have Sv:=Aside0.mk (ak pQ.out)
 have iw:=Aside0.mk (bn dG.out)
 have zu:=Aside0.mk (uJ.out.and Eg)
 clear pQ dG uJ e2 e3
 generalize W1.drew=W2 at*
 cases b1 with
 |true=>
  go_wp2
  go_ret
  exact ⟨0,rfl,⟨by omega,by omega⟩,⟨p+1,s,Sv.out,by have:=HP.out;omega,by have:=HP.out;omega,HS.out.1,HS.out.2⟩,iw.out,zu.out⟩
 |false=>
  go_wp2
  have c2:=nN.out
  refine eG (n:=10) (S:=fun w'=>w'.cell? ⟨g,0,none⟩=some (.slice A n c)/\w'.cell? ⟨g,1,none⟩=some (.int .i64 (p+1))/\w'.cell? ⟨g,2,none⟩=some (.int .i64 s)) (ds:=[]) #[false,false,false,false,false,false,false,false,false,false] (by kernel_rfl) rfl rfl (Jt.out _ (ak Sv.out)) (fun hHeld=>?_)
  refine aI (i:=0) (N:=some 22) ?_
  refine aI (i:=1) (N:=some 23) ?_
  refine aI (i:=2) (N:=some 24) ?_
  refine cE (i:=3) (N:=some 25) (v:=?_) (a':=?_) #[true,true,true,true,false,false,false,false,false,false] rfl rfl (by kernel_rfl) (fun _ _ _ h=>h) (Or.inl ⟨by rfl,?_⟩) hHeld ?_ ?_
  rotate_left
  ·rintro w' ⟨s0,s1,s2⟩
   go_simp
   with_reducible rfl
  rotate_left
  ·exact dx
  refine aI (i:=4) (N:=some 26) ?_
  refine aI (i:=5) (N:=some 27) ?_
  refine aI (i:=6) (N:=some 28) ?_
  refine cE (i:=7) (N:=some 29) (v:=?_) (a':=?_) #[true,true,true,true,true,true,true,true,false,false] rfl rfl (by kernel_rfl) (fun _ _ _ h=>h) (Or.inl ⟨by rfl,?_⟩) hHeld ?_ ?_
  rotate_left
  ·rintro w' ⟨s0,s1,s2⟩
   go_simp
   with_reducible rfl
  rotate_left
  ·exact dx
  refine aI (i:=8) (N:=some 30) ?_
  refine aI (i:=9) (N:=some 31) ?_
  refine fl (by kernel_rfl) ?_
  clear c2 hHeld
  have TP:=Aside0.mk (ak Sv.out)
  have xe:=Aside0.mk (bn iw.out)
  have HT3:=Aside0.mk (zu.out.and Eg)
  clear Sv iw zu
  generalize W2.drew=W3 at*
  cases b2 with
  |true=>
   have hz2:=(ag TP.out 2).trans rfl
   have hf2:=aa TP.out 2
   have e4:wrap64 (s*1103515245)=s*1103515245:=rN (by have:=HS.out;omega) (by have:=HS.out;omega)
   have e5:wrap64 (s*1103515245+12345)=s*1103515245+12345:=rN (by have:=HS.out;omega) (by have:=HS.out;omega)
   go_wp2
   go_ret
   have hq:=Eh (a:=s*1103515245+12345) (m:=2147483648) (by have:=HS.out;omega) (by decide)
   have hd:=a7y (a:=(s*1103515245+12345).tmod 2147483648) (m:=65536) hq.1 (by decide)
   have hw:wrap64 (((s*1103515245+12345).tmod 2147483648).tdiv 65536)=((s*1103515245+12345).tmod 2147483648).tdiv 65536:=rN (by omega) (by omega)
   have hr:=Eh (a:=((s*1103515245+12345).tmod 2147483648).tdiv 65536) (m:=256) hd.1 (by decide)
   rw [hw]
   exact ⟨_,rfl,⟨hr.1,by omega⟩,⟨p+1,_,aX TP.out 2 _ rfl,by have:=HP.out;omega,by have:=HP.out;omega,hq.1,hq.2⟩,br xe.out HG.out,HT3.out.and Re⟩
  |false=>
   have EF:p<(n:Int):=by have:=of_decide_eq_false nN.out;omega
   obtain ⟨l,hl,hC,hb⟩:=HL.out
   obtain ⟨ad,e,hx⟩:=Kd.fC hC p HP.out.1 EF
   cases e
   obtain ⟨pn,hpp⟩:∃pn:Nat,p=(pn:Int):=⟨p.toNat,by have:=HP.out;omega⟩
   have hbb:=hb pn (by omega)
   have hrd:rd l p=l.getD pn 0:=by rw [hpp];show l.getD ((pn:Int).toNat) 0=_;rw [Int.toNat_natCast]
   rw [hrd] at hx
   obtain ⟨b,hbe⟩:∃b,b=l.getD pn 0:=⟨_,rfl⟩
   rw [<-hbe] at hx hbb
   have HHe:Aside0 (∀w':World,w'.heap[g]? =some (.cells #[.slice (some ad) n c,.int .i64 (p+1),.int .i64 s] 70 (0,0))->Below w.heap.size w w'->w'.cell? ⟨g,0,none⟩=some (.slice (some ad) n c)/\w'.cell? ⟨g,1,none⟩=some (.int .i64 (p+1))/\w'.cell? ⟨g,2,none⟩=some (.int .i64 s)/\w'.cell? (ad.add p.toNat)=some (.int .u8 b)):=⟨fun w' h hb=>⟨(ag h 0).trans rfl,(ag h 1).trans rfl,(ag h 2).trans rfl,(hb.cell (World.block_lt_of_cell? w _ hx)).trans hx⟩⟩
   have HBv:=Aside0.mk hbb
   have YM:Aside0 (∀w':World,Below w.heap.size w w'->w'.cell? (ad.add p.toNat)=some (.int .u8 b)):=⟨fun w' hb=>(hb.cell (World.block_lt_of_cell? w _ hx)).trans hx⟩
   have g0:(0:Int)<=p:=HP.out.1
   have vH:decide (p<(n:Int))=true:=decide_eq_true EF
   have e4:wrap64 (s*31)=s*31:=rN (by have:=HS.out;omega) (by have:=HS.out;omega)
   have e5:wrap64 (p+1 - 1)=p:=by rw [show p+1 - 1=p by omega];exact rN (by omega) (by have:=HP.out;omega)
   have e5':wrap64 p=p:=rN (by have:=HP.out;omega) (by have:=HP.out;omega)
   have e6:wrap64 b=b:=rN (by omega) (by omega)
   have e7:wrap64 (s*31+b)=s*31+b:=rN (by have:=HS.out;omega) (by have:=HS.out;omega)
   have e8:wrap64 (s*31+b+7)=s*31+b+7:=rN (by have:=HS.out;omega) (by have:=HS.out;omega)
   clear hl hC hb hx hrd hbe hbb hpp Jt nN
   go_wp2
   refine eG (n:=24) (S:=fun w'=>w'.cell? ⟨g,0,none⟩=some (.slice (some ad) n c)/\w'.cell? ⟨g,1,none⟩=some (.int .i64 (p+1))/\w'.cell? ⟨g,2,none⟩=some (.int .i64 s)/\w'.cell? (ad.add p.toNat)=some (.int .u8 b)) (ds:=[23]) #[false,false,false,false,false,false,false,false,false,false,false,false,false,false,false,false,false,false,false,false,false,false,false,false] (by kernel_rfl) rfl rfl (HHe.out _ (ak TP.out) (bn xe.out)) (fun hHeld=>?_)
   refine aI (i:=0) (N:=some 48) ?_
   refine aI (i:=1) (N:=some 49) ?_
   refine aI (i:=2) (N:=some 50) ?_
   refine aI (i:=3) (N:=some 51) ?_
   refine cE (i:=4) (N:=some 52) (v:=?_) (a':=?_) #[true,true,true,true,true,false,false,false,false,false,false,false,false,false,false,false,false,false,false,false,false,false,false,false] rfl rfl (by kernel_rfl) (fun _ _ _ h=>h) (Or.inl ⟨by rfl,?_⟩) hHeld ?_ ?_
   rotate_left
   ·rintro w' ⟨s0,s1,s2,s3⟩
    go_simp
    with_reducible rfl
   rotate_left
   ·exact dx
   refine aI (i:=5) (N:=some 53) ?_
   refine aI (i:=6) (N:=some 54) ?_
   refine aI (i:=7) (N:=some 55) ?_
   refine aI (i:=8) (N:=some 56) ?_
   refine cE (i:=9) (N:=some 57) (v:=?_) (a':=?_) #[true,true,true,true,true,true,true,true,true,true,false,false,false,false,false,false,false,false,false,false,false,false,false,false] rfl rfl (by kernel_rfl) (fun _ _ _ h=>h) (Or.inl ⟨by rfl,?_⟩) hHeld ?_ ?_
   rotate_left
   ·rintro w' ⟨s0,s1,s2,s3⟩
    go_simp
    with_reducible rfl
   rotate_left
   ·exact dx
   refine aI (i:=10) (N:=some 58) ?_
   refine aI (i:=11) (N:=some 59) ?_
   refine aI (i:=12) (N:=some 60) ?_
   refine cE (i:=13) (N:=some 61) (v:=?_) (a':=?_) #[true,true,true,true,true,true,true,true,true,true,true,true,true,true,false,false,false,false,false,false,false,false,false,false] rfl rfl (by kernel_rfl) (fun _ _ _ h=>h) (Or.inl ⟨by rfl,?_⟩) hHeld ?_ ?_
   rotate_left
   ·rintro w' ⟨s0,s1,s2,s3⟩
    go_simp
    with_reducible rfl
   rotate_left
   ·exact dx
   refine aI (i:=14) (N:=some 62) ?_
   refine aI (i:=15) (N:=some 63) ?_
   refine cE (i:=16) (N:=some 64) (v:=?_) (a':=?_) #[true,true,true,true,true,true,true,true,true,true,true,true,true,true,true,true,true,false,false,false,false,false,false,false] rfl rfl (by kernel_rfl) (fun _ _ _ h=>h) (Or.inl ⟨by rfl,?_⟩) hHeld ?_ ?_
   rotate_left
   ·rintro w' ⟨s0,s1,s2,s3⟩
    go_simp
    with_reducible rfl
   rotate_left
   ·exact dx
   refine aI (i:=17) (N:=some 65) ?_
   refine aI (i:=18) (N:=some 66) ?_
   refine aI (i:=19) (N:=some 67) ?_
   refine aI (i:=20) (N:=some 68) ?_
   refine aI (i:=21) (N:=some 69) ?_
   refine aI (i:=22) (N:=some 70) ?_
   have HX4:=Aside0.mk (ak TP.out)
   have nW:=Aside0.mk (bn xe.out)
   have HT4:=Aside0.mk (HT3.out.and Eg)
   clear TP xe HT3
   have hf2:=aa HX4.out 2
   have hz2:=(ag HX4.out 2).trans rfl
   generalize W3.drew=W4 at*
   refine nu (i:=23) (N:=none) #[true,true,true,true,true,true,true,true,true,true,true,true,true,true,true,true,true,true,true,true,true,true,true,true] rfl rfl (by kernel_rfl) (by decide) (fun K hK=>?_)
   refine ku (w1:=?_) (by rfl) rfl ?_ ?_
   rotate_left
   ·go_simp
    rfl
   refine hK.out _ _ ?_
   clear hK K
   refine fl (by kernel_rfl) ?_
   clear hHeld hz2 hf2
   have hq:=Eh (a:=s*31+b+7) (m:=2147483648) (by have:=HS.out;have:=HBv.out;omega) (by decide)
   generalize (s*31+b+7).tmod 2147483648=q at*
   have HX5:Aside0 ((W4.setCell ⟨g,2,none⟩ (.int .i64 q)).heap[g]? =some (.cells #[.slice (some ad) n c,.int .i64 (p+1),.int .i64 q] 70 (0,0))):=⟨aX HX4.out 2 _ rfl⟩
   have pN:Aside0 (Below w.heap.size w (W4.setCell ⟨g,2,none⟩ (.int .i64 q))):=⟨br nW.out HG.out⟩
   have HT5:Aside0 (Tr (·=g) W (W4.setCell ⟨g,2,none⟩ (.int .i64 q))):=⟨HT4.out.and Re⟩
   clear HX4 nW HT4
   generalize W4.setCell ⟨g,2,none⟩ (.int .i64 q)=W5 at*
   have HHf:Aside0 (∀w':World,w'.heap[g]? =some (.cells #[.slice (some ad) n c,.int .i64 (p+1),.int .i64 q] 70 (0,0))->Below w.heap.size w w'->w'.cell? ⟨g,0,none⟩=some (.slice (some ad) n c)/\w'.cell? ⟨g,1,none⟩=some (.int .i64 (p+1))/\w'.cell? (ad.add p.toNat)=some (.int .u8 b)):=⟨fun w' h hb=>⟨(ag h 0).trans rfl,(ag h 1).trans rfl,YM.out w' hb⟩⟩
   clear HHe
   go_wp2
   refine eG (n:=13) (S:=fun w'=>w'.cell? ⟨g,0,none⟩=some (.slice (some ad) n c)/\w'.cell? ⟨g,1,none⟩=some (.int .i64 (p+1))/\w'.cell? (ad.add p.toNat)=some (.int .u8 b)) (ds:=[]) #[false,false,false,false,false,false,false,false,false,false,false,false,false] (by kernel_rfl) rfl rfl (HHf.out _ (ak HX5.out) (bn pN.out)) (fun hHeld=>?_)
   refine aI (i:=0) (N:=some 71) ?_
   refine aI (i:=1) (N:=some 72) ?_
   refine aI (i:=2) (N:=some 73) ?_
   refine cE (i:=3) (N:=some 74) (v:=?_) (a':=?_) #[true,true,true,true,false,false,false,false,false,false,false,false,false] rfl rfl (by kernel_rfl) (fun _ _ _ h=>h) (Or.inl ⟨by rfl,?_⟩) hHeld ?_ ?_
   rotate_left
   ·rintro w' ⟨s0,s1,s2⟩
    go_simp
    with_reducible rfl
   rotate_left
   ·exact dx
   refine aI (i:=4) (N:=some 75) ?_
   refine aI (i:=5) (N:=some 76) ?_
   refine aI (i:=6) (N:=some 77) ?_
   refine cE (i:=7) (N:=some 78) (v:=?_) (a':=?_) #[true,true,true,true,true,true,true,true,false,false,false,false,false] rfl rfl (by kernel_rfl) (fun _ _ _ h=>h) (Or.inl ⟨by rfl,?_⟩) hHeld ?_ ?_
   rotate_left
   ·rintro w' ⟨s0,s1,s2⟩
    go_simp
    with_reducible rfl
   rotate_left
   ·exact dx
   refine aI (i:=8) (N:=some 79) ?_
   refine aI (i:=9) (N:=some 80) ?_
   refine cE (i:=10) (N:=some 81) (v:=?_) (a':=?_) #[true,true,true,true,true,true,true,true,true,true,true,false,false] rfl rfl (by kernel_rfl) (fun _ _ _ h=>h) (Or.inl ⟨by rfl,?_⟩) hHeld ?_ ?_
   rotate_left
   ·rintro w' ⟨s0,s1,s2⟩
    go_simp
    with_reducible rfl
   rotate_left
   ·exact dx
   refine aI (i:=11) (N:=some 82) ?_
   refine aI (i:=12) (N:=some 2) ?_
   refine fl (by kernel_rfl) ?_
   clear hHeld
   go_wp2
   go_ret
   exact ⟨b,rfl,HBv.out,⟨p+1,q,ak HX5.out,by have:=HP.out;omega,by have:=HP.out;omega,hq.1,hq.2⟩,bn pN.out,HT5.out.and Eg⟩
theorem lG.up {W:World} {g:Nat} {A:Option Addr} {n c k k':Nat} (h:lG W g A n c k) (hk:k<=k'):lG W g A n c k':=by
 obtain ⟨p,s,h1,h2,h3,h4⟩:=h
 exact ⟨p,s,h1,h2,by omega,h4⟩
theorem lG.alloc {W:World} {g:Nat} {A:Option Addr} {n c k:Nat} (h:lG W g A n c k) (o:Obj):lG (W.alloc o) g A n c k:=by
 obtain ⟨p,s,h1,h2⟩:=h
 exact ⟨p,s,aq h1 _,h2⟩
theorem lG.drew {W:World} {g:Nat} {A:Option Addr} {n c k:Nat} (h:lG W g A n c k):lG W.drew g A n c k:=by
 obtain ⟨p,s,h1,h2⟩:=h
 exact ⟨p,s,ak h1,h2⟩
theorem lG.keep {W W':World} {g:Nat} {A:Option Addr} {n c k:Nat} (h:lG W g A n c k) (e:W'.heap[g]? =W.heap[g]?):lG W' g A n c k:=by
 obtain ⟨p,s,h1,h2⟩:=h
 exact ⟨p,s,e.trans h1,h2⟩
theorem lG.lt {W:World} {g:Nat} {A:Option Addr} {n c k:Nat} (h:lG W g A n c k):g<W.heap.size:=by
 obtain ⟨p,s,h1,h2⟩:=h
 exact aY h1
theorem a2E {S:Nat->Prop} {W W':World} {o:Obj} (t:Tr S (W.alloc o) W'):Tr S W W':=(Tr.alloc (Tr.refl S W) o).and t
structure Zz (w:World) (g:Nat) (A:Option Addr) (n c:Nat):Prop where
 hn:n<=1048576
 hnc:n<=c
 hg:w.heap.size<=g
 code:Wb w A n
set_option maxHeartbeats 2000000 in
set_option maxRecDepth 100000 in
theorem kg {w W:World} {g:Nat} {A:Option Addr} {n c k:Nat} (m:Int) (hm:m<=256) (hr:Zz w g A n c) (hk:k<=1000000) (hB:Below w.heap.size w W) (hC:lG W g A n c k):
 Calls Try.prog 43 #[.pointer (some ⟨g,0,none⟩),.int .i64 m] W (zV w W g A n c (k+1) (fun x=>0<=x/\(x<m∨x=0))):=by
 have HY:=Aside0.mk (Zy w W g A n c k hr.hn hr.hnc hk hr.hg hB hC hr.code)
 have HB:=Aside0.mk hB
 have HC:=Aside0.mk hC
 clear hB hC hr
 by_cases h1:m<=1
 ·have c1:decide (m<=1)=true:=decide_eq_true h1
  clear h1
  go_enter Try.func43,Try.ntmps43
  go_wp2
  go_ret
  exact ⟨0,rfl,⟨Int.le_refl _,.inr rfl⟩,HC.out.up (Nat.le_succ _),HB.out,Tr.refl _ _⟩
 ·have c1:decide (m<=1)=false:=decide_eq_false h1
  have c2:decide (m<=256)=true:=decide_eq_true hm
  have c3:(m==0)=false:=by simp;omega
  have c4:decide (m=0)=false:=decide_eq_false (by omega)
  have c5:¬m=0:=by omega
  go_enter Try.func43,Try.ntmps43
  go_wp2_with (first|(go_at_call 60;go_loud ((with_reducible refine HY.out.mono ?_);rintro e w1 ⟨x,rfl,uX,fJ,fA,fq⟩;have HX:=Aside0.mk uX;have iJ:=Aside0.mk fJ;have dG:=Aside0.mk fA;have uJ:=Aside0.mk fq;clear uX fJ fA fq HY)))
  go_ret
  have hq:=Eh (a:=x) (m:=m) HX.out.1 (by omega)
  exact ⟨x.tmod m,rfl,⟨hq.1,.inl hq.2⟩,iJ.out,dG.out,uJ.out⟩
set_option maxHeartbeats 2000000 in
set_option maxRecDepth 100000 in
theorem ZA {w W:World} {g:Nat} {A:Option Addr} {n c k:Nat} (hr:Zz w g A n c) (hk:k<=1000000) (hB:Below w.heap.size w W) (hC:lG W g A n c k):
 Calls Try.prog 40 #[.pointer (some ⟨g,0,none⟩)] W (zV w W g A n c (k+1) (fun _=>True)):=by
 have HY:=Aside0.mk (kg 10 (by decide) hr hk hB hC)
 clear hB hC hr
 go_enter Try.func40,Try.ntmps40
 go_wp2_with (first|(go_at_call 43;go_loud ((with_reducible refine HY.out.mono ?_);rintro e w1 ⟨x,rfl,uX,fJ,fA,fq⟩;have iJ:=Aside0.mk fJ;have dG:=Aside0.mk fA;have uJ:=Aside0.mk fq;clear uX fJ fA fq HY)))
 all_goals (go_ret;exact ⟨_,rfl,trivial,iJ.out,dG.out,uJ.out⟩)
def uY (n:Nat):Array Value:=(List.replicate n (Value.bool false)).toArray
theorem b2c (n:Nat) (h:n<=1048576) (w:World):(Instr.makeSlice 87 (.int .i64 (n:Int)) (.int .i64 (n:Int))).run Try.prog w= .ok (.slice (some ⟨w.heap.size,0,none⟩) n n) (w.alloc (.cells (uY n) 4)):=by
 obtain ⟨i,hi,hz,hs,hb⟩:=info_parts (show (Try.prog.info? 4).map (fun i=>(i.zero,i.size,i.bytes))=some (some (.bool false),1,1) by kernel_rfl)
 have hr:=run_make (P:=Try.prog) w 87 4 i (.bool false) Try.underlying87 hi hz .i64 .i64 n n (by omega) (by omega) (by rw [hb];omega) (by omega)
 have e:(Value.bool false).cells= #[.bool false]:=rfl
 have e2:madeCells #[Value.bool false] n=uY n:=by
  apply Array.ext
  ·rw [size_madeCells];simp [uY]
  ·intro i h1 h2
   simp [madeCells,uY]
   rw [Nat.mod_one];rfl
 rw [e] at hr
 simpa [hs,e2] using hr
structure Bl (cs:Array Value) (n:Nat) (f:Nat->Bool):Prop where
 size:cs.size=n
 at_:∀j,j<n->cs[j]? =some (.bool (f j))
theorem ZB (n:Nat):Bl (uY n) n (fun _=>false):=⟨by simp [uY],fun j hj=>by unfold uY;rw [List.getElem?_toArray,List.getElem?_replicate,if_pos hj]⟩
theorem Bl.put {cs:Array Value} {n:Nat} {f:Nat->Bool} (h:Bl cs n f) {i:Nat} (hi:i<n):Bl (cs.setIfInBounds i (.bool true)) n (fun j=>if j=i then true else f j):=by
 refine ⟨by rw [Array.size_setIfInBounds];exact h.size,fun j hj=>?_⟩
 rw [Array.getElem?_setIfInBounds]
 by_cases e:j=i
 ·subst e;rw [if_pos rfl,if_pos (by rw [h.size];exact hj),if_pos rfl]
 ·rw [if_neg (fun e2=>e e2.symm),if_neg e];exact h.at_ j hj
structure jP (W:World) (A:Option Addr) (c:Nat) (l:List Int):Prop where
 ne:1<=l.length
 le:l.length<=6
 mem:∀x,x∈l->0<=x/\x<6
 rd:oY W l A c
 blk:∃b cs,A=some ⟨b,0,none⟩/\W.heap[b]? =some (.cells cs 3 (0,0))
def LI (w W:World) (g:Nat) (A:Option Addr) (n c k:Nat) (e:Ending) (w':World):Prop:=∃B d set,e= .returned (.slice B set.length d)/\jP w' B d set/\lG w' g A n c k/\Below w.heap.size w w'/\Tr (·=g) W w'/\Kd.R (Kd.int .i64) 3 w' W.heap.size (fun _=>True) (.slice B set.length d) set
theorem tR (w:World):Kd.R (Kd.int .i64) 3 (w.alloc (.cells #[] 3)) w.heap.size (fun _=>True) (.slice (some ⟨w.heap.size,0,none⟩) 0 0) []:=
 ⟨fun _ _=>trivial,[],⟨rfl,.inr ⟨w.heap.size,0,#[],rfl,Nat.le_refl _,bW w _,Nat.le_refl _,by unfold maxLen;omega,rfl,rfl⟩⟩,cT.none _ _⟩
theorem Tr.ZC {S:Nat->Prop} {W W':World} (h:Below W.heap.size W W'):Tr S W W':=⟨h.os,h.tape,h.output,h.size,fun k hk _=>h.block k hk⟩
theorem Rf {W:World} {base:Nat} {ok:Nat->Prop} {B:Option Addr} {d:Nat} {l:List Int} (h:Kd.R (Kd.int .i64) 3 W base ok (.slice B l.length d) l) (h1:1<=l.length) (h6:l.length<=6) (hm:∀x,x∈l->0<=x/\x<6):jP W B d l:=by
 obtain ⟨bs,ho,_⟩:=BO h
 have hrd:=oI.rd ho
 refine ⟨h1,h6,hm,hrd,?_⟩
 rcases ho with ⟨e,_⟩|⟨g,cap,cur,kO,e,hg,_⟩
 ·rw [e] at h1;simp at h1
 ·injection e with e;injection e with e1 e2 e3
  exact ⟨g,cur,e1,hg⟩
set_option maxHeartbeats 2000000 in
set_option maxRecDepth 100000 in
theorem xy {w W:World} {g:Nat} {A:Option Addr} {n c k0:Nat} (k:Nat) (most:Int) (wW:1<=k) (hk6:k<=6) (hm:most<=200) (hr:Zz w g A n c) (hk:k0<=900000) (hB:Below w.heap.size w W) (hC:lG W g A n c k0):
 Calls Try.prog 42 #[.pointer (some ⟨g,0,none⟩),.int .i64 (k:Int),.int .i64 most] W (LI w W g A n c (k0+300)):=by
 have hmk:=b2c k (by omega)
 have HR:=Aside0.mk hr
 have HB:=Aside0.mk hB
 have HC:=Aside0.mk hC
 have HY:Aside0 (∀(V:World) (q:Nat) (m:Int),m<=256->q<=1000000->Below w.heap.size w V->lG V g A n c q->Calls Try.prog 43 #[.pointer (some ⟨g,0,none⟩),.int .i64 m] V (zV w V g A n c (q+1) (fun x=>0<=x/\(x<m∨x=0)))):=⟨fun V q m h1 h2 h3 h4=>kg m h1 hr h2 h3 h4⟩
 have HM:=Aside0.mk hm
 have HK:=Aside0.mk (And.intro wW (And.intro hk6 hk))
 have HGW:Aside0 (g<W.heap.size):=⟨hC.lt⟩
 clear hB hC hr hm
 go_enter Try.func42,Try.ntmps42
 go_wp2_with (first|(go_at_call 43;go_loud ((with_reducible refine (HY.out _ k0 most (by have:=HM.out;omega) (by have:=HK.out;omega) (aK HB.out _) (HC.out.alloc _)).mono ?_);rintro e w1 ⟨x,rfl,uX,fJ,fA,fq⟩;have pQ:=Aside0.mk uX;have iJ:=Aside0.mk fJ;have dG:=Aside0.mk fA;have uJ:=Aside0.mk (a2E fq);have rR:=Aside0.mk (fq.blk (bW W (.cells (uY k) 4 (0,0))) (fun h=>by have:=HGW.out;omega));clear uX fJ fA fq)))
 obtain ⟨M,hM,hM1,hM2⟩:∃M:Nat,wrap64 (1+x)=(M:Int)/\1<=M/\M<=201:=⟨(1+x).toNat,by rw [rN (by have:=pQ.out;omega) (by have:=pQ.out;have:=HM.out;omega)];have:=pQ.out;omega,by have:=pQ.out;omega,by have:=pQ.out;have:=HM.out;omega⟩
 rw [hM]
 have ZE:=Aside0.mk (And.intro hM1 hM2)
 have HGb:Aside0 (g≠W.heap.size):=⟨Nat.ne_of_lt HGW.out⟩
 clear hM hM1 hM2 pQ hmk wW hk6 hk HC HB
 obtain ⟨gb,hgb⟩:∃gb,gb=W.heap.size:=⟨_,rfl⟩
 have HGe:Aside0 (W.heap.size<=gb):=⟨by omega⟩
 have b9e:Aside0 (w.heap.size<=gb):=⟨by have:=HR.out.hg;have:=HGW.out;omega⟩
 rw [<-hgb] at rR HGb
 rw [<-hgb]
 clear hgb
 go_loopw [9] (fun iv wr=>∃(i:Nat) (cs:Array Value) (f:Nat->Bool),iv= .int .i64 (i:Int)/\i<=M/\Aside0 (Bl cs k f)/\Aside0 (1<=i->∃j,j<k/\f j=true)/\Aside0 (wr.heap[gb]? =some (.cells cs 4 (0,0)))/\Aside0 (lG wr g A n c (k0+1+i))/\Aside0 (Below w.heap.size w wr)/\Aside0 (Tr (·=g) W wr)) (fun iv _=>M -(intOf iv).toNat)
 case atStart=>exact ⟨0,_,_,rfl,Nat.zero_le _,⟨ZB k⟩,⟨fun h=>by omega⟩,rR,iJ,dG,uJ⟩
 case round=>
  clear rR iJ dG uJ
  obtain ⟨i,cs,f,rfl,hi,qx,HSo,HF,HC,HB,HT⟩:=hrel
  by_cases hlt:i<M
  ·have gp:=Aside0.mk hlt
   have gd:decide ((i:Int)<(M:Int))=true:=decide_eq_true (by omega)
   have gn:decide (i<M)=true:=decide_eq_true hlt
   have fy:Aside0 (wrap64 ((i:Int)+1)=((i+1:Nat):Int)):=⟨eD (by have:=ZE.out;omega)⟩
   clear hlt hi
   go_wp2_with (first|(go_at_call 43;go_loud ((with_reducible refine (HY.out _ (k0+1+i) (k:Int) (by have:=HK.out;omega) (by have:=HK.out;have:=ZE.out;have:=gp.out;omega) HB.out HC.out).mono ?_);rintro e w1 ⟨x,rfl,uX,fJ,fA,fq⟩;obtain ⟨xn,Yh⟩:∃xn:Nat,x=(xn:Int):=⟨x.toNat,by omega⟩;subst Yh;have hxk:xn<k:=(by have:=HK.out;omega);have HXk:=Aside0.mk hxk;have iJ:=Aside0.mk fJ;have dG:=Aside0.mk fA;have uJ:=Aside0.mk (HT.out.and fq);have rR:=Aside0.mk (fq.blk HF.out (fun h=>HGb.out h.symm));have hq1:=bz rR.out (qx.out.at_ xn hxk);have hq2:=aa rR.out xn;have d0:(0:Int)<=(xn:Int):=(by omega);have d1:(xn:Int)<(k:Int):=(by omega);have d1d:decide ((xn:Int)<(k:Int))=true:=decide_eq_true d1;have d1n:decide (xn<k)=true:=decide_eq_true hxk;clear uX fJ fA fq hxk)))
   go_roundw
   case rel=>exact ⟨i+1,_,_,by first|(rw [fy.out];done)|rfl|(simp;done),gp.out,⟨qx.out.put HXk.out⟩,⟨fun _=>⟨xn,HXk.out,if_pos rfl⟩⟩,⟨aX rR.out xn _ rfl⟩,⟨iJ.out.keep (Below.heap_setCell _ _ _ g HGb.out)⟩,⟨br dG.out b9e.out⟩,⟨Tr.set uJ.out HGe.out _⟩⟩
   case measure=>(try rw [fy.out]);have:=gp.out;simp [intOf];omega
  ·have e:i=M:=by omega
   subst e
   have gd:decide ((i:Int)<(i:Int))=false:=decide_eq_false (by omega)
   have gn:decide (i<i)=false:=decide_eq_false (Nat.lt_irrefl _)
   clear hlt hi
   go_wp2
   obtain ⟨jt,hjt,hft⟩:=HSo.out ZE.out.1
   have HJt:Aside0 (jt<k/\f jt=true):=⟨⟨hjt,hft⟩⟩
   have GV:=Aside0.mk (tR wr)
   have HF0:=HF
   have Ti:=HB
   have b9f:=ZE
   have Iw:=Aside0.mk (aq HF.out (.cells #[] 3))
   have nN:=Aside0.mk (HC.out.alloc (.cells #[] 3))
   have iw:=Aside0.mk (aK HB.out (.cells #[] 3))
   have zu:=Aside0.mk (HT.out.and (Tr.alloc (Tr.refl _ wr) (.cells #[] 3)))
   have mg:=Aside0.mk (aK (Below.refl wr.heap.size wr) (.cells #[] 3))
   have hgw:gb<wr.heap.size:=aY HF.out
   have HGl:=Aside0.mk hgw
   clear hgw hjt hft HSo HF HB
   obtain ⟨w0,hw0⟩:∃w0,w0=wr:=⟨_,rfl⟩
   subst hw0
   clear Iw nN iw zu ZE
   go_loopw [10,32] (fun sv jv wr=>∃(j:Nat) (set:List Int),jv= .int .i64 (j:Int)/\j<=k/\Aside0 (Kd.R (Kd.int .i64) 3 wr w0.heap.size (fun _=>True) sv set)/\Aside0 (set.length<=j/\(∀x,x∈set->0<=x/\x<(k:Int))/\(jt<j->1<=set.length))/\Aside0 (Below w0.heap.size w0 wr)) (fun _ jv _=>k -(intOf jv).toNat)
   case atStart=>exact ⟨0,[],rfl,Nat.zero_le _,GV,⟨Nat.le_refl _,(fun x hx=>by simp at hx),fun h=>absurd h (Nat.not_lt_zero _)⟩,mg⟩
   case round=>
    clear GV mg
    obtain ⟨j,set,rfl,hj,HO,Be,mg⟩:=hrel
    by_cases hjk:j<k
    ·have TQ:=Aside0.mk hjk
     have gd:decide ((j:Int)<(k:Int))=true:=decide_eq_true (by omega)
     have gn:decide (j<k)=true:=decide_eq_true hjk
     have d0:(0:Int)<=(j:Int):=by omega
     have d1:(j:Int)<(k:Int):=by omega
     have kC:Aside0 (wrap64 ((j:Int)+1)=((j+1:Nat):Int)):=⟨eD (by have:=HK.out;omega)⟩
     have hq1:=bz (ah HF0.out mg.out) (qx.out.at_ j hjk)
     obtain ⟨b,hb⟩:∃b,f j=b:=⟨_,rfl⟩
     rw [hb] at hq1
     have HBj:=Aside0.mk hb
     clear hb hjk hj
     cases b with
     |true=>
      go_wp2_with (first|((with_reducible refine cK (b:= .append) (xs:= #[.tmp 38,.tmp 40]) rfl ?_);at_builtin;go_loud (refine Kd.fB (Kd.int .i64) (w0:=w0) w0.heap.size rfl _ _ 22 3 (.int .i64 0) 8 rfl Try.underlying22 info3 rfl (by decide) (by omega) u10 set (j:Int) [.int .i64 (j:Int)] (fun _=>True) (fun _=>False) rfl (by first|rfl|(go_simp;done)|(go_simp;rfl)) rfl (fun _ hk=>hk.elim) (fun _ _=>trivial) HO.out mg.out mg.out.size (by have:=Be.out.1;have:=TQ.out;have:=HK.out;omega) ?_;intro v1 w3 rS hb3 hg3 xd;have HO3:=Aside0.mk rS;have xe:=Aside0.mk hb3;clear rS hb3 hg3 xd)))
      go_roundw
      case rel=>exact ⟨j+1,_,by first|(rw [kC.out];done)|rfl|(simp;done),TQ.out,HO3,⟨by rw [List.length_append];have:=Be.out.1;simp;omega,fun x hx=>by
       rcases List.mem_append.1 hx with hx|hx
       ·exact Be.out.2.1 x hx
       ·rw [List.mem_singleton.1 hx];have:=TQ.out;omega,fun _=>by rw [List.length_append];simp⟩,xe⟩
      case measure=>(try rw [kC.out]);have:=TQ.out;simp [intOf];omega
     |false=>
      go_wp2
      go_roundw
      case rel=>exact ⟨j+1,set,by first|(rw [kC.out];done)|rfl|(simp;done),TQ.out,HO,⟨by have:=Be.out.1;omega,Be.out.2.1,fun h=>by
       by_cases e:jt=j
       ·have h1:=HJt.out.2;rw [e,HBj.out] at h1;exact absurd h1 (by decide)
       ·exact Be.out.2.2 (by omega)⟩,mg⟩
      case measure=>(try rw [kC.out]);have:=TQ.out;simp [intOf];omega
    ·have e:j=k:=by omega
     subst e
     have gd:decide ((j:Int)<(j:Int))=false:=decide_eq_false (by omega)
     have gn:decide (j<j)=false:=decide_eq_false (Nat.lt_irrefl _)
     clear hjk hj
     go_wp2
     go_ret
     obtain ⟨B,d,rfl⟩:=Kd.cX HO.out
     refine ⟨B,d,set,rfl,Rf HO.out (Be.out.2.2 HJt.out.1) (by have:=Be.out.1;have:=HK.out;omega) (fun x hx=>by have:=Be.out.2.1 x hx;have:=HK.out;omega),?_,ai Ti.out mg.out,?_,Kd.gG HO.out HT.out.size⟩
     ·exact (HC.out.keep (mg.out.block _ HC.out.lt)).up (by have:=b9f.out;omega)
     ·exact HT.out.and (Tr.ZC mg.out)
abbrev fj:=Option Addr×Nat×Nat
def jQ (h:fj):Value:= .slice h.1 h.2.1 h.2.2
def TR:Ow fj:=Ow.scalar jQ (fun _=>rfl)
abbrev kH:Kd fj:=Kd.scalar jQ (fun _=>rfl)
abbrev Da:Ow (List fj):=Ow.slice 22 TR
theorem TS:Ow.Fit TR:=Ow.GM _ _
theorem b2f {W:World} {base:Nat} {ok:Nat->Prop} {x:fj} {cs:List Value} (h:TR.kd.M W base ok x cs):TR.kd.M W base (fun _=>False) x cs:=h
theorem a2F:Ow.Fit Da:=Ow.yL TS b2f _
abbrev oK (w W:World) (v:Value) (hs:List fj):Prop:=Kd.R kH 22 W w.heap.size (fun _=>True) v hs
theorem zW {w W:World} {v:Value} {hs:List fj} (h:oK w W v hs):∃bs,Da.own W hs [v] bs/\∀b,b∈bs->w.heap.size<=b:=by
 obtain ⟨bs,h1,h2⟩:=a2F.of (x:=hs) ⟨v,rfl,h⟩
 exact ⟨bs,h1,fun b hb=>(h2 b hb).2⟩
theorem Wc {w W:World} {v:Value} {hs:List fj} {bs:List Nat} (h:Da.own W hs [v] bs) (hb:∀b,b∈bs->w.heap.size<=b):oK w W v hs:=Kd.Bk (Ow.Up TS h (fun b h=>⟨trivial,hb b h⟩))
theorem vY {w W:World} {v:Value} {hs:List fj} (h:oK w W v hs) (h1:1<=hs.length):∃e c cur,v= .slice (some ⟨e,0,none⟩) hs.length c/\W.heap[e]? =some (.cells cur 22 (0,0))/\hs.length<=c/\c<=maxLen/\cur.size=c/\w.heap.size<=e/\∀i (hi:i<hs.length),cur[i]? =some (jQ hs[i]):=by
 obtain ⟨bs,ho,hb⟩:=zW h
 rcases ho with ⟨e,_⟩|⟨g,cap,cur,kO,e,hg,hl,hm,hc,xm,_,hbl,hj⟩
 ·rw [e] at h1;simp at h1
 ·injection e with e;subst e
  have hsz:TR.kd.sz=1:=rfl
  rw [hsz,Nat.mul_one] at hc
  refine ⟨g,cap,cur,rfl,hg,hl,hm,hc,hb g (by rw [xm];exact List.mem_cons_self),fun i hi=>?_⟩
  have h2:=(hj i hi (by omega)).1
  unfold Ow.seg at h2
  rw [hsz,Nat.mul_one] at h2
  have h3:((cur.toList.drop i).take 1)[0]? =some (jQ hs[i]):=by rw [h2];rfl
  rw [List.getElem?_take,if_pos (by omega),List.getElem?_drop,Nat.add_zero,Array.getElem?_toList] at h3
  exact h3
theorem NT {w W:World} {hs:List fj} {e c:Nat} {cur:Array Value} (hg:W.heap[e]? =some (.cells cur 22 (0,0))) (hl:hs.length<=c) (hm:c<=maxLen) (hc:cur.size=c) (hb:w.heap.size<=e) (hj:∀i (hi:i<hs.length),cur[i]? =some (jQ hs[i])):oK w W (.slice (some ⟨e,0,none⟩) hs.length c) hs:=by
 refine Wc (bs:=[e]) (.inr ⟨e,c,cur,List.replicate hs.length [],rfl,hg,hl,hm,by rw [hc];exact (Nat.mul_one _).symm,by simp,by simp,by simp,fun j h h'=>⟨?_,by simp⟩⟩) (fun b h=>by rw [List.mem_singleton.1 h];exact hb)
 unfold Ow.seg
 have hsz:TR.kd.sz=1:=rfl
 rw [hsz,Nat.mul_one]
 refine List.ext_getElem? (fun i=>?_)
 rw [List.getElem?_take,List.getElem?_drop]
 rcases i with _|i
 ·rw [if_pos (by omega),Nat.add_zero,Array.getElem?_toList,hj j h];rfl
 ·rw [if_neg (by omega)];simp
theorem ZF {w W:World} {hs:List fj} {e c i:Nat} {cur:Array Value} {x:fj} (hg:W.heap[e]? =some (.cells cur 22 (0,0))) (hl:hs.length<=c) (hm:c<=maxLen) (hc:cur.size=c) (hb:w.heap.size<=e) (hj:∀i (hi:i<hs.length),cur[i]? =some (jQ hs[i])) (hi:i<hs.length):
 oK w (W.setCell ⟨e,i,none⟩ (jQ x)) (.slice (some ⟨e,0,none⟩) hs.length c) (hs.set i x):=by
 have h1:(W.setCell ⟨e,i,none⟩ (jQ x)).heap[e]? =some (.cells (cur.setIfInBounds i (jQ x)) 22 (0,0)):=aX hg i _ rfl
 have h2:=NT (w:=w) (hs:=hs.set i x) h1 (by rw [List.length_set];exact hl) hm (by rw [Array.size_setIfInBounds];exact hc) hb (fun j hj2=>by
  rw [List.length_set] at hj2
  rw [Array.getElem?_setIfInBounds,List.getElem_set]
  by_cases e2:i=j
  ·rw [if_pos e2,if_pos e2,if_pos (by rw [hc];omega)]
  ·rw [if_neg e2,if_neg e2];exact hj j hj2)
 rw [List.length_set] at h2
 exact h2
def KI (W W':World):Prop:=∀(b:Nat) (cs:Array Value),W.heap[b]? =some (.cells cs 3 (0,0))->W'.heap[b]? =some (.cells cs 3 (0,0))
theorem KI.refl (W:World):KI W W:=fun _ _ h=>h
theorem KI.tS {W W' W'':World} (h:KI W W') (h':KI W' W''):KI W W'':=fun b cs hb=>h' b cs (h b cs hb)
theorem KI.below {W W':World} (h:Below W.heap.size W W'):KI W W':=fun b cs hb=>(h.block b (aY hb)).trans hb
theorem KI.alloc (W:World) (o:Obj):KI W (W.alloc o):=fun _ _ h=>aq h o
theorem KI.set {W:World} {e i:Nat} {v:Value} {cs:Array Value} {t:TypeId} (he:W.heap[e]? =some (.cells cs t (0,0))) (ht:t≠3):KI W (W.setCell ⟨e,i,none⟩ v):=fun b cs' hb=>(Below.heap_setCell W ⟨e,i,none⟩ v b (fun h=>yT hb he (fun h2=>ht h2.symm) h)).trans hb
theorem KI.tr {W W':World} {g:Nat} {cs:Array Value} {t:TypeId} (h:Tr (·=g) W W') (he:W.heap[g]? =some (.cells cs t (0,0))) (ht:t≠3):KI W W':=fun b cs' hb=>(h.block b (aY hb) (fun e=>yT hb he (fun h2=>ht h2.symm) e)).trans hb
theorem KI.cur {W W':World} {g:Nat} {A:Option Addr} {n c k:Nat} (h:Tr (·=g) W W') (hc:lG W g A n c k):KI W W':=by
 obtain ⟨p,s,h1,_⟩:=hc
 exact KI.tr h h1 (by decide)
theorem KI.grown {w W W':World} {v:Value} {hs:List fj} (h:W.grownBy W' v.ownBlock) (he:oK w W v hs):KI W W':=fun b cs hb=>(h.block b (aY hb) (fun e=>by
 obtain ⟨bs,ho,_⟩:=zW he
 rcases ho with ⟨_,e2,_⟩|⟨g,cap,cur,kO,e2,hg,_⟩
 ·injection e2 with e2;rw [e2] at e;simp [Value.ownBlock] at e
 ·injection e2 with e2;rw [e2] at e
  have e3:b=g:=by have:=e.symm;simp [Value.ownBlock] at this;omega
  exact yT hb hg (by decide) e3)).trans hb
theorem jP.keep {W W':World} {A:Option Addr} {c:Nat} {l:List Int} (h:jP W A c l) (k:KI W W'):jP W' A c l:=by
 obtain ⟨b,cs,e,hb⟩:=h.blk
 have hb':=k b cs hb
 refine ⟨h.ne,h.le,h.mem,⟨h.rd.1,h.rd.2.1,h.rd.2.2.1,fun h0=>?_⟩,b,cs,e,hb'⟩
 obtain ⟨ad,e1,hr⟩:=h.rd.2.2.2 h0
 refine ⟨ad,e1,fun j p hp=>?_⟩
 obtain ⟨q,h1,h2,h3⟩:=hr j p hp
 refine ⟨q,h1,h2,fun i u hu=>?_⟩
 have e2:ad=⟨b,0,none⟩:=by rw [e] at e1;exact (Option.some.inj e1).symm
 have h4:=h3 i u hu
 rw [e2,add_plain] at h4⊢
 rw [ag hb] at h4
 rw [ag hb'];exact h4
theorem LJ {W:World} {l:List Int} {b:Nat} (hb:W.heap[b]? =some (.cells (l.map (Value.int .i64)).toArray 3 (0,0))) (h1:1<=l.length) (h6:l.length<=6) (hm:∀x,x∈l->0<=x/\x<6):jP W (some ⟨b,0,none⟩) l.length l:=by
 refine ⟨h1,h6,hm,⟨Nat.le_refl _,rfl,by omega,fun _=>⟨_,rfl,fun j p hp=>⟨[.int .i64 p],rfl,rfl,fun i u hu=>?_⟩⟩⟩,b,_,rfl,hb⟩
 have hi:i=0:=by
  have:=(List.getElem?_eq_some_iff.1 hu).1;simp at this;exact this
 subst hi
 have YI:u= .int .i64 p:=by simpa using hu.symm
 have hsz:(Kd.int IntKind.i64).sz=1:=rfl
 rw [YI,hsz,Nat.mul_one,Nat.add_zero,add_plain,ag hb]
 show (l.map (Value.int .i64)).toArray[j]? =_
 rw [List.getElem?_toArray,List.getElem?_map,hp];rfl
def jR (W:World) (hs:List fj):Prop:=∀h,h∈hs->∃l:List Int,h.2.1=l.length/\jP W h.1 h.2.2 l
theorem jR.keep {W W':World} {hs:List fj} (h:jR W hs) (k:KI W W'):jR W' hs:=fun x hx=>by
 obtain ⟨l,h1,h2⟩:=h x hx
 exact ⟨l,h1,h2.keep k⟩
theorem jR.add {W:World} {hs:List fj} (h:jR W hs) {A:Option Addr} {c:Nat} {l:List Int} (hr:jP W A c l):jR W (hs++[(A,l.length,c)]):=fun x hx=>by
 rcases List.mem_append.1 hx with hx|hx
 ·exact h x hx
 ·rw [List.mem_singleton.1 hx];exact ⟨l,rfl,hr⟩
theorem jR.put {W:World} {hs:List fj} (h:jR W hs) {A:Option Addr} {c i:Nat} {l:List Int} (hr:jP W A c l):jR W (hs.set i (A,l.length,c)):=fun x hx=>by
 rcases List.mem_or_eq_of_mem_set hx with hx|hx
 ·exact h x hx
 ·rw [hx];exact ⟨l,rfl,hr⟩
theorem jR.nil (W:World):jR W []:=fun x hx=>by cases hx
theorem a2G (w W:World) (h:w.heap.size<=W.heap.size):oK w (W.alloc (.cells #[] 22)) (.slice (some ⟨W.heap.size,0,none⟩) 0 0) []:=
 ⟨fun _ _=>trivial,[],⟨rfl,.inr ⟨W.heap.size,0,#[],rfl,h,bW W _,Nat.le_refl _,by unfold maxLen;omega,rfl,rfl⟩⟩,cT.none _ _⟩
theorem Ei {w W W':World} {v:Value} {hs:List fj} {g:Nat} {A:Option Addr} {n c k:Nat} (h:oK w W v hs) (hc:lG W g A n c k) (t:Tr (·=g) W W'):oK w W' v hs:=by
 obtain ⟨bs,ho,hb⟩:=zW h
 obtain ⟨p,s,hg,_⟩:=hc
 refine Wc (Da.move ho (fun b qL=>t.block b (Da.lt ho b qL) (fun e=>?_))) hb
 rcases ho with ⟨_,_,e2⟩|⟨e1,cap,cur,kO,_,he1,_,_,_,e2,_,hbl,hj⟩
 ·rw [e2] at qL;cases qL
 ·rw [e2] at qL
  rcases List.mem_cons.1 qL with qL|qL
  ·rw [e] at qL;rw [<-qL] at he1;exact yT hg he1 (by decide) rfl
  ·obtain ⟨l,hl,Al⟩:=List.mem_flatten.1 qL
   obtain ⟨j,hlt,rfl⟩:=List.getElem_of_mem hl
   have:=(hj j (by omega) hlt).2
   rw [this] at Al;cases Al
structure jS (w W:World) (g:Nat) (A:Option Addr) (n c k:Nat) (v:Value) (hs:List fj):Prop where
 own:oK w W v hs
 rows:jR W hs
 cur:lG W g A n c k
 dN:Below w.heap.size w W
theorem Db {w W W':World} {g:Nat} {A:Option Addr} {n c k:Nat} {v:Value} {hs:List fj} (h:lG W g A n c k) (he:oK w W v hs) (hg:W.grownBy W' v.ownBlock):lG W' g A n c k:=by
 have hl:=h.lt
 refine h.keep (hg.block g hl (fun e=>?_))
 obtain ⟨p,s,h1,_⟩:=h
 obtain ⟨bs,ho,_⟩:=zW he
 rcases ho with ⟨_,e2,_⟩|⟨e1,cap,cur,kO,e2,hg2,_⟩
 ·injection e2 with e2;rw [e2] at e;simp [Value.ownBlock] at e
 ·injection e2 with e2;rw [e2] at e
  have e3:g=e1:=by have:=e.symm;simp [Value.ownBlock] at this;omega
  exact yT h1 hg2 (by decide) e3
theorem TT {w W W':World} {g:Nat} {A:Option Addr} {n c k:Nat} {v v':Value} {hs:List fj} {B:Option Addr} {d:Nat} {l:List Int} (h:jS w W g A n c k v hs) (hr:jP W B d l)
 (ho:oK w W' v' (hs++[(B,l.length,d)])) (hb:Below w.heap.size w W') (hg:W.grownBy W' v.ownBlock):jS w W' g A n c k v' (hs++[(B,l.length,d)]):=
 ⟨ho,(h.rows.keep (KI.grown hg h.own)).add (hr.keep (KI.grown hg h.own)),Db h.cur h.own hg,hb⟩
theorem zX {w W W':World} {g:Nat} {A:Option Addr} {n c k:Nat} {v v':Value} {hs:List fj} {l:List Int} {m:Nat} (h:jS w W g A n c k v hs) (hm:l.length=m) (h1:1<=l.length) (h6:l.length<=6) (hx:∀x,x∈l->0<=x/\x<6)
 (ho:oK w W' v' (hs++[(some ⟨W.heap.size,0,none⟩,m,m)])) (hb:Below w.heap.size w W') (hg:(W.alloc (.cells (l.map (Value.int .i64)).toArray 3)).grownBy W' v.ownBlock):jS w W' g A n c k v' (hs++[(some ⟨W.heap.size,0,none⟩,m,m)]):=by
 subst hm
 have k1:=KI.alloc W (.cells (l.map (Value.int .i64)).toArray 3)
 have k2:=KI.grown hg (Kd.cF h.own _)
 have hr:jP W' (some ⟨W.heap.size,0,none⟩) l.length l:=(LJ (bW W _) h1 h6 hx).keep k2
 refine ⟨ho,(h.rows.keep (k1.tS k2)).add hr,Db (h.cur.alloc _) (Kd.cF h.own _) hg,hb⟩
end Go.Proofs.Ytnhknojfpjheoaa.PT
namespace Go.Proofs.Ytnhknojfpjheoaa.P
open Go.RowKit Go.Proofs.YtnhknojfpjheoaaW.PrintWords Go.Proofs.YtnhknojfpjheoaaW.PrintLast Go.Proofs.YtnhknojfpjheoaaW.PrintMore
attribute [local go_sem] max2_int min2_int max_two min_two max_three min_three max_four min_four
set_option linter.all false
def bP.l0:Nat->List Int->List Int->List Int->Int->Option (List Int)
 |0,_,_,_,_=>none
 |k+1,x0,x1,x5,x6=>if x6<6 then ((bH.f k x0 x6).bind fun Wd=>(if Wd=true then (if x5.length<17592186044416 then (bP.l0 k x0 x1 (x5++[x6]) (wrap64 (x6+1))) else (none)) else ((bH.f k x1 x6).bind fun Dd=>(if Dd=true then (if x5.length<17592186044416 then (bP.l0 k x0 x1 (x5++[x6]) (wrap64 (x6+1))) else (none)) else (bP.l0 k x0 x1 x5 (wrap64 (x6+1))))))) else (some x5)
def bP.f (k:Nat) (l0:List Int) (l1:List Int):Option (List Int):=bP.l0 k l0 l1 (([]:List Int)) 0
theorem bP.cH:∀k,(∀y0 y1 y2 y3,aW (bP.l0 k y0 y1 y2 y3) (bP.l0 (k+1) y0 y1 y2 y3))
 |0=>fun _ _ _ _ r h=>by simp [bP.l0] at h
 |k+1=>by
  have dP:=bP.cH k
  ·intro y0 y1 y2 y3
   unfold bP.l0
   repeat' first
   |(with_reducible exact dP _ _ _ _)
   |(with_reducible exact bH.mono _ _ _)
   |(with_reducible exact aW.refl _)
   |(with_reducible exact aW.none _)
   |(with_reducible refine aW.ite ?_ ?_)
   |(with_reducible refine aW.bind ?_ (fun _=>?_))
theorem bP.mono:∀a0 a1 k,aW (bP.f k a0 a1) (bP.f (k+1) a0 a1):=by
 intro a0 a1 k
 have dP:=bP.cH k
 unfold bP.f
 repeat' first
  |(with_reducible exact dP _ _ _ _)
  |(with_reducible exact bH.mono _ _ _)
  |(with_reducible exact aW.refl _)
  |(with_reducible exact aW.none _)
  |(with_reducible refine aW.ite ?_ ?_)
  |(with_reducible refine aW.bind ?_ (fun _=>?_))
set_option maxHeartbeats 8000000 in
set_option maxRecDepth 100000 in
theorem bP.calls (k:Nat) (A0:Option Addr) (c0:Nat) (l0:List Int) (A1:Option Addr) (c1:Nat) (l1:List Int) (r:List Int) (w:World) (fE:Kd.C (Kd.int .i64) w A0 l0.length l0) (hc0:l0.length<=c0) (hr1:Kd.C (Kd.int .i64) w A1 l1.length l1) (hc1:l1.length<=c1) (h:bP.f k l0 l1=some r):
 Calls Try.prog 59 #[.slice A0 l0.length c0,.slice A1 l1.length c1] w fun e w'=>∃mF:Value,e= .returned (mF)/\Kd.R (Kd.int .i64) 3 w' w.heap.size (fun _=>True) mF r/\Below w.heap.size w w':=by
 have eL:=Aside0.mk fE
 have kB:=Aside0.mk hc0
 clear fE hc0
 have gV:=Aside0.mk hr1
 have iJ:=Aside0.mk hc1
 clear hr1 hc1
 have HB:=Aside0.mk (Below.refl w.heap.size w)
 have H:(bP.l0 k l0 l1 (([]:List Int)) 0)=some r:=h
 clear h
 obtain ⟨b2g,Ju⟩:∃y_:List Int,y_=(([]:List Int)):=⟨_,rfl⟩
 replace H:(bP.l0 k l0 l1 b2g 0)=some r:=by first|(rw [Ju];with_reducible exact H)|(have dK:=(Option.bind_some _ _).symm.trans H;rw [Ju];with_reducible exact dK)|(have dK:=(Option.bind_some _ _).symm.trans H;with_reducible exact dK)|with_reducible exact H|(rw [Ju];exact H)|exact H
 have a5l:=Aside0.mk Ju
 clear Ju
 have H':=Aside0.mk H
 clear H
 go_enter Try.func59,Try.ntmps59
 go_wp2_with (first|((with_reducible refine bk (N:=7) rfl ?_);refine Kd.Ag (Kd.int .i64) _ 3 ?hg (N:=7) ?hd (xs:=([]:List Int)) (inner:=[]) (ok:=fun _=>True) (fN:=fun _=>True) ?hr ?hp (fun _ hk=>hk) trivial (Below.refl _ _) (Nat.le_refl _) (by simp) ?_;(case hd=>rfl);(case hg=>rfl);(case hr=>first|(go_simp;done)|(go_simp;rfl));(case hp=>exact (cT.none _ _));intro v357 w3 ZG hb uw mG;clear uw mG;(first|rw [<-a5l.out] at ZG|(simp only [Int.reduceToNat] at ZG;rw [<-a5l.out] at ZG));have ay:=Aside0.mk (Kd.gG ZG (av ax));have aA:=Aside0.mk (ai ax hb);clear HB;have b4L:=ay;have HB:=aA;clear ay aA;clear hb ZG))
 go_loopg [5,6] k (fun kq v5 v6 w'=>∃(aT:List Int) (gf:Int),v6= .int .i64 gf/\Aside0 (bP.l0 kq l0 l1 aT gf=some r)/\Aside0 (kq<=k)/\Aside0 (Kd.R (Kd.int .i64) 3 w' w.heap.size (fun _=>True) v5 aT)/\Aside0 (Below w.heap.size w w'))
 case atStart=>exact ⟨(b2g),(0),(by first|rfl|(simp;done)|(simp [*];done)),H',⟨Nat.le_refl _⟩,⟨by (with_reducible repeat (first|apply Kd.cF|apply Kd.dm|apply Kd.dO));exact b4L.out⟩,⟨ax⟩⟩
 case round=>
  clear H'
  try clear c1
  try clear p2
  obtain ⟨aT,gf,rfl,HA,fI,LK,HB⟩:=hrel
  cases gk with
  |zero=>exact absurd HA.out (by simp [bP.l0])
  |succ k1=>
   have H:=HA.out
   clear HA
   simp only [bP.l0] at H
   by_cases c5:gf<6
   ·rw [if_pos c5] at H
    have sZ:decide (gf<6)=true:=decide_eq_true c5
    clear c5
    replace H:=Option.bind_eq_some_iff.mp H
    obtain ⟨Wd,rO,H⟩:=H
    replace H:(if Wd=true then (if aT.length<17592186044416 then (bP.l0 k1 l0 l1 (aT++[gf]) (wrap64 (gf+1))) else (none)) else ((bH.f k1 l1 gf).bind fun Dd=>(if Dd=true then (if aT.length<17592186044416 then (bP.l0 k1 l0 l1 (aT++[gf]) (wrap64 (gf+1))) else (none)) else (bP.l0 k1 l0 l1 aT (wrap64 (gf+1))))))=some r:=H
    have A6:=Aside0.mk rO
    clear rO
    by_cases c7:Wd=true
    ·subst c7
     have H1:(if aT.length<17592186044416 then (bP.l0 k1 l0 l1 (aT++[gf]) (wrap64 (gf+1))) else (none))=some r:=by rw [if_pos rfl] at H;exact H
     clear H
     have H:=H1
     clear H1
     by_cases c8:aT.length<17592186044416
     ·rw [if_pos c8] at H
      have b9g:=Aside0.mk c8
      clear c8
      obtain ⟨b2h,Jv⟩:∃y_:List Int,y_=(aT++[gf]):=⟨_,rfl⟩
      replace H:(bP.l0 k1 l0 l1 b2h (wrap64 (gf+1)))=some r:=by first|(rw [Jv];with_reducible exact H)|(have dK:=(Option.bind_some _ _).symm.trans H;rw [Jv];with_reducible exact dK)|(have dK:=(Option.bind_some _ _).symm.trans H;with_reducible exact dK)|with_reducible exact H|(rw [Jv];exact H)|exact H
      have b4M:=Aside0.mk Jv
      clear Jv
      have H':=Aside0.mk H
      clear H
      go_wp2_with (first|((with_reducible refine aZ (f:=23) rfl ?_);refine bO (some 14) rfl rfl Try.func23 (by kernel_rfl) rfl #[.slice A0 l0.length c0,.int .i64 gf] rfl (by (try simp only [List.map_toArray,List.map_cons,List.map_nil]);first|done|rfl|(simp only [List.length_drop,List.length_take];rfl)) ?_;(with_reducible refine (bH.calls k1 _ _ l0 gf true _ ?bX ?bY A6.out).mono ?_);(case bX=>repeat (first|exact (Kd.bQ eL.out HB.out)|(with_reducible refine Kd.cO ?_ _)|(with_reducible refine Kd.cP ?_ _)|(with_reducible refine Kd.dw ?_)));(case bY=>exact kB.out);rintro e w' ⟨rfl,⟨nd,rfl⟩⟩;refine ⟨_,rfl,?_⟩)|((with_reducible refine cK (b:= .append) (xs:= #[.tmp 20,.tmp 22]) rfl ?_);at_builtin;refine Kd.fB (Kd.int .i64) (w0:=w) w.heap.size rfl (.tmp 20) (.tmp 22) 22 3 (.int .i64 0) 8 rfl Try.underlying22 info3 rfl (by decide) (by omega) u5 aT gf [.int .i64 gf] (fun _=>True) (fun _=>False) rfl rfl ?aP (fun _ hk=>hk.elim) ?aF ?aO ?aB ?aS ?aL ?_;(case aP=>exact rfl);(case aB=>exact ax);(case aF=>exact (fun _ _=>trivial));(case aO=>exact (by (with_reducible repeat (first|apply Kd.cF|apply Kd.dm|apply Kd.dO));exact LK.out));(case aS=>exact (av ax));(case aL=>have:=b9g.out;omega);intro v361 w9 ho hb hg hat;rw [<-b4M.out] at ho;have ay:=Aside0.mk (hb);have aA:=Aside0.mk (ho);clear HB;clear LK;have HB:=ay;have b4N:=aA;clear ay aA;clear ho hb hg hat))
      go_roundg k1
      case measure=>have:=fI.out;omega
      case rel=>exact ⟨(b2h),(wrap64 (gf+1)),(by first|rfl|(simp;done)|(simp [*];done)),H',⟨by have:=fI.out;omega⟩,⟨by (with_reducible repeat (first|apply Kd.cF|apply Kd.dm|apply Kd.dO));exact b4N.out⟩,⟨ax⟩⟩
     ·rw [if_neg c8] at H
      exact absurd H (by simp)
    ·replace c7:=Bool.eq_false_iff.mpr c7
     subst c7
     have H1:((bH.f k1 l1 gf).bind fun Dd=>(if Dd=true then (if aT.length<17592186044416 then (bP.l0 k1 l0 l1 (aT++[gf]) (wrap64 (gf+1))) else (none)) else (bP.l0 k1 l0 l1 aT (wrap64 (gf+1)))))=some r:=by rw [if_neg (show ¬(false=true) by decide)] at H;exact H
     clear H
     have H:=H1
     clear H1
     replace H:=Option.bind_eq_some_iff.mp H
     obtain ⟨Dd,QY,H⟩:=H
     replace H:(if Dd=true then (if aT.length<17592186044416 then (bP.l0 k1 l0 l1 (aT++[gf]) (wrap64 (gf+1))) else (none)) else (bP.l0 k1 l0 l1 aT (wrap64 (gf+1))))=some r:=H
     have A10:=Aside0.mk QY
     clear QY
     by_cases c11:Dd=true
     ·subst c11
      have H1:(if aT.length<17592186044416 then (bP.l0 k1 l0 l1 (aT++[gf]) (wrap64 (gf+1))) else (none))=some r:=by rw [if_pos rfl] at H;exact H
      clear H
      have H:=H1
      clear H1
      by_cases c12:aT.length<17592186044416
      ·rw [if_pos c12] at H
       have b4O:=Aside0.mk c12
       clear c12
       obtain ⟨b2j,Jw⟩:∃y_:List Int,y_=(aT++[gf]):=⟨_,rfl⟩
       replace H:(bP.l0 k1 l0 l1 b2j (wrap64 (gf+1)))=some r:=by first|(rw [Jw];with_reducible exact H)|(have dK:=(Option.bind_some _ _).symm.trans H;rw [Jw];with_reducible exact dK)|(have dK:=(Option.bind_some _ _).symm.trans H;with_reducible exact dK)|with_reducible exact H|(rw [Jw];exact H)|exact H
       have b4P:=Aside0.mk Jw
       clear Jw
       have H':=Aside0.mk H
       clear H
       go_wp2_with (first|((with_reducible refine aZ (f:=23) rfl ?_);refine bO (some 14) rfl rfl Try.func23 (by kernel_rfl) rfl #[.slice A0 l0.length c0,.int .i64 gf] rfl (by (try simp only [List.map_toArray,List.map_cons,List.map_nil]);first|done|rfl|(simp only [List.length_drop,List.length_take];rfl)) ?_;(with_reducible refine (bH.calls k1 _ _ l0 gf false _ ?bX ?bY A6.out).mono ?_);(case bX=>repeat (first|exact (Kd.bQ eL.out HB.out)|(with_reducible refine Kd.cO ?_ _)|(with_reducible refine Kd.cP ?_ _)|(with_reducible refine Kd.dw ?_)));(case bY=>exact kB.out);rintro e w' ⟨rfl,⟨nd,rfl⟩⟩;refine ⟨_,rfl,?_⟩)|(go_at_call 23;(with_reducible refine (bH.calls k1 _ _ l1 gf true _ ?bX ?bY A10.out).mono ?_);(case bX=>repeat (first|exact (Kd.bQ gV.out ax)|(with_reducible refine Kd.cO ?_ _)|(with_reducible refine Kd.cP ?_ _)|(with_reducible refine Kd.dw ?_)));(case bY=>exact iJ.out);rintro e w' ⟨rfl,⟨nd,rfl⟩⟩)|((with_reducible refine cK (b:= .append) (xs:= #[.tmp 20,.tmp 22]) rfl ?_);at_builtin;refine Kd.fB (Kd.int .i64) (w0:=w) w.heap.size rfl (.tmp 20) (.tmp 22) 22 3 (.int .i64 0) 8 rfl Try.underlying22 info3 rfl (by decide) (by omega) u5 aT gf [.int .i64 gf] (fun _=>True) (fun _=>False) rfl rfl ?aP (fun _ hk=>hk.elim) ?aF ?aO ?aB ?aS ?aL ?_;(case aP=>exact rfl);(case aB=>exact ax);(case aF=>exact (fun _ _=>trivial));(case aO=>exact (by (with_reducible repeat (first|apply Kd.cF|apply Kd.dm|apply Kd.dO));exact LK.out));(case aS=>exact (av ax));(case aL=>have:=b4O.out;omega);intro v365 nY ho hb hg hat;rw [<-b4P.out] at ho;have ay:=Aside0.mk (hb);have aA:=Aside0.mk (ho);clear HB;clear LK;have HB:=ay;have b4Q:=aA;clear ay aA;clear ho hb hg hat))
       go_roundg k1
       case measure=>have:=fI.out;omega
       case rel=>exact ⟨(b2j),(wrap64 (gf+1)),(by first|rfl|(simp;done)|(simp [*];done)),H',⟨by have:=fI.out;omega⟩,⟨by (with_reducible repeat (first|apply Kd.cF|apply Kd.dm|apply Kd.dO));exact b4Q.out⟩,⟨ax⟩⟩
      ·rw [if_neg c12] at H
       exact absurd H (by simp)
     ·replace c11:=Bool.eq_false_iff.mpr c11
      subst c11
      have H1:(bP.l0 k1 l0 l1 aT (wrap64 (gf+1)))=some r:=by rw [if_neg (show ¬(false=true) by decide)] at H;exact H
      clear H
      have H:=H1
      clear H1
      have H':=Aside0.mk H
      clear H
      go_wp2_with (first|((with_reducible refine aZ (f:=23) rfl ?_);refine bO (some 14) rfl rfl Try.func23 (by kernel_rfl) rfl #[.slice A0 l0.length c0,.int .i64 gf] rfl (by (try simp only [List.map_toArray,List.map_cons,List.map_nil]);first|done|rfl|(simp only [List.length_drop,List.length_take];rfl)) ?_;(with_reducible refine (bH.calls k1 _ _ l0 gf false _ ?bX ?bY A6.out).mono ?_);(case bX=>repeat (first|exact (Kd.bQ eL.out HB.out)|(with_reducible refine Kd.cO ?_ _)|(with_reducible refine Kd.cP ?_ _)|(with_reducible refine Kd.dw ?_)));(case bY=>exact kB.out);rintro e w' ⟨rfl,⟨nd,rfl⟩⟩;refine ⟨_,rfl,?_⟩)|(go_at_call 23;(with_reducible refine (bH.calls k1 _ _ l1 gf false _ ?bX ?bY A10.out).mono ?_);(case bX=>repeat (first|exact (Kd.bQ gV.out ax)|(with_reducible refine Kd.cO ?_ _)|(with_reducible refine Kd.cP ?_ _)|(with_reducible refine Kd.dw ?_)));(case bY=>exact iJ.out);rintro e w' ⟨rfl,⟨nd,rfl⟩⟩))
      go_roundg k1
      case measure=>have:=fI.out;omega
      case rel=>exact ⟨(aT),(wrap64 (gf+1)),(by first|rfl|(simp;done)|(simp [*];done)),H',⟨by have:=fI.out;omega⟩,⟨by (with_reducible repeat (first|apply Kd.cF|apply Kd.dm|apply Kd.dO));exact LK.out⟩,⟨ax⟩⟩
   ·rw [if_neg c5] at H
    have sZ:decide (gf<6)=false:=decide_eq_false c5
    clear c5
    obtain rfl:=Option.some.inj H
    go_wp2
    go_ret
    exact ⟨_,by first|rfl|(simp [aM,aQ]<;>rfl)|(simp [*,aM,aQ]<;>rfl),by (with_reducible repeat (first|apply Kd.cF|apply Kd.dm|apply Kd.dO));exact LK.out,ax⟩
end Go.Proofs.Ytnhknojfpjheoaa.P
namespace Go.Proofs.Ytnhknojfpjheoaa.PT
open Go.RowKit Go.Proofs.Ytnhknojfpjheoaa.P Go.Proofs.YtnhknojfpjheoaaW.PrintWords Go.Proofs.YtnhknojfpjheoaaW.PrintLast Go.Proofs.Ytnhknojfpjheoaa.EvKit
set_option linter.all false
theorem wD (l:List Int) (x:Int) (hl:l.length<=1048576):Ev (fun k=>bH.f k l x) (decide (x∈l)):=by
 unfold bH.f
 have:=Ev.loop (g:=fun k i=>bH.l0 k x l (l.length:Int) (i:Int)) (n:=l.length) (R:=fun i=>decide (x∈l.drop i)) ?_ ?_ 0 (Nat.zero_le _)
 ·simpa using this
 ·refine Ev.succ ?_
  simp only [bH.l0]
  exact Ev.neg (by omega) (by simpa using Ev.now _)
 ·intro i hi ih
  refine Ev.succ ?_
  simp only [bH.l0,qa hi,eD (show i<=9223372036854775806 by omega)]
  refine Ev.pos (by omega) (Ev.pos (by omega) (Ev.pos (by omega) ?_))
  have e:decide (x∈l.drop i)=(decide (x=l[i])||decide (x∈l.drop (i+1))):=by
   rw [List.drop_eq_getElem_cons hi];simp only [List.mem_cons,Bool.decide_or]
  show Ev _ (decide (x∈l.drop i))
  rw [e]
  by_cases h:x=l[i]
  ·refine Ev.pos h (Ev.to (Ev.now _) ?_)
   rw [decide_eq_true h];rfl
  ·refine Ev.neg h (Ev.to ih ?_)
   rw [decide_eq_false h];rfl
def b2k (l:List Int):Prop:=l.length<=6/\∀x,x∈l->0<=x/\x<6
theorem a2H (a b:List Int) (ha:a.length<=1048576) (hb:b.length<=1048576):∀m i,i+m=6->∀out:List Int,out.length<=i->(∀x,x∈out->0<=x/\x<6)->
 ∃r,Ev (fun k=>bP.l0 k a b out (i:Int)) r/\b2k r/\out.length<=r.length/\∀v:Int,(i:Int)<=v->v<6->v∈b->1<=r.length:=by
 intro m
 induction m with
 |zero=>
  intro i hi out hl hx
  have e:i=6:=by omega
  subst e
  refine ⟨out,Ev.succ ?_,⟨hl,hx⟩,Nat.le_refl _,fun v h1 h2=>by omega⟩
  simp only [bP.l0]
  exact Ev.neg (by omega) (Ev.now _)
 |succ m ih=>
  intro i hi out hl hx
  have hi6:i<6:=by omega
  have hx2:∀x,x∈out++[(i:Int)]->0<=x/\x<6:=fun x hm=>by
   rcases List.mem_append.1 hm with hm|hm
   ·exact hx x hm
   ·rw [List.mem_singleton.1 hm];omega
  have hl2:(out++[(i:Int)]).length<=i+1:=by rw [List.length_append];simp;omega
  obtain ⟨r1,e1,f1,g1,_⟩:=ih (i+1) (by omega) (out++[(i:Int)]) hl2 hx2
  have g1':out.length+1<=r1.length:=by rw [List.length_append] at g1;simpa using g1
  have ew:wrap64 ((i:Int)+1)=((i+1:Nat):Int):=eD (by omega)
  by_cases hia:(i:Int)∈a
  ·refine ⟨r1,Ev.succ ?_,f1,by omega,fun v _ _ _=>by omega⟩
   simp only [bP.l0,ew]
   refine Ev.pos (by omega) (Ev.bind (wD a _ ha) (Ev.pos (decide_eq_true hia) (Ev.pos (by omega) e1)))
  ·by_cases hib:(i:Int)∈b
   ·refine ⟨r1,Ev.succ ?_,f1,by omega,fun v _ _ _=>by omega⟩
    simp only [bP.l0,ew]
    refine Ev.pos (by omega) (Ev.bind (wD a _ ha) (Ev.neg (by rw [decide_eq_false hia];decide) (Ev.bind (wD b _ hb) (Ev.pos (decide_eq_true hib) (Ev.pos (by omega) e1)))))
   ·obtain ⟨r2,e2,f2,g2,h2⟩:=ih (i+1) (by omega) out (by omega) hx
    refine ⟨r2,Ev.succ ?_,f2,g2,fun v h3 h4 h5=>?_⟩
    ·simp only [bP.l0,ew]
     refine Ev.pos (by omega) (Ev.bind (wD a _ ha) (Ev.neg (by rw [decide_eq_false hia];decide) (Ev.bind (wD b _ hb) (Ev.neg (by rw [decide_eq_false hib];decide) e2))))
    ·by_cases e:v=(i:Int)
     ·rw [e] at h5;exact absurd h5 hib
     ·exact h2 v (by omega) h4 h5
theorem We (a b:List Int) (ha:a.length<=1048576) (hb:b.length<=1048576) {v:Int} (h0:0<=v) (h6:v<6) (hv:v∈b):∃r,Ev (fun k=>bP.f k a b) r/\b2k r/\1<=r.length:=by
 obtain ⟨r,e,f,_,h⟩:=a2H a b ha hb 6 0 rfl [] (Nat.le_refl _) (fun x hx=>by cases hx)
 exact ⟨r,e,f,h v h0 h6 hv⟩
theorem a2I {w W W':World} {v:Value} {hs:List fj} (h:oK w W v hs) (hb:Below W.heap.size W W'):oK w W' v hs:=by
 obtain ⟨bs,ho,xm⟩:=zW h
 exact Wc (Da.move ho (fun b qL=>hb.block b (Da.lt ho b qL))) xm
theorem pW {w W W':World} {g:Nat} {A:Option Addr} {n c k:Nat} {v:Value} {hs:List fj} (h:jS w W g A n c k v hs) (hb:Below W.heap.size W W'):jS w W' g A n c k v hs:=
 ⟨a2I h.own hb,h.rows.keep (KI.below hb),h.cur.keep (hb.block g h.cur.lt),ai h.dN hb⟩
theorem uZ {w W:World} {g:Nat} {A:Option Addr} {n c k k':Nat} {v:Value} {hs:List fj} (h:jS w W g A n c k v hs) (hk:k<=k'):jS w W g A n c k' v hs:=⟨h.own,h.rows,h.cur.up hk,h.dN⟩
theorem De {w W:World} {g:Nat} {A:Option Addr} {n c k:Nat} {E:Option Addr} {d:Nat} {hs:List fj} (h:jS w W g A n c k (.slice E hs.length d) hs) {j:Nat} (hj:j<hs.length):
 ∃(e:Nat) (B:Option Addr) (c1:Nat) (l:List Int),E=some ⟨e,0,none⟩/\W.cell? ⟨e,j,none⟩=some (.slice B l.length c1)/\W.frozen? ⟨e,j,none⟩=false/\jP W B c1 l:=by
 obtain ⟨e,c0,cur,h1,h2,h3,h4,h5,h6,h7⟩:=vY h.own (by omega)
 obtain ⟨l,hl,hr⟩:=h.rows hs[j] (List.getElem_mem hj)
 injection h1 with h1 _ _
 refine ⟨e,hs[j].1,hs[j].2.2,l,h1,?_,aa h2 j,hr⟩
 rw [ag h2,h7 j hj,<-hl];rfl
theorem Gt {w W:World} {g:Nat} {A:Option Addr} {n c k e d:Nat} {hs:List fj} (h:jS w W g A n c k (.slice (some ⟨e,0,none⟩) hs.length d) hs) {j:Nat} (hj:j<hs.length):∃(B:Option Addr) (c1:Nat) (l:List Int),W.cell? ⟨e,j,none⟩=some (.slice B l.length c1)/\W.frozen? ⟨e,j,none⟩=false/\jP W B c1 l:=by
 obtain ⟨e',B,c1,l,e1,h1,h2,h3⟩:=De h hj
 have e2:e=e':=by injection (Option.some.inj e1)
 subst e2
 exact ⟨B,c1,l,h1,h2,h3⟩
theorem a2J {W:World} {B:Option Addr} {c1:Nat} {l:List Int} (h:jP W B c1 l) {v:Int} (hv:0<=v/\v<6):∀x,x∈[]++l++[v]->0<=x/\x<6:=fun x hx=>by
 rw [List.nil_append] at hx
 rcases List.mem_append.1 hx with hx|hx
 ·exact h.mem x hx
 ·rw [List.mem_singleton.1 hx];exact hv
theorem ZH {W:World} {B:Option Addr} {c1:Nat} {l:List Int} (h:jP W B c1 l) (h3:l.length<3) {v:Int} (hv:0<=v/\v<6):1<=([]++l++[v]).length/\([]++l++[v]).length<=6/\∀x,x∈[]++l++[v]->0<=x/\x<6:=
 ⟨by simp,by simp;omega,a2J h hv⟩
theorem TU {w W:World} {g:Nat} {A:Option Addr} {n c k e d j:Nat} {hs:List fj} {B:Option Addr} {c1:Nat} {l:List Int} (h:jS w W g A n c k (.slice (some ⟨e,0,none⟩) hs.length d) hs) (hj:j<hs.length) (hr:jP W B c1 l):
 jS w (W.setCell ⟨e,j,none⟩ (.slice B l.length c1)) g A n c k (.slice (some ⟨e,0,none⟩) hs.length d) (hs.set j (B,l.length,c1)):=by
 obtain ⟨e',c0,cur,h1,h2,h3,h4,h5,h6,h7⟩:=vY h.own (by omega)
 injection h1 with h1 _ h1c
 have e1:e=e':=by injection (Option.some.inj h1)
 subst e1;subst h1c
 have ki:KI W (W.setCell ⟨e,j,none⟩ (.slice B l.length c1)):=KI.set h2 (by decide)
 refine ⟨ZF (x:=(B,l.length,c1)) h2 h3 h4 h5 h6 h7 hj,(h.rows.keep ki).put (hr.keep ki),h.cur.keep (Below.heap_setCell _ _ _ g (fun e2=>?_)),br h.dN h6⟩
 obtain ⟨p,s,hg,_⟩:=h.cur
 exact yT hg h2 (by decide) e2
structure Bg (w W:World) (vb:Value) (l:List Int) (hs:List fj):Prop where
 own:Kd.R (Kd.int .i64) 3 W w.heap.size (fun _=>True) vb l
 len:l.length<=8
 apart:∀h,h∈hs->∀b,h.1=some ⟨b,0,none⟩->vb.ownBlock≠some b
structure Dc (w W:World) (g:Nat) (A:Option Addr) (n c k:Nat) (v:Value) (hs:List fj) (vb:Value) (l:List Int):Prop where
 dR:jS w W g A n c k v hs
 aj:Bg w W vb l hs
 ne:1<=hs.length
 le:hs.length<=8
theorem zY {w W:World} {vb:Value} {l:List Int} (h:Kd.R (Kd.int .i64) 3 W w.heap.size (fun _=>True) vb l):∃bs,yM.own W l [vb] bs/\∀b,b∈bs->w.heap.size<=b:=by
 obtain ⟨bs,h1,h2⟩:=BO h
 exact ⟨bs,h1,fun b hb=>(h2 b hb).2⟩
theorem ZI {w W:World} {vb:Value} {l:List Int} {bs:List Nat} (h:yM.own W l [vb] bs) (hb:∀b,b∈bs->w.heap.size<=b):Kd.R (Kd.int .i64) 3 W w.heap.size (fun _=>True) vb l:=WE h (fun b qL=>⟨trivial,hb b qL⟩)
theorem a7z {W:World} {vb:Value} {l:List Int} {bs:List Nat} (h:yM.own W l [vb] bs):∀b,b∈bs->∃cs,W.heap[b]? =some (.cells cs 3 (0,0)):=by
 rcases h with ⟨_,_,e⟩|⟨g,cap,cur,kO,_,hg,_,_,_,e,_,hbl,hj⟩
 ·intro b hb;rw [e] at hb;cases hb
 ·intro b hb
  rw [e] at hb
  rcases List.mem_cons.1 hb with hb|hb
  ·rw [hb];exact ⟨cur,hg⟩
  ·obtain ⟨x,hx,kD⟩:=List.mem_flatten.1 hb
   obtain ⟨j,hlt,rfl⟩:=List.getElem_of_mem hx
   have:=(hj j (by omega) hlt).2
   rw [this] at kD;cases kD
theorem pX {w W W':World} {vb:Value} {l:List Int} (h:Kd.R (Kd.int .i64) 3 W w.heap.size (fun _=>True) vb l) (k:KI W W'):Kd.R (Kd.int .i64) 3 W' w.heap.size (fun _=>True) vb l:=by
 obtain ⟨bs,ho,hb⟩:=zY h
 refine ZI (yM.move ho (fun b qL=>?_)) hb
 obtain ⟨cs,hc⟩:=a7z ho b qL
 rw [hc];exact k b cs hc
theorem Bg.keep {w W W':World} {vb:Value} {l:List Int} {hs:List fj} (h:Bg w W vb l hs) (k:KI W W'):Bg w W' vb l hs:=⟨pX h.own k,h.len,h.apart⟩
theorem Dc.step {w W W':World} {g:Nat} {A:Option Addr} {n c k k':Nat} {v:Value} {hs:List fj} {vb:Value} {l:List Int} (h:Dc w W g A n c k v hs vb l) (ht:Tr (·=g) W W') (hc:lG W' g A n c k') (hb:Below w.heap.size w W'):Dc w W' g A n c k' v hs vb l:=
 ⟨⟨Ei h.dR.own h.dR.cur ht,h.dR.rows.keep (KI.cur ht h.dR.cur),hc,hb⟩,h.aj.keep (KI.cur ht h.dR.cur),h.ne,h.le⟩
theorem Dc.below {w W W':World} {g:Nat} {A:Option Addr} {n c k:Nat} {v:Value} {hs:List fj} {vb:Value} {l:List Int} (h:Dc w W g A n c k v hs vb l) (hb:Below W.heap.size W W'):Dc w W' g A n c k v hs vb l:=
 ⟨pW h.dR hb,h.aj.keep (KI.below hb),h.ne,h.le⟩
def NU (W:World) (hs:List fj):Prop:=∀h,h∈hs->∃l:List Int,h.2.1=l.length/\l.length<=100/\oY W l h.1 h.2.2
theorem jR.weak {W:World} {hs:List fj} (h:jR W hs):NU W hs:=fun x hx=>by
 obtain ⟨l,h1,h2⟩:=h x hx
 exact ⟨l,h1,by have:=h2.le;omega,h2.rd⟩
theorem ZJ {W:World} {hs:List fj} (h:NU W hs):∃af:List (List Int),af.length=hs.length/\(∀x,x∈af->x.length<=100)/\∀(j:Nat) (hj:j<hs.length) (x:List Int),af[j]? =some x->hs[j].2.1=x.length/\oY W x hs[j].1 hs[j].2.2:=by
 have key:∀i:Fin hs.length,∃l:List Int,hs[i.1].2.1=l.length/\l.length<=100/\oY W l hs[i.1].1 hs[i.1].2.2:=fun i=>h _ (List.getElem_mem i.2)
 obtain ⟨f,hf⟩:=Classical.axiomOfChoice key
 refine ⟨(List.finRange hs.length).map f,by simp,fun x hx=>?_,fun j hj x hx=>?_⟩
 ·obtain ⟨i,_,rfl⟩:=List.mem_map.1 hx
  exact (hf i).2.1
 ·have e:x=f ⟨j,hj⟩:=by simpa [hj] using hx.symm
  rw [e];exact ⟨(hf ⟨j,hj⟩).1,(hf ⟨j,hj⟩).2.2⟩
theorem LL {W:World} {hs:List fj} {E:Addr} {d:Nat} (hl:hs.length<=d) (hm:hs.length<=1000) (hc:∀j (hj:j<hs.length),W.cell? (E.add j)=some (jQ hs[j])) (hr:NU W hs):∃af:List (List Int),af.length=hs.length/\(∀x,x∈af->x.length<=100)/\lX W af (some E) d:=by
 obtain ⟨af,h1,h2,h3⟩:=ZJ hr
 refine ⟨af,h1,h2,by omega,rfl,by omega,fun _=>⟨E,rfl,fun j x hx=>?_⟩⟩
 have hj:j<hs.length:=by rw [<-h1];exact (List.getElem?_eq_some_iff.1 hx).1
 obtain ⟨h4,h5⟩:=h3 j hj x hx
 refine ⟨[.slice hs[j].1 x.length hs[j].2.2],rfl,⟨hs[j].1,hs[j].2.2,rfl,h5.1,h5.2⟩,fun i u hu=>?_⟩
 have hi:i=0:=by
  have:=(List.getElem?_eq_some_iff.1 hu).1;simp at this;exact this
 subst hi
 have YI:u= .slice hs[j].1 x.length hs[j].2.2:=by simpa using hu.symm
 have hsz:a8F.sz=1:=rfl
 rw [YI,hsz,Nat.mul_one,Nat.add_zero,hc j hj]
 unfold jQ;rw [h4]
theorem b2m {w W W':World} {g:Nat} {A:Option Addr} {n c k k':Nat} {v:Value} {hs:List fj} {B:Option Addr} {d:Nat} {l:List Int} (h:jS w W g A n c k v hs) (hl:1<=hs.length/\hs.length<=7) (hr:jP W' B d l) (hc:lG W' g A n c k') (hb:Below w.heap.size w W') (ht:Tr (·=g) W W')
 (ho:Kd.R (Kd.int .i64) 3 W' W.heap.size (fun _=>True) (.slice B l.length d) l):Dc w W' g A n c k' v hs (.slice B l.length d) l:=by
 refine ⟨⟨Ei h.own h.cur ht,h.rows.keep (KI.cur ht h.cur),hc,hb⟩,⟨Kd.gG ho h.dN.size,by have:=hr.le;omega,fun x hx b hb2 e=>?_⟩,hl.1,by have:=hl.2;omega⟩
 obtain ⟨bs,hown,hge⟩:=BO ho
 obtain ⟨l2,_,hr2⟩:=h.rows x hx
 obtain ⟨b2,cs,e2,hb3⟩:=hr2.blk
 rw [hb2] at e2
 have e3:b=b2:=by injection (Option.some.inj e2)
 have h1:=aY hb3
 rcases hown with ⟨e4,_⟩|⟨g2,cap,cur,kO,e4,hg2,_,_,_,e5,_⟩
 ·have:=hr.ne;rw [e4] at this;simp at this
 ·injection e4 with e4
  rw [e4] at e
  have e6:g2=b:=by have:=e;simp [Value.ownBlock] at this;omega
  have:=(hge g2 (by rw [e5];exact List.mem_cons_self)).2
  omega
theorem ZK {w W W':World} {g:Nat} {A:Option Addr} {n c k:Nat} {v:Value} {hs:List fj} {vb:Value} {l:List Int} (h:jS w W g A n c k v hs) (ho:Kd.R (Kd.int .i64) 3 W' W.heap.size (fun _=>True) vb l):∀x,x∈hs->∀b,x.1=some ⟨b,0,none⟩->vb.ownBlock≠some b:=fun x hx b hb2 e=>by
 obtain ⟨l2,_,hr2⟩:=h.rows x hx
 obtain ⟨b2,cs,e2,hb3⟩:=hr2.blk
 rw [hb2] at e2
 have e3:b=b2:=by injection (Option.some.inj e2)
 have h1:=aY hb3
 obtain ⟨bs,hown,hge⟩:=BO ho
 rcases hown with ⟨_,e4,_⟩|⟨g2,cap,cur,kO,e4,hg2,_,_,_,e5,_⟩
 ·injection e4 with e4
  rw [e4] at e;simp [Value.ownBlock] at e
 ·injection e4 with e4
  rw [e4] at e
  have e6:g2=b:=by have:=e;simp [Value.ownBlock] at this;omega
  have:=(hge g2 (by rw [e5];exact List.mem_cons_self)).2
  omega
theorem Rg {w W W':World} {g:Nat} {A:Option Addr} {n c k:Nat} {v:Value} {hs:List fj} {vb vb':Value} {l l':List Int} (h:Dc w W g A n c k v hs vb l) (hb:Below W.heap.size W W') (ho:Kd.R (Kd.int .i64) 3 W' W.heap.size (fun _=>True) vb' l') (hl:l'.length<=8):Dc w W' g A n c k v hs vb' l':=
 ⟨pW h.dR hb,⟨Kd.gG ho h.dR.dN.size,hl,ZK h.dR ho⟩,h.ne,h.le⟩
def vC (W:World) (rows:List (List Int)):World:=rows.foldl (fun V r=>V.alloc (.cells (r.map (Value.int .i64)).toArray 3)) W
def oG (b:Nat):List (List Int)->List fj
 | []=>[]
 |r::rs=>(some ⟨b,0,none⟩,r.length,r.length)::oG (b+1) rs
theorem Rh:∀(rows:List (List Int)) (W:World),(∀r,r∈rows->1<=r.length/\r.length<=6/\∀x,x∈r->0<=x/\x<6)->jR (vC W rows) (oG W.heap.size rows)/\(vC W rows).heap.size=W.heap.size+rows.length/\Below W.heap.size W (vC W rows)
 | [],W,_=>⟨jR.nil _,rfl,Below.refl _ _⟩
 |r::rs,W,h=>by
  have hr:=h r List.mem_cons_self
  obtain ⟨h1,h2,h3⟩:=Rh rs (W.alloc (.cells (r.map (Value.int .i64)).toArray 3)) (fun x hx=>h x (List.mem_cons_of_mem _ hx))
  have hB:=ai (aK (Below.refl W.heap.size W) (.cells (r.map (Value.int .i64)).toArray 3)) h3
  have hw:vC W (r::rs)=vC (W.alloc (.cells (r.map (Value.int .i64)).toArray 3)) rs:=rfl
  rw [hw]
  rw [kL] at h1 h2
  refine ⟨fun x hx=>?_,by rw [h2,List.length_cons];omega,hB⟩
  rcases List.mem_cons.1 hx with hx|hx
  ·rw [hx];exact ⟨r,rfl,(LJ (bW W _) hr.1 hr.2.1 hr.2.2).keep (KI.below h3)⟩
  ·exact h1 x hx
theorem Bf:∀(rows:List (List Int)) (b:Nat),(oG b rows).length=rows.length
 | [],_=>rfl
 |_::rs,b=>by simp only [oG,List.length_cons,Bf rs]
theorem b2n {w W:World} (rows:List (List Int)) (hb:w.heap.size<=W.heap.size) (hl:rows.length<=1000) (h:∀r,r∈rows->1<=r.length/\r.length<=6/\∀x,x∈r->0<=x/\x<6):
 oK w ((vC W rows).alloc (.cells ((oG W.heap.size rows).map jQ).toArray 22)) (.slice (some ⟨W.heap.size+rows.length,0,none⟩) rows.length rows.length) (oG W.heap.size rows)/\jR ((vC W rows).alloc (.cells ((oG W.heap.size rows).map jQ).toArray 22)) (oG W.heap.size rows)/\Below W.heap.size W ((vC W rows).alloc (.cells ((oG W.heap.size rows).map jQ).toArray 22)):=by
 obtain ⟨h1,h2,h3⟩:=Rh rows W h
 have qM:=Bf rows W.heap.size
 have hk:=NT (w:=w) (W:=(vC W rows).alloc (.cells ((oG W.heap.size rows).map jQ).toArray 22)) (hs:=oG W.heap.size rows) (e:=(vC W rows).heap.size) (c:=rows.length) (bW _ _) (by omega) (by unfold maxLen;omega) (by simp [qM]) (by rw [h2];omega) (fun i hi=>by rw [List.getElem?_toArray,List.getElem?_map,List.getElem?_eq_getElem hi];rfl)
 rw [qM,h2] at hk
 exact ⟨hk,h1.keep (KI.alloc _ _),aK h3 _⟩
theorem a5m {w W:World} {E:Option Addr} {d:Nat} {hs:List fj} (h:oK w W (.slice E hs.length d) hs):hs.length<=d/\Kd.C kH W E hs.length hs:=by
 obtain ⟨bs,ho,_⟩:=zW h
 obtain ⟨A',c',e,hl,hC⟩:=Da.rd ho
 injection e with e;injection e with e1 e2 e3
 subst e1;subst e3
 exact ⟨hl,hC⟩
theorem Ri (W:World) (l:List Int) (hl:l.length<=1000):Kd.R (Kd.int .i64) 3 (W.alloc (.cells (l.map (Value.int .i64)).toArray 3)) W.heap.size (fun _=>True) (.slice (some ⟨W.heap.size,0,none⟩) l.length l.length) l:=by
 have hsz:Ow.int.kd.sz=1:=rfl
 refine WE (bs:=[W.heap.size]) (.inr ⟨W.heap.size,l.length,_,List.replicate l.length [],rfl,bW W _,Nat.le_refl _,by unfold maxLen;omega,by rw [hsz,Nat.mul_one];simp,by simp,by simp,by simp,fun j h h'=>⟨?_,by simp⟩⟩) (fun b h=>⟨trivial,by rw [List.mem_singleton.1 h];exact Nat.le_refl _⟩)
 unfold Ow.seg
 rw [hsz,Nat.mul_one]
 refine List.ext_getElem? (fun i=>?_)
 rw [List.getElem?_take,List.getElem?_drop]
 rcases i with _|i
 ·rw [if_pos (by omega),Nat.add_zero,List.getElem?_map,List.getElem?_eq_getElem h];rfl
 ·rw [if_neg (by omega)];simp
theorem TV:∀(rows:List (List Int)) (b:Nat) (x:fj),x∈oG b rows->∃q,b<=q/\x.1=some ⟨q,0,none⟩
 | [],_,x,h=>by cases h
 |r::rs,b,x,h=>by
  rcases List.mem_cons.1 h with h|h
  ·rw [h];exact ⟨b,Nat.le_refl _,rfl⟩
  ·obtain ⟨q,h1,h2⟩:=TV rs (b+1) x h
   exact ⟨q,by omega,h2⟩
theorem ZL {w W:World} {g:Nat} {A:Option Addr} {n c k:Nat} {v:Value} {hs:List fj} {vb:Value} {l:List Int} (h:Dc w W g A n c k v hs vb l) (lb:List Int) (rows:List (List Int)) (hlb:lb.length<=8) (h1:1<=rows.length) (h8:rows.length<=8) (hr:∀r,r∈rows->1<=r.length/\r.length<=6/\∀x,x∈r->0<=x/\x<6):
 Dc w ((vC (W.alloc (.cells (lb.map (Value.int .i64)).toArray 3)) rows).alloc (.cells ((oG (W.heap.size+1) rows).map jQ).toArray 22)) g A n c k (.slice (some ⟨W.heap.size+1+rows.length,0,none⟩) rows.length rows.length) (oG (W.heap.size+1) rows) (.slice (some ⟨W.heap.size,0,none⟩) lb.length lb.length) lb:=by
 obtain ⟨p1,p2,p3⟩:=b2n (w:=w) (W:=W.alloc (.cells (lb.map (Value.int .i64)).toArray 3)) rows (by rw [kL];have:=h.dR.dN.size;omega) (by omega) hr
 rw [kL] at p1 p2
 have hB:Below W.heap.size W ((vC (W.alloc (.cells (lb.map (Value.int .i64)).toArray 3)) rows).alloc (.cells ((oG (W.alloc (.cells (lb.map (Value.int .i64)).toArray 3)).heap.size rows).map jQ).toArray 22)):=ai (aK (Below.refl _ _) _) p3
 rw [kL] at hB p3
 refine ⟨⟨p1,p2,h.dR.cur.keep (hB.block g h.dR.cur.lt),ai h.dR.dN hB⟩,⟨pX (Kd.gG (Ri W lb (by omega)) h.dR.dN.size) (KI.below (by rw [kL];exact p3)),hlb,fun x hx b hb e=>?_⟩,by rw [Bf];exact h1,by rw [Bf];exact h8⟩
 obtain ⟨q,hq,hx2⟩:=TV rows (W.heap.size+1) x hx
 rw [hx2] at hb
 have e1:q=b:=by injection (Option.some.inj hb)
 have e2:W.heap.size=b:=by have:=e;simp [Value.ownBlock] at this;omega
 omega
theorem Dc.up {w W:World} {g:Nat} {A:Option Addr} {n c k k':Nat} {v:Value} {hs:List fj} {vb:Value} {l:List Int} (h:Dc w W g A n c k v hs vb l) (hk:k<=k'):Dc w W g A n c k' v hs vb l:=⟨uZ h.dR hk,h.aj,h.ne,h.le⟩
theorem TW {w W:World} (h:fj) (hb:w.heap.size<=W.heap.size):oK w (W.alloc (.cells #[jQ h] 22)) (.slice (some ⟨W.heap.size,0,none⟩) 1 1) [h]:=
 NT (hs:=[h]) (bW W _) (Nat.le_refl _) (by unfold maxLen;omega) rfl hb (fun i hi=>by
  have:i=0:=by simp at hi;exact hi
  subst this;rfl)
theorem a2K {w W W':World} {g:Nat} {A:Option Addr} {n c k:Nat} {v ve:Value} {hs:List fj} {vb:Value} {l:List Int} {B:Option Addr} {d:Nat} {r:List Int} (h:Dc w W g A n c k v hs vb l) (hr:jP W B d r) (hap:∀b,B=some ⟨b,0,none⟩->vb.ownBlock≠some b) (hl:hs.length+1<=8)
 (ho:oK w W' ve ([(B,r.length,d)]++hs)) (hb:Below w.heap.size w W') (hg:(W.alloc (.cells #[jQ (B,r.length,d)] 22)).grownBy W' (some W.heap.size)):Dc w W' g A n c k ve ([(B,r.length,d)]++hs) vb l:=by
 have he:=TW (w:=w) (W:=W) (B,r.length,d) h.dR.dN.size
 have k1:=KI.alloc W (.cells #[jQ (B,r.length,d)] 22)
 have k2:KI (W.alloc (.cells #[jQ (B,r.length,d)] 22)) W':=KI.grown (v:= .slice (some ⟨W.heap.size,0,none⟩) 1 1) hg he
 have kk:=k1.tS k2
 refine ⟨⟨ho,fun x hx=>?_,Db (v:= .slice (some ⟨W.heap.size,0,none⟩) 1 1) (h.dR.cur.alloc _) he hg,hb⟩,⟨pX h.aj.own kk,h.aj.len,fun x hx b hb2=>?_⟩,by simp,by rw [List.length_append];simp;omega⟩
 ·rcases List.mem_append.1 hx with hx|hx
  ·rw [List.mem_singleton.1 hx];exact ⟨r,rfl,hr.keep kk⟩
  ·exact h.dR.rows.keep kk x hx
 ·rcases List.mem_append.1 hx with hx|hx
  ·rw [List.mem_singleton.1 hx] at hb2;exact hap b hb2
  ·exact h.aj.apart x hx b hb2
theorem b2o {w W W':World} {g:Nat} {A:Option Addr} {n c k:Nat} {v ve:Value} {hs:List fj} {vb:Value} {l:List Int} {r:List Int} {m:Nat} (h:Dc w W g A n c k v hs vb l) (hm:r.length=m) (h1:1<=r.length) (h6:r.length<=6) (hx:∀x,x∈r->0<=x/\x<6) (hl:hs.length+1<=8)
 (ho:oK w W' ve (hs++[(some ⟨W.heap.size,0,none⟩,m,m)])) (hb:Below w.heap.size w W') (hg:(W.alloc (.cells (r.map (Value.int .i64)).toArray 3)).grownBy W' v.ownBlock):Dc w W' g A n c k ve (hs++[(some ⟨W.heap.size,0,none⟩,m,m)]) vb l:=by
 have kk:=(KI.alloc W (.cells (r.map (Value.int .i64)).toArray 3)).tS (KI.grown hg (Kd.cF h.dR.own _))
 refine ⟨zX h.dR hm h1 h6 hx ho hb hg,⟨pX h.aj.own kk,h.aj.len,fun x hx2 b hb2 e=>?_⟩,by rw [List.length_append];simp,by rw [List.length_append];simp;omega⟩
 rcases List.mem_append.1 hx2 with hx2|hx2
 ·exact h.aj.apart x hx2 b hb2 e
 ·rw [List.mem_singleton.1 hx2] at hb2
  have e1:W.heap.size=b:=by injection (Option.some.inj hb2)
  obtain ⟨bs,wG,_⟩:=zY h.aj.own
  rcases wG with ⟨_,e4,_⟩|⟨g2,cap,cur,kO,e4,hg2,_⟩
  ·injection e4 with e4;rw [e4] at e;simp [Value.ownBlock] at e
  ·injection e4 with e4
   rw [e4] at e
   have e6:g2=b:=by have:=e;simp [Value.ownBlock] at this;omega
   have:=aY hg2
   omega
theorem ZM {w W W':World} {vb:Value} {l:List Int} {hs:List fj} {B:Option Addr} {d:Nat} {r:List Int} (h:Bg w W vb l hs) (hr:1<=r.length) (ho:Kd.R (Kd.int .i64) 3 W' W.heap.size (fun _=>True) (.slice B r.length d) r):∀b,B=some ⟨b,0,none⟩->vb.ownBlock≠some b:=fun b hb e=>by
 obtain ⟨bs,wG,_⟩:=zY h.own
 obtain ⟨bs3,rS,hge⟩:=BO ho
 rcases wG with ⟨_,e4,_⟩|⟨g2,cap,cur,kO,e4,hg2,_⟩
 ·injection e4 with e4;rw [e4] at e;simp [Value.ownBlock] at e
 ·injection e4 with e4
  rw [e4] at e
  have e6:g2=b:=by have:=e;simp [Value.ownBlock] at this;omega
  have:=aY hg2
  rcases rS with ⟨e7,_⟩|⟨g3,cap3,cur3,bss3,e7,hg3,_,_,_,e8,_⟩
  ·rw [e7] at hr;simp at hr
  ·injection e7 with e7;injection e7 with e9
   rw [hb] at e9
   have e10:b=g3:=by injection (Option.some.inj e9)
   have:=(hge g3 (by rw [e8];exact List.mem_cons_self)).2
   omega
def Df (w W:World) (e:Ending):Prop:=∃A0 c0 aj A1 c1 af,e= .returned (.tuple #[.slice A0 (aj:List Int).length c0,.slice A1 (af:List (List Int)).length c1])/\oY W aj A0 c0/\lX W af A1 c1/\aj.length<=1000/\af.length<=1000/\(∀x,x∈af->x.length<=1000)/\Below w.heap.size w W
theorem zZ {w W:World} {B:Option Addr} {d8:Nat} {l:List Int} {E:Option Addr} {d m:Nat} (hb:oY W l B d8) (hl:l.length<=1000) (he:∃af:List (List Int),af.length=m/\(∀x,x∈af->x.length<=100)/\lX W af E d) (hm:m<=1000) (hB:Below w.heap.size w W):Df w W (.returned (.tuple #[.slice B l.length d8,.slice E m d])):=by
 obtain ⟨af,h1,h2,h3⟩:=he
 subst h1
 exact ⟨B,d8,l,E,d,af,rfl,hb,h3,hl,hm,fun x hx=>by have:=h2 x hx;omega,hB⟩
theorem vk {w W:World} {B:Option Addr} {d:Nat} {l:List Int} (h:Kd.R (Kd.int .i64) 3 W w.heap.size (fun _=>True) (.slice B l.length d) l):oY W l B d:=by
 obtain ⟨bs,ho,_⟩:=zY h
 exact oI.rd ho
theorem Bh {w W:World} {E:Option Addr} {d:Nat} {hs:List fj} (h:oK w W (.slice E hs.length d) hs) (h1:1<=hs.length) (hm:hs.length<=1000) (hr:NU W hs):∃af:List (List Int),af.length=hs.length/\(∀x,x∈af->x.length<=100)/\lX W af E d:=by
 obtain ⟨e,c,cur,e1,h2,h3,h4,h5,h6,h7⟩:=vY h h1
 injection e1 with e1 _ e3
 subst e1;subst e3
 exact LL h3 hm (fun j hj=>by rw [add_plain,ag h2];exact h7 j hj) hr
theorem Aa {w W:World} {g:Nat} {A:Option Addr} {n c k:Nat} {E:Option Addr} {d:Nat} {hs:List fj} {B:Option Addr} {d8:Nat} {l:List Int} (h:Dc w W g A n c k (.slice E hs.length d) hs (.slice B l.length d8) l):Df w W (.returned (.tuple #[.slice B l.length d8,.slice E hs.length d])):=
 zZ (vk h.aj.own) (by have:=h.aj.len;omega) (Bh h.dR.own h.ne (by have:=h.le;omega) h.dR.rows.weak) (by have:=h.le;omega) h.dR.dN
theorem NV {w W:World} {g:Nat} {A:Option Addr} {n c k:Nat} {E:Option Addr} {d:Nat} {hs:List fj} {vb:Value} {l:List Int} (h:Dc w W g A n c k (.slice E hs.length d) hs vb l) {j:Nat} (hj:j<hs.length):
 ∃(e:Nat) (B:Option Addr) (c1:Nat) (r:List Int),E=some ⟨e,0,none⟩/\W.cell? ⟨e,j,none⟩=some (.slice B r.length c1)/\W.frozen? ⟨e,j,none⟩=false/\jP W B c1 r/\∀b,B=some ⟨b,0,none⟩->vb.ownBlock≠some b:=by
 obtain ⟨e,c0,cur,h1,h2,h3,h4,h5,h6,h7⟩:=vY h.dR.own (by omega)
 obtain ⟨r,hl,hr⟩:=h.dR.rows hs[j] (List.getElem_mem hj)
 injection h1 with h1 _ _
 refine ⟨e,hs[j].1,hs[j].2.2,r,h1,?_,aa h2 j,hr,fun b hb=>h.aj.apart _ (List.getElem_mem hj) b hb⟩
 rw [ag h2,h7 j hj,<-hl];rfl
theorem b2p {w W W':World} {g:Nat} {A:Option Addr} {n c k:Nat} {v ve:Value} {hs:List fj} {vb:Value} {l:List Int} {B:Option Addr} {d:Nat} {r:List Int} (h:Dc w W g A n c k v hs vb l) (hr:jP W B d r) (hap:∀b,B=some ⟨b,0,none⟩->vb.ownBlock≠some b) (hl:hs.length+1<=8)
 (ho:oK w W' ve (hs++[(B,r.length,d)])) (hb:Below w.heap.size w W') (hg:W.grownBy W' v.ownBlock):Dc w W' g A n c k ve (hs++[(B,r.length,d)]) vb l:=by
 refine ⟨TT h.dR hr ho hb hg,⟨pX h.aj.own (KI.grown hg h.dR.own),h.aj.len,fun x hx b hb2=>?_⟩,by rw [List.length_append];simp,by rw [List.length_append];simp;omega⟩
 rcases List.mem_append.1 hx with hx|hx
 ·exact h.aj.apart x hx b hb2
 ·rw [List.mem_singleton.1 hx] at hb2;exact hap b hb2
def lenOf (v:Value):Nat:=match v with| .slice _ n _=>n|_=>0
theorem ZN {w W:World} {v:Value} {hs:List fj} (h:oK w W v hs):lenOf v=hs.length:=by
 obtain ⟨E,d,e⟩:=Kd.cX h
 subst e;rfl
theorem b2q {W:World} {n:Nat} {vb:Value} {l:List Int} (h:Kd.R (Kd.int .i64) 3 W n (fun _=>True) vb l) {b:Nat} (e:vb.ownBlock=some b):b<W.heap.size:=by
 obtain ⟨inner,hin⟩:=Kd.Gz h
 exact Gx hin b e
theorem a7A {W:World} {vb:Value} {l:List Int} {bs:List Nat} (h:yM.own W l [vb] bs):∀b,b∈bs->vb.ownBlock=some b:=by
 rcases h with ⟨_,_,e⟩|⟨g,cap,cur,kO,e1,hg,_,_,_,e,_,hbl,hj⟩
 ·intro b hb;rw [e] at hb;cases hb
 ·intro b hb
  injection e1 with e1
  rw [e] at hb
  rcases List.mem_cons.1 hb with hb|hb
  ·rw [hb,e1];rfl
  ·obtain ⟨x,hx,kD⟩:=List.mem_flatten.1 hb
   obtain ⟨j,hlt,rfl⟩:=List.getElem_of_mem hx
   have:=(hj j (by omega) hlt).2
   rw [this] at kD;cases kD
theorem a2L {w W W':World} {vb:Value} {l:List Int} (h:Kd.R (Kd.int .i64) 3 W w.heap.size (fun _=>True) vb l) (k:∀b,vb.ownBlock=some b->W'.heap[b]? =W.heap[b]?):Kd.R (Kd.int .i64) 3 W' w.heap.size (fun _=>True) vb l:=by
 obtain ⟨bs,ho,hb⟩:=zY h
 exact ZI (yM.move ho (fun b qL=>k b (a7A ho b qL))) hb
theorem jP.a5n {W W':World} {A:Option Addr} {c:Nat} {l:List Int} (h:jP W A c l) (k:∀b,A=some ⟨b,0,none⟩->W'.heap[b]? =W.heap[b]?):jP W' A c l:=by
 obtain ⟨b,cs,e,hb⟩:=h.blk
 have hb':=(k b e).trans hb
 refine ⟨h.ne,h.le,h.mem,⟨h.rd.1,h.rd.2.1,h.rd.2.2.1,fun h0=>?_⟩,b,cs,e,hb'⟩
 obtain ⟨ad,e1,hr⟩:=h.rd.2.2.2 h0
 refine ⟨ad,e1,fun j p hp=>?_⟩
 obtain ⟨q,h1,h2,h3⟩:=hr j p hp
 refine ⟨q,h1,h2,fun i u hu=>?_⟩
 have e2:ad=⟨b,0,none⟩:=by rw [e] at e1;exact (Option.some.inj e1).symm
 have h4:=h3 i u hu
 rw [e2,add_plain] at h4⊢
 rw [ag hb] at h4
 rw [ag hb'];exact h4
theorem TX {w W W':World} {v:Value} {hs:List fj} (h:oK w W v hs) (h1:1<=hs.length) (k:∀b cs,v.ownBlock=some b->W.heap[b]? =some (.cells cs 22 (0,0))->W'.heap[b]? =W.heap[b]?):oK w W' v hs:=by
 obtain ⟨e,c,cur,e1,h2,h3,h4,h5,h6,h7⟩:=vY h h1
 subst e1
 exact NT ((k e cur rfl h2).trans h2) h3 h4 h5 h6 h7
theorem b2r {w W W':World} {g:Nat} {A:Option Addr} {n c k:Nat} {E:Option Addr} {d:Nat} {hs:List fj} {vb ve:Value} {l lb:List Int} (h:Dc w W g A n c k (.slice E hs.length d) hs vb l) (ho:Kd.R (Kd.int .i64) 3 W' w.heap.size (fun _=>True) ve lb) (hl:lb.length<=1000) (hb:Below w.heap.size w W') (hg:W.grownBy W' vb.ownBlock):
 ∃(B:Option Addr) (m d8:Nat),ve= .slice B m d8/\Df w W' (.returned (.tuple #[.slice B m d8,.slice E hs.length d])):=by
 obtain ⟨B,d8,e⟩:=Kd.cX ho
 subst e
 refine ⟨B,lb.length,d8,rfl,zZ (vk ho) hl (Bh (TX h.dR.own h.ne (fun b cs e1 hb1=>hg.block b (aY hb1) (Kd.BG h.aj.own hb1 (by decide)))) h.ne (by have:=h.le;omega) (jR.weak (fun x hx=>?_))) (by have:=h.le;omega) hb⟩
 obtain ⟨r,h1,h2⟩:=h.dR.rows x hx
 refine ⟨r,h1,h2.a5n (fun b e1=>?_)⟩
 obtain ⟨b2,cs,e2,hb2⟩:=h2.blk
 rw [e1] at e2
 have e3:b=b2:=by injection (Option.some.inj e2)
 subst e3
 exact hg.block b (aY hb2) (fun e4=>h.aj.apart x hx b e1 e4.symm)
theorem TY {w W:World} {g:Nat} {A:Option Addr} {n c k e d:Nat} {hs:List fj} {B:Option Addr} {d8:Nat} {l:List Int} {B':Option Addr} {m c':Nat} {r:List Int} (h:Dc w W g A n c k (.slice (some ⟨e,0,none⟩) hs.length d) hs (.slice B l.length d8) l) (hm:r.length=m) (hr:r.length<=100) (hR:Kd.R (Kd.int .i64) 3 W w.heap.size (fun _=>True) (.slice B' m c') r):
 Df w (W.setCell ⟨e,0,none⟩ (.slice B' m c')) (.returned (.tuple #[.slice B l.length d8,.slice (some ⟨e,0,none⟩) hs.length d])):=by
 subst hm
 obtain ⟨e',c0,cur,h1,h2,h3,h4,h5,h6,h7⟩:=vY h.dR.own h.ne
 injection h1 with h1 _ h1c
 have e1:e=e':=by injection (Option.some.inj h1)
 subst e1;subst h1c
 have ki:KI W (W.setCell ⟨e,0,none⟩ (.slice B' r.length c')):=KI.set h2 (by decide)
 have hp:=ZF (w:=w) (x:=(B',r.length,c')) h2 h3 h4 h5 h6 h7 h.ne
 have qM:(hs.set 0 (B',r.length,c')).length=hs.length:=List.length_set
 have hf:=Bh (w:=w) (W:=W.setCell ⟨e,0,none⟩ (.slice B' r.length c')) (E:=some ⟨e,0,none⟩) (d:=d) (hs:=hs.set 0 (B',r.length,c')) (by rw [qM];exact hp) (by rw [qM];exact h.ne) (by rw [qM];have:=h.le;omega) (fun x hx=>by
  rcases List.mem_or_eq_of_mem_set hx with hx|hx
  ·exact (h.dR.rows.keep ki).weak x hx
  ·rw [hx];exact ⟨r,rfl,hr,vk (pX hR ki)⟩)
 rw [qM] at hf
 exact zZ (vk (pX h.aj.own ki)) (by have:=h.aj.len;omega) hf (by have:=h.le;omega) (br h.dR.dN h6)
theorem a7B {w W:World} {g:Nat} {A:Option Addr} {n c k e d p:Nat} {hs:List fj} {B:Option Addr} {d8:Nat} {l:List Int} (h:Dc w W g A n c k (.slice (some ⟨e,0,none⟩) hs.length d) hs (.slice B l.length d8) l) (hp:hs.length=p+1):
 Df w W (.returned (.tuple #[.slice B l.length d8,.slice (some ⟨e,1,none⟩) p (d - 1)])):=by
 obtain ⟨e',c0,cur,h1,h2,h3,h4,h5,h6,h7⟩:=vY h.dR.own h.ne
 injection h1 with h1 _ h1c
 have e1:e=e':=by injection (Option.some.inj h1)
 subst e1;subst h1c
 have hl:(hs.drop 1).length=p:=by rw [List.length_drop];omega
 have hf:=LL (W:=W) (hs:=hs.drop 1) (E:=⟨e,1,none⟩) (d:=d - 1) (by omega) (by have:=h.le;omega) (fun j hj=>by
  have e2:(⟨e,1,none⟩:Addr).add j=⟨e,j+1,none⟩:=by unfold Addr.add;split<;>simp_all [Nat.add_comm]
  rw [e2,ag h2,h7 (j+1) (by omega),List.getElem_drop]
  congr 2
  congr 1
  omega) (fun x hx=>h.dR.rows.weak x (List.mem_of_mem_drop hx))
 rw [hl] at hf
 exact zZ (vk h.aj.own) (by have:=h.aj.len;omega) hf (by have:=h.le;omega) h.dR.dN
theorem Dc.under {w V W W':World} {g:Nat} {A:Option Addr} {n c k k':Nat} {v:Value} {hs:List fj} {vb:Value} {l:List Int} (h0:Dc w V g A n c k' v hs vb l) (h:Dc w W g A n c k v hs vb l) (hb:Below V.heap.size W W'):Dc w W' g A n c k v hs vb l:=by
 obtain ⟨e0,c0,cur0,f1,f2,_⟩:=vY h0.dR.own h0.ne
 refine ⟨⟨TX h.dR.own h.ne (fun b cs e1 _=>hb.block b ?_),fun x hx=>?_,h.dR.cur.keep (hb.block g h0.dR.cur.lt),h.dR.dN.trans (hb.mono h0.dR.dN.size)⟩,⟨a2L h.aj.own (fun b e1=>hb.block b (b2q h0.aj.own e1)),h.aj.len,h.aj.apart⟩,h.ne,h.le⟩
 ·rw [f1] at e1
  have e2:e0=b:=by have:=e1;simp [Value.ownBlock] at this;omega
  rw [<-e2];exact aY f2
 ·obtain ⟨r,h1,h2⟩:=h.dR.rows x hx
  obtain ⟨r0,_,h3⟩:=h0.dR.rows x hx
  refine ⟨r,h1,h2.a5n (fun b e1=>hb.block b ?_)⟩
  obtain ⟨b2,cs,e2,hb2⟩:=h3.blk
  rw [e1] at e2
  have e3:b=b2:=by injection (Option.some.inj e2)
  subst e3
  exact aY hb2
theorem Rj {w W W':World} {g:Nat} {A:Option Addr} {n c k:Nat} {E:Option Addr} {d:Nat} {hs:List fj} {vb ve:Value} {l lb:List Int} (h:Dc w W g A n c k (.slice E hs.length d) hs vb l) (ho:Kd.R (Kd.int .i64) 3 W' W.heap.size (fun _=>True) ve lb) (hl:lb.length<=1000) (hb:Below W.heap.size W W'):
 ∃(B:Option Addr) (m d8:Nat),ve= .slice B m d8/\Df w W' (.returned (.tuple #[.slice B m d8,.slice E hs.length d])):=by
 obtain ⟨B,d8,e⟩:=Kd.cX ho
 subst e
 have h2:=pW h.dR hb
 exact ⟨B,lb.length,d8,rfl,zZ (vk (Kd.gG ho h.dR.dN.size)) hl (Bh h2.own h.ne (by have:=h.le;omega) h2.rows.weak) (by have:=h.le;omega) h2.dN⟩
theorem a2M {w W:World} {g:Nat} {A:Option Addr} {n c k e p:Nat} {hs:List fj} {B:Option Addr} {d8:Nat} {l:List Int} (h:Dc w W g A n c k (.slice (some ⟨e,0,none⟩) hs.length 1) hs (.slice B l.length d8) l) (hp:hs.length=p+1):
 Df w W (.returned (.tuple #[.slice B l.length d8,.slice (some ⟨e,0,none⟩) p 0])):=by
 obtain ⟨e',c0,cur,h1,h2,h3,_⟩:=vY h.dR.own h.ne
 injection h1 with h1 _ h1c
 subst h1c
 have h0:p=0:=by omega
 subst h0
 exact zZ (vk h.aj.own) (by have:=h.aj.len;omega) (LL (hs:=[]) (E:=⟨e,0,none⟩) (d:=0) (Nat.le_refl _) (by decide) (fun j hj=>absurd hj (Nat.not_lt_zero j)) (fun x hx=>by cases hx)) (by omega) h.dR.dN
def a7C (w W:World) (g:Nat) (A:Option Addr) (n c k:Nat) (e:Ending) (w':World):Prop:=∃(K:Nat) (v:Value) (hs:List fj),e= .returned (.tuple #[.int .i64 (K:Int),v])/\2<=K/\K<=5/\jS w w' g A n c k v hs/\1<=hs.length/\hs.length<=7
set_option maxHeartbeats 4000000 in
set_option maxRecDepth 100000 in
theorem Gu {w W:World} {g:Nat} {A:Option Addr} {n c k0:Nat} (hr:Zz w g A n c) (hk:k0<=100000) (hB:Below w.heap.size w W) (hC:lG W g A n c k0):
 Calls Try.prog 41 #[.pointer (some ⟨g,0,none⟩)] W (a7C w W g A n c (k0+1000)):=by
 have HR:=Aside0.mk hr
 have HB:=Aside0.mk hB
 have HC:=Aside0.mk hC
 have HY:Aside0 (∀(V:World) (q:Nat) (m:Int),m<=256->q<=1000000->Below w.heap.size w V->lG V g A n c q->Calls Try.prog 43 #[.pointer (some ⟨g,0,none⟩),.int .i64 m] V (zV w V g A n c (q+1) (fun x=>0<=x/\(x<m∨x=0)))):=⟨fun V q m h1 h2 h3 h4=>kg m h1 hr h2 h3 h4⟩
 have HZ:Aside0 (∀(V:World) (q:Nat) (k:Nat),1<=k->k<=6->q<=900000->Below w.heap.size w V->lG V g A n c q->Calls Try.prog 42 #[.pointer (some ⟨g,0,none⟩),.int .i64 (k:Int),.int .i64 3] V (LI w V g A n c (q+300))):=⟨fun V q k h1 h2 h3 h4 h5=>xy k 3 h1 h2 (by decide) hr h3 h4 h5⟩
 have HK:=Aside0.mk hk
 clear hB hC hr hk
 go_enter Try.func41,Try.ntmps41
 go_upto_if 22 with (first|(go_at_call 43;((with_reducible refine (HY.out _ k0 4 (by decide) (by have:=HK.out;omega) HB.out HC.out).mono ?_);rintro e w1 ⟨x,rfl,uX,fJ,fA,fq⟩;have HX:=Aside0.mk uX;have iJ:=Aside0.mk (fJ.alloc (.cells #[] 22));have dG:=Aside0.mk (aK fA (.cells #[] 22));have Mn:=Aside0.mk (a2G w w1 fA.size);clear uX fJ fA fq))|(go_at_call 43;go_loud ((with_reducible refine (HY.out _ (k0+1) 3 (by decide) (by have:=HK.out;omega) dG.out iJ.out).mono ?_);rintro e w2 ⟨y,rfl,hy_,fJ,fA,fq⟩;have nN:=Aside0.mk fJ;have iw:=Aside0.mk fA;have kZ:=Aside0.mk (Ei Mn.out iJ.out fq);clear hy_ fJ fA fq)))
 obtain ⟨K,hKe,hK2,ZO⟩:∃K:Nat,wrap64 (2+x)=(K:Int)/\2<=K/\K<=5:=⟨(2+x).toNat,by rw [rN (by have:=HX.out;omega) (by have:=HX.out;omega)];have:=HX.out;omega,by have:=HX.out;omega,by have:=HX.out;omega⟩
 rw [hKe]
 have lz:=Aside0.mk (And.intro hK2 ZO)
 clear hKe hK2 ZO HX HC HB iJ dG Mn
 obtain ⟨b22,b2t⟩:∃b,(y==0)=b:=⟨_,rfl⟩
 rw [b2t]
 clear b2t
 go_cut [5,6,7,8] from 23 to 45 (fun v s6 s7 s8 wx=>∃hs:List fj,Aside0 (jS w wx g A n c (k0+2) v hs)/\Aside0 (hs.length<=5))
 case first=>
  have Sl:Aside0 (jS w w2 g A n c (k0+2) (.slice (some ⟨w1.heap.size,0,none⟩) 0 0) []):=⟨⟨kZ.out,jR.nil _,nN.out,iw.out⟩⟩
  clear kZ nN iw
  cases b22 with
  |true=>
   go_wp2
   go_loopw [6,5] (fun iv ev wr=>∃(i:Nat) (hs:List fj),iv= .int .i64 (i:Int)/\i<=K/\Aside0 (jS w wr g A n c (k0+2) ev hs)/\Aside0 (hs.length<=i)) (fun iv _ _=>K -(intOf iv).toNat)
   case atStart=>exact ⟨0,[],rfl,Nat.zero_le _,Sl,⟨Nat.le_refl _⟩⟩
   case round=>
    clear Sl
    obtain ⟨i,hs,rfl,hi,HE,HL⟩:=hrel
    by_cases hlt:i<K
    ·have gp:=Aside0.mk hlt
     have gd:decide ((i:Int)<(K:Int))=true:=decide_eq_true (by omega)
     have gn:decide (i<K)=true:=decide_eq_true hlt
     have hw:wrap64 ((i:Int)+1)=(i:Int)+1:=rN (by omega) (by have:=lz.out;omega)
     have fy:Aside0 (wrap64 ((i:Int)+1)=((i+1:Nat):Int)):=⟨eD (by have:=lz.out;omega)⟩
     have c5:¬(K:Int)=0:=by have:=lz.out;omega
     have c5b:((K:Int)==0)=false:=by simp;have:=lz.out;omega
     have c5n:¬K=0:=by have:=lz.out;omega
     by_cases Wf:i+1=K
     ·have b9h:((i:Int)+1).tmod (K:Int)=0:=by rw [<-Wf];exact Int.tmod_self
      have h1:decide ((i:Int)>0)=true:=decide_eq_true (by have:=lz.out;omega)
      have h1n:decide (0<i)=true:=decide_eq_true (by have:=lz.out;omega)
      have h2:((0:Int) !=(i:Int))=true:=by simp;have:=lz.out;omega
      have h2d:decide ((0:Int)=(i:Int))=false:=decide_eq_false (by have:=lz.out;omega)
      clear hlt hi Wf
      go_wp2_with (first|((with_reducible refine cK (b:= .append) (xs:= #[.tmp 40,.tmp 44]) rfl ?_);at_builtin;go_loud (refine Kd.fB kH (w0:=w) w.heap.size rfl _ _ 23 22 (.slice none 0 0) 24 rfl Try.underlying23 rZ rfl (by decide) (by omega) u5 hs (some ⟨wr.heap.size,0,none⟩,2,2) [jQ (some ⟨wr.heap.size,0,none⟩,2,2)] (fun _=>True) (fun _=>False) rfl (by first|rfl|(go_simp;done)|(go_simp;rfl)) rfl (fun _ hk=>hk.elim) (fun _ _=>trivial) (Kd.cF HE.out.own _) (aK HE.out.dN _) ((aK HE.out.dN _)).size (by have:=HL.out;have:=lz.out;have:=gp.out;omega) ?_;intro ve we ho hb hg hat;have kZ:Aside0 (jS w we g A n c (k0+2) ve (hs++[(some ⟨wr.heap.size,0,none⟩,2,2)])):=⟨zX HE.out (l:=[0,(i:Int)]) rfl (by simp) (by simp) (by intro z hz;simp at hz;have:=lz.out;have:=gp.out;omega) ho hb hg⟩;clear ho hb hg hat)))
      go_roundw
      case rel=>exact ⟨i+1,_,by first|(rw [fy.out];done)|rfl|(simp;done),gp.out,kZ,⟨by rw [List.length_append];have:=HL.out;simp;omega⟩⟩
      case measure=>(try rw [fy.out]);have:=gp.out;simp [intOf];omega
     ·have HLt2:Aside0 (i+1<K):=⟨by omega⟩
      have b9h:((i:Int)+1).tmod (K:Int)=(i:Int)+1:=Int.tmod_eq_of_lt (by omega) (by omega)
      have h1:decide ((i:Int)>(i:Int)+1)=false:=decide_eq_false (by omega)
      have h1n:decide ((i:Int)+1<(i:Int))=false:=decide_eq_false (by omega)
      have h2:((i:Int) !=(i:Int)+1)=true:=by simp;omega
      have h2d:decide ((i:Int)=(i:Int)+1)=false:=decide_eq_false (by omega)
      clear hlt hi Wf
      go_wp2_with (first|((with_reducible refine cK (b:= .append) (xs:= #[.tmp 40,.tmp 44]) rfl ?_);at_builtin;go_loud (refine Kd.fB kH (w0:=w) w.heap.size rfl _ _ 23 22 (.slice none 0 0) 24 rfl Try.underlying23 rZ rfl (by decide) (by omega) u5 hs (some ⟨wr.heap.size,0,none⟩,2,2) [jQ (some ⟨wr.heap.size,0,none⟩,2,2)] (fun _=>True) (fun _=>False) rfl (by first|rfl|(go_simp;done)|(go_simp;rfl)) rfl (fun _ hk=>hk.elim) (fun _ _=>trivial) (Kd.cF HE.out.own _) (aK HE.out.dN _) ((aK HE.out.dN _)).size (by have:=HL.out;have:=lz.out;have:=gp.out;omega) ?_;intro ve we ho hb hg hat;have kZ:Aside0 (jS w we g A n c (k0+2) ve (hs++[(some ⟨wr.heap.size,0,none⟩,2,2)])):=⟨zX HE.out (l:=[(i:Int),(i:Int)+1]) rfl (by simp) (by simp) (by intro z hz;simp at hz;have:=lz.out;have:=gp.out;omega) ho hb hg⟩;clear ho hb hg hat)))
      go_roundw
      case rel=>exact ⟨i+1,_,by first|(rw [fy.out];done)|rfl|(simp;done),gp.out,kZ,⟨by rw [List.length_append];have:=HL.out;simp;omega⟩⟩
      case measure=>(try rw [fy.out]);have:=gp.out;simp [intOf];omega
    ·have gd:decide ((i:Int)<(K:Int))=false:=decide_eq_false (by omega)
     have gn:decide (i<K)=false:=decide_eq_false hlt
     have HL5:Aside0 (hs.length<=5):=⟨by have:=HL.out;have:=lz.out;omega⟩
     clear hlt hi
     go_wp2
     go_meet
     case rel=>exact ⟨hs,HE,HL5⟩
  |false=>
   go_wp2
   go_meet
   case rel=>exact ⟨[],Sl,⟨Nat.zero_le _⟩⟩
 case rest=>
 obtain ⟨hs,HE,HL⟩:=hcut
 generalize wc=w3 at*
 clear kZ nN iw
 go_upto_block 2 with (first|(go_at_call 43;go_loud ((with_reducible refine (HY.out _ (k0+2) 3 (by decide) (by have:=HK.out;omega) HE.out.dN HE.out.cur).mono ?_);rintro e w4 ⟨z,rfl,uX,fJ,fA,fq⟩;have HX:=Aside0.mk uX;have HE4:Aside0 (jS w w4 g A n c (k0+3) u5 hs):=⟨⟨Ei HE.out.own HE.out.cur fq,HE.out.rows.keep (KI.cur fq HE.out.cur),fJ,fA⟩⟩;clear uX fJ fA fq)))
 obtain ⟨N,hNe,hN1,hN3⟩:∃N:Nat,wrap64 (1+z)=(N:Int)/\1<=N/\N<=3:=⟨(1+z).toNat,by rw [rN (by have:=HX.out;omega) (by have:=HX.out;omega)];have:=HX.out;omega,by have:=HX.out;omega,by have:=HX.out;omega⟩
 rw [hNe]
 have BC:=Aside0.mk (And.intro hN1 hN3)
 clear hNe hN1 hN3 HX HE
 go_cut [5,10] from 49 to 64 (fun v s10 wx=>∃hs:List fj,Aside0 (jS w wx g A n c (k0+903) v hs)/\Aside0 (1<=hs.length/\hs.length<=7))
 case first=>
  go_wp2_with fail
  go_loopw [10,5] (fun iv ev wr=>∃(i:Nat) (hs:List fj),iv= .int .i64 (i:Int)/\i<=N/\Aside0 (jS w wr g A n c (k0+3+300*i) ev hs)/\Aside0 (hs.length<=7/\(1<=i->1<=hs.length))) (fun iv _ _=>N -(intOf iv).toNat)
  case atStart=>exact ⟨0,hs,rfl,Nat.zero_le _,HE4,⟨by have:=HL.out;omega,fun h=>by omega⟩⟩
  case round=>
   clear HE4 HL
   obtain ⟨i,hs,rfl,hi,HE,HL⟩:=hrel
   obtain ⟨E5,d5,e5⟩:=Kd.cX HE.out.own
   subst e5
   by_cases h1:i<N
   ·have gp:=Aside0.mk h1
    have gd:decide ((i:Int)<(N:Int))=true:=decide_eq_true (by omega)
    have gn:decide (i<N)=true:=decide_eq_true h1
    have fy:Aside0 (wrap64 ((i:Int)+1)=((i+1:Nat):Int)):=⟨eD (by have:=BC.out;omega)⟩
    by_cases h2:hs.length<7
    ·have ZP:=Aside0.mk h2
     have ld:decide ((hs.length:Int)<7)=true:=decide_eq_true (by omega)
     have ln:decide (hs.length<7)=true:=decide_eq_true h2
     clear h1 h2 hi
     go_wp2_with (first|(go_at_call 42;go_loud ((with_reducible refine (HZ.out _ (k0+3+300*i) K (by have:=lz.out;omega) (by have:=lz.out;omega) (by have:=HK.out;have:=gp.out;have:=BC.out;omega) HE.out.dN HE.out.cur).mono ?_);rintro e w5 ⟨B,d,set,rfl,vZ,fJ,fA,fq,_⟩;have rH:=Aside0.mk vZ;have HE5:Aside0 (jS w w5 g A n c (k0+3+300*(i+1)) (.slice E5 hs.length d5) hs):=⟨⟨Ei HE.out.own HE.out.cur fq,HE.out.rows.keep (KI.cur fq HE.out.cur),fJ.up (by omega),fA⟩⟩;clear vZ fJ fA fq))|((with_reducible refine cK (b:= .append) (xs:= #[.tmp 59,.tmp 63]) rfl ?_);at_builtin;go_loud (refine Kd.fB kH (w0:=w) w.heap.size rfl _ _ 23 22 (.slice none 0 0) 24 rfl Try.underlying23 rZ rfl (by decide) (by omega) (.slice E5 hs.length d5) hs (B,set.length,d) [jQ (B,set.length,d)] (fun _=>True) (fun _=>False) rfl (by first|rfl|(go_simp;done)|(go_simp;rfl)) rfl (fun _ hk=>hk.elim) (fun _ _=>trivial) HE5.out.own HE5.out.dN (HE5.out.dN).size (by have:=ZP.out;omega) ?_;intro ve we ho hb hg hat;have HE6:Aside0 (jS w we g A n c (k0+3+300*(i+1)) ve (hs++[(B,set.length,d)])):=⟨TT HE5.out rH.out ho hb hg⟩;clear ho hb hg hat)))
     go_roundw
     case rel=>exact ⟨i+1,_,by first|(rw [fy.out];done)|rfl|(simp;done),gp.out,HE6,⟨by rw [List.length_append];have:=ZP.out;simp;omega,fun _=>by rw [List.length_append];simp⟩⟩
     case measure=>(try rw [fy.out]);have:=gp.out;simp [intOf];omega
    ·have ld:decide ((hs.length:Int)<7)=false:=decide_eq_false (by omega)
     have ln:decide (hs.length<7)=false:=decide_eq_false h2
     have HX7:Aside0 (1<=hs.length/\hs.length<=7):=⟨by have:=HL.out.1;omega⟩
     have TZ:Aside0 (jS w wr g A n c (k0+903) (.slice E5 hs.length d5) hs):=⟨⟨HE.out.own,HE.out.rows,HE.out.cur.up (by have:=BC.out;omega),HE.out.dN⟩⟩
     clear h1 h2 hi
     go_wp2
     go_meet
     case rel=>exact ⟨hs,TZ,HX7⟩
   ·have gd:decide ((i:Int)<(N:Int))=false:=decide_eq_false (by omega)
    have gn:decide (i<N)=false:=decide_eq_false h1
    have HX7:Aside0 (1<=hs.length/\hs.length<=7):=⟨by have:=HL.out;have:=BC.out;have:=this.1;exact ⟨HL.out.2 (by omega),HL.out.1⟩⟩
    have TZ:Aside0 (jS w wr g A n c (k0+903) (.slice E5 hs.length d5) hs):=⟨⟨HE.out.own,HE.out.rows,HE.out.cur.up (by have:=BC.out;omega),HE.out.dN⟩⟩
    clear h1 hi
    go_wp2
    go_meet
    case rel=>exact ⟨hs,TZ,HX7⟩
 case rest=>
 obtain ⟨hs,HE,HL⟩:=hcut
 generalize wc=w6 at*
 clear HE4
 go_wp2
 go_loopw [11,5] (fun iv ev wr=>∃(i:Nat) (hs:List fj),iv= .int .i64 (i:Int)/\i<=K/\Aside0 (jS w wr g A n c (k0+903+i) ev hs)/\Aside0 (1<=hs.length/\hs.length<=7)) (fun iv _ _=>K -(intOf iv).toNat)
 case atStart=>exact ⟨0,hs,rfl,Nat.zero_le _,HE,HL⟩
 case round=>
  clear HE HL
  obtain ⟨i,hs,rfl,hi,HE,HL⟩:=hrel
  obtain ⟨E5,d5,e5⟩:=Kd.cX HE.out.own
  subst e5
  have HIK:=Aside0.mk hi
  by_cases h1:i<K
  ·have gp:=Aside0.mk h1
   have gd:decide ((i:Int)<(K:Int))=true:=decide_eq_true (by omega)
   have gn:decide (i<K)=true:=decide_eq_true h1
   have fy:Aside0 (wrap64 ((i:Int)+1)=((i+1:Nat):Int)):=⟨eD (by have:=lz.out;omega)⟩
   clear h1 hi
   obtain ⟨wz,hwz⟩:∃wz,wz=wr:=⟨_,rfl⟩
   subst hwz
   go_wp2
   go_loopw [12,72] (fun bv jv wr=>∃(j:Nat) (b:Bool),bv= .bool b/\jv= .int .i64 (j:Int)/\j<=hs.length/\Aside0 (jS w wr g A n c (k0+903+i) (.slice E5 hs.length d5) hs)) (fun _ jv _=>hs.length -(intOf jv).toNat)
   case atStart=>exact ⟨0,false,rfl,rfl,Nat.zero_le _,HE⟩
   case round=>
    clear HE
    obtain ⟨j,b,rfl,rfl,hj,HE⟩:=hrel
    by_cases hjl:j<hs.length
    ·have HJl:=Aside0.mk hjl
     obtain ⟨e,B,c1,l,e2,hq1,_,hrow⟩:=De HE.out hjl
     subst e2
     have rH:=Aside0.mk hrow
     have jd:decide ((j:Int)<(hs.length:Int))=true:=decide_eq_true (by omega)
     have jn:decide (j<hs.length)=true:=decide_eq_true hjl
     have j0:(0:Int)<=(j:Int):=by omega
     have j1:(j:Int)<(hs.length:Int):=by omega
     have kC:Aside0 (wrap64 ((j:Int)+1)=((j+1:Nat):Int)):=⟨eD (by have:=HL.out;omega)⟩
     obtain ⟨q,hq⟩:=Ev.rounds (wD l (i:Int) (by have:=hrow.le;omega))
     have HHs:=Aside0.mk hq
     have a1Y:=Aside0.mk hrow.rd.1
     have a1Z:=Aside0.mk hrow.rd.2
     clear hjl hj hrow hq
     cases b with
     |true=>
      go_wp2
      go_roundw
      case rel=>exact ⟨j+1,true,rfl,by first|(rw [kC.out];done)|rfl|(simp;done),HJl.out,HE⟩
      case measure=>(try rw [kC.out]);have:=HJl.out;simp [intOf];omega
     |false=>
      go_wp2_with (first|(go_at_call 23;go_loud ((with_reducible refine (bH.calls q B c1 l (i:Int) _ _ a1Z.out a1Y.out HHs.out).mono ?_);rintro e w7 ⟨rfl,hd_⟩;have HE7:=Aside0.mk (pW HE.out (iV hd_));clear hd_)))
      go_roundw
      case rel=>exact ⟨j+1,_,rfl,by first|(rw [kC.out];done)|rfl|(simp;done),HJl.out,HE7⟩
      case measure=>(try rw [kC.out]);have:=HJl.out;simp [intOf];omega
    ·have jd:decide ((j:Int)<(hs.length:Int))=false:=decide_eq_false (by omega)
     have jn:decide (j<hs.length)=false:=decide_eq_false hjl
     clear hjl hj
     cases b with
     |true=>
      go_wp2
      go_roundw
      case rel=>exact ⟨i+1,hs,by first|(rw [fy.out];done)|rfl|(simp;done),gp.out,⟨uZ HE.out (by omega)⟩,HL⟩
      case measure=>(try rw [fy.out]);have:=gp.out;simp [intOf];omega
     |false=>
      obtain ⟨p,hp⟩:∃p:Nat,hs.length=p+1:=⟨hs.length - 1,by have:=HL.out;omega⟩
      have hwl:wrap64 ((hs.length:Int)- 1)=(p:Int):=by rw [rN (by omega) (by have:=HL.out;omega)];omega
      have Ua:=Aside0.mk hp
      clear hp
      go_upto_region 30 with fail
      rw [hwl]
      clear hwl
      go_cut [99] from 88 to 98 (fun v99 wx=>∃b:Bool,v99= .bool b/\Aside0 (b=true->0<i/\hs.length<7)/\Aside0 (jS w wx g A n c (k0+904+i) (.slice E5 hs.length d5) hs))
      case first=>
       have TZ:Aside0 (jS w wr g A n c (k0+904+i) (.slice E5 hs.length d5) hs):=⟨uZ HE.out (by omega)⟩
       by_cases h1:0<i
       ·have a1:decide ((i:Int)>0)=true:=decide_eq_true (by omega)
        have a1n:decide (0<i)=true:=decide_eq_true h1
        by_cases h2:hs.length<7
        ·have a2:decide ((hs.length:Int)<7)=true:=decide_eq_true (by omega)
         have a2n:decide (hs.length<7)=true:=decide_eq_true h2
         have HTT:Aside0 (0<i/\hs.length<7):=⟨⟨h1,h2⟩⟩
         clear h1 h2
         go_wp2_with (first|(go_at_call 43;go_loud ((with_reducible refine (HY.out _ (k0+903+i) 3 (by decide) (by have:=HK.out;have:=gp.out;have:=lz.out;omega) HE.out.dN HE.out.cur).mono ?_);rintro e w8 ⟨z8,rfl,uX,fJ,fA,fq⟩;have HE8:Aside0 (jS w w8 g A n c (k0+904+i) (.slice E5 hs.length d5) hs):=⟨⟨Ei HE.out.own HE.out.cur fq,HE.out.rows.keep (KI.cur fq HE.out.cur),fJ.up (by omega),fA⟩⟩;clear uX fJ fA fq)))
         go_meet
         case rel=>exact ⟨_,rfl,⟨fun _=>HTT.out⟩,HE8⟩
        ·have a2:decide ((hs.length:Int)<7)=false:=decide_eq_false (by omega)
         have a2n:decide (hs.length<7)=false:=decide_eq_false h2
         clear h1 h2
         go_wp2
         go_meet
         case rel=>exact ⟨false,rfl,⟨fun h=>absurd h (by decide)⟩,TZ⟩
       ·have a1:decide ((i:Int)>0)=false:=decide_eq_false (by omega)
        have a1n:decide (0<i)=false:=decide_eq_false h1
        clear h1
        go_wp2
        go_meet
        case rel=>exact ⟨false,rfl,⟨fun h=>absurd h (by decide)⟩,TZ⟩
      case rest=>
      obtain ⟨b,rfl,HBt,Rk⟩:=hcut
      generalize wc=w9 at*
      clear HE
      cases b with
      |true=>
       have hw:wrap64 ((i:Int)- 1)=(i:Int)- 1:=rN (by have:=HBt.out rfl;omega) (by have:=gp.out;have:=lz.out;omega)
       go_wp2_with (first|((with_reducible refine cK (b:= .append) (xs:= #[.tmp 100,.tmp 105]) rfl ?_);at_builtin;go_loud (refine Kd.fB kH (w0:=w) w.heap.size rfl _ _ 23 22 (.slice none 0 0) 24 rfl Try.underlying23 rZ rfl (by decide) (by omega) (.slice E5 hs.length d5) hs (some ⟨w9.heap.size,0,none⟩,2,2) [jQ (some ⟨w9.heap.size,0,none⟩,2,2)] (fun _=>True) (fun _=>False) rfl (by first|rfl|(go_simp;done)|(go_simp;rfl)) rfl (fun _ hk=>hk.elim) (fun _ _=>trivial) (Kd.cF Rk.out.own _) (aK Rk.out.dN _) ((aK Rk.out.dN _)).size (by have:=HBt.out rfl;omega) ?_;intro ve we ho hb hg hat;have b9i:Aside0 (jS w we g A n c (k0+903+(i+1)) ve (hs++[(some ⟨w9.heap.size,0,none⟩,2,2)])):=⟨uZ (zX Rk.out (l:=[(i:Int)- 1,(i:Int)]) rfl (by simp) (by simp) (by intro z hz;simp at hz;have:=HBt.out rfl;have:=gp.out;have:=lz.out;omega) ho hb hg) (by omega)⟩;clear ho hb hg hat)))
       go_roundw
       case rel=>exact ⟨i+1,_,by first|(rw [fy.out];done)|rfl|(simp;done),gp.out,b9i,⟨by rw [List.length_append];have:=HBt.out rfl;simp;omega⟩⟩
       case measure=>(try rw [fy.out]);have:=gp.out;simp [intOf];omega
      |false=>
       go_upto_region 32 with fail
       go_cut [128] from 107 to 127 (fun v128 wx=>∃b2:Bool,v128= .bool b2/\Aside0 (b2=true->∀(e:Nat) (B:Option Addr) (c1:Nat) (l:List Int),E5=some ⟨e,0,none⟩->wx.cell? ⟨e,p,none⟩=some (.slice B l.length c1)->l.length<3)/\Aside0 (jS w wx g A n c (k0+904+i) (.slice E5 hs.length d5) hs))
       case first=>
        obtain ⟨e,B,c1,l,e2,hq1,_,hrow⟩:=De Rk.out (show p<hs.length by have:=Ua.out;omega)
        subst e2
        obtain ⟨q,hq⟩:∃q:Nat,l.length=q+1:=⟨l.length - 1,by have:=hrow.ne;omega⟩
        obtain ⟨ad,e3,hu1⟩:=Kd.fC hrow.rd.2 (q:Int) (by omega) (by omega)
        subst e3
        rw [qa (show q<l.length by omega),Int.toNat_natCast] at hu1
        generalize l[q]=u at hu1
        have hwq:wrap64 ((l.length:Int)- 1)=(q:Int):=by rw [rN (by omega) (by have:=hrow.le;omega)];omega
        have p0:(0:Int)<=(p:Int):=by omega
        have p1:(p:Int)<(hs.length:Int):=by have:=Ua.out;omega
        have EG:p<hs.length:=by have:=Ua.out;omega
        have q0:(0:Int)<=(q:Int):=by omega
        have q1:(q:Int)<(l.length:Int):=by omega
        have q1n:q<l.length:=by omega
        have SB:Aside0 (jS w w9.drew g A n c (k0+904+i) (.slice (some ⟨e,0,none⟩) hs.length d5) hs):=⟨pW Rk.out (bn (Below.refl _ _))⟩
        have HCl:Aside0 (w9.drew.cell? ⟨e,p,none⟩=some (.slice (some ad) l.length c1)):=⟨hq1⟩
        have HUl:Aside0 (w9.drew.cell? (ad.add q)=some (.int .i64 u)):=⟨hu1⟩
        obtain ⟨b1,hb1⟩:∃b1,decide (u<(i:Int))=b1:=⟨_,rfl⟩
        obtain ⟨b3,hb3⟩:∃b3,decide ((l.length:Int)<3)=b3:=⟨_,rfl⟩
        have xe:=Aside0.mk hb3
        clear hq hrow hq1 hu1
        go_wp2
        refine eG (n:=22) (S:=fun w'=>w'.cell? ⟨e,p,none⟩=some (.slice (some ad) l.length c1)/\w'.cell? (ad.add q)=some (.int .i64 u)) (ds:=[]) #[false,false,false,false,false,false,false,false,false,false,false,false,false,false,false,false,false,false,false,false,false,false] (by kernel_rfl) rfl rfl ⟨HCl.out,HUl.out⟩ (fun hHeld=>?_)
        refine aI (i:=0) (N:=some 107) ?_
        refine aI (i:=1) (N:=some 108) ?_
        refine aI (i:=2) (N:=some 109) ?_
        refine cE (i:=3) (N:=some 110) (v:=?_) (a':=?_) #[true,true,true,true,false,false,false,false,false,false,false,false,false,false,false,false,false,false,false,false,false,false] rfl rfl (by kernel_rfl) (fun _ _ _ h=>h) (Or.inl ⟨by rfl,?_⟩) hHeld ?_ ?_
        rotate_left
        ·rintro w' ⟨s0,s1⟩
         go_simp
         with_reducible rfl
        rotate_left
        ·exact dx
        refine aI (i:=4) (N:=some 111) ?_
        refine aI (i:=5) (N:=some 112) ?_
        refine aI (i:=6) (N:=some 113) ?_
        refine cE (i:=7) (N:=some 114) (v:=?_) (a':=?_) #[true,true,true,true,true,true,true,true,false,false,false,false,false,false,false,false,false,false,false,false,false,false] rfl rfl (by kernel_rfl) (fun _ _ _ h=>h) (Or.inl ⟨by rfl,?_⟩) hHeld ?_ ?_
        rotate_left
        ·rintro w' ⟨s0,s1⟩
         go_simp
         with_reducible rfl
        rotate_left
        ·exact dx
        refine aI (i:=8) (N:=some 115) ?_
        refine aI (i:=9) (N:=some 116) ?_
        refine aI (i:=10) (N:=some 117) ?_
        refine cE (i:=11) (N:=some 118) (v:=?_) (a':=?_) #[true,true,true,true,true,true,true,true,true,true,true,true,false,false,false,false,false,false,false,false,false,false] rfl rfl (by kernel_rfl) (fun _ _ _ h=>h) (Or.inl ⟨by rfl,?_⟩) hHeld ?_ ?_
        rotate_left
        ·rintro w' ⟨s0,s1⟩
         go_simp
         with_reducible rfl
        rotate_left
        ·exact dx
        refine aI (i:=12) (N:=some 119) ?_
        refine aI (i:=13) (N:=some 120) ?_
        refine aI (i:=14) (N:=some 121) ?_
        cases b1 with
        |true=>
         skip
         skip
         refine aI (i:=15) (N:=some 122) ?_
         refine aI (i:=16) (N:=some 123) ?_
         refine aI (i:=17) (N:=some 124) ?_
         refine cE (i:=18) (N:=some 125) (v:=?_) (a':=?_) #[true,true,true,true,true,true,true,true,true,true,true,true,true,true,true,true,true,true,true,false,false,false] rfl rfl (by kernel_rfl) (fun _ _ _ h=>h) (Or.inl ⟨by rfl,?_⟩) hHeld ?_ ?_
         rotate_left
         ·rintro w' ⟨s0,s1⟩
          go_simp
          with_reducible rfl
         rotate_left
         ·exact dx
         refine aI (i:=19) (N:=some 126) ?_
         refine aI (i:=20) (N:=some 127) ?_
         refine aI (i:=21) (N:=some 128) ?_
         refine fl (by kernel_rfl) ?_
         go_wp2
         go_meet
         case rel=>exact ⟨b3,rfl,⟨fun hb e' B' c' l' h1 h2=>by
          have h3:=of_decide_eq_true (xe.out.trans hb)
          injection (Option.some.inj h1) with h4
          subst h4
          rw [HCl.out] at h2
          injection (Option.some.inj h2) with _ h5
          omega⟩,SB⟩
        |false=>
         skip
         skip
         refine ij (i:=15) (N:=some 122) ?_
         refine ij (i:=16) (N:=some 123) ?_
         refine ij (i:=17) (N:=some 124) ?_
         refine ij (i:=18) (N:=some 125) ?_
         refine ij (i:=19) (N:=some 126) ?_
         refine ij (i:=20) (N:=some 127) ?_
         refine aI (i:=21) (N:=some 128) ?_
         refine fl (by kernel_rfl) ?_
         go_wp2
         go_meet
         case rel=>exact ⟨false,rfl,⟨fun h=>absurd h (by decide)⟩,SB⟩
       case rest=>
       obtain ⟨b2,rfl,iw,Dg⟩:=hcut
       generalize wc=fk at*
       clear Rk
       cases b2 with
       |true=>
        obtain ⟨e,B,c1,l,e2,hq1,_,hrow⟩:=De Dg.out (show p<hs.length by have:=Ua.out;omega)
        subst e2
        have Pz:Aside0 (l.length<3):=⟨iw.out rfl e B c1 l rfl hq1⟩
        have he:e<fk.heap.size:=World.block_lt_of_cell? fk ⟨e,p,none⟩ hq1
        have p0:(0:Int)<=(p:Int):=by omega
        have p1:(p:Int)<(hs.length:Int):=by have:=Ua.out;omega
        have EG:p<hs.length:=by have:=Ua.out;omega
        have HP1:=Aside0.mk EG
        have HRd:=Aside0.mk hrow.rd.2
        have rH:=Aside0.mk hrow
        have sQ:=Aside0.mk (tR fk)
        have jo:=Aside0.mk (aK (Below.refl fk.heap.size fk) (.cells #[] 3))
        have a2N:=Aside0.mk (Kd.bQ HRd.out jo.out)
        clear hrow iw HRd
        go_wp2_with (first|((with_reducible refine cK (b:= .append) (xs:= #[.tmp 131,.tmp 135]) rfl ?_);at_builtin;go_loud (refine Kd.qN (Kd.int .i64) (w0:=fk) fk.heap.size rfl _ _ 22 3 (.int .i64 0) 8 rfl Try.underlying22 info3 rfl (by decide) (by omega) (.slice (some ⟨fk.heap.size,0,none⟩) 0 0) [] l B l.length c1 (fun _=>True) (fun _=>False) rfl rfl sQ.out a2N.out (fun _ _ hk=>hk) (fun _ hk=>hk.elim) (fun _ _=>trivial) jo.out jo.out.size (by have:=Pz.out;simp;omega) ?_;intro v1 wa uo hb1 hg1 nB;have rT:=Aside0.mk uo;have dG:=Aside0.mk hb1;clear uo hb1 hg1 nB hq1))|((with_reducible refine cK (b:= .append) (xs:= #[.tmp 136,.tmp 138]) rfl ?_);at_builtin;go_loud (refine Kd.fB (Kd.int .i64) (w0:=fk) fk.heap.size rfl _ _ 22 3 (.int .i64 0) 8 rfl Try.underlying22 info3 rfl (by decide) (by omega) v1 ([]++l) (i:Int) [.int .i64 (i:Int)] (fun _=>True) (fun _=>False) rfl (by first|rfl|(go_simp;done)|(go_simp;rfl)) rfl (fun _ hk=>hk.elim) (fun _ _=>trivial) rT.out dG.out dG.out.size (by have:=Pz.out;simp;omega) ?_;intro v2 wb wG hb2 hg2 VD;have ZQ:=ZH rH.out Pz.out (v:=(i:Int)) (by have:=gp.out;have:=lz.out;omega);generalize Rl:([]++l++[(i:Int)])=l2 at wG ZQ;clear Rl;obtain ⟨B2,d2,e2⟩:=Kd.cX wG;subst e2;have Cq:=Aside0.mk (Rf wG ZQ.1 ZQ.2.1 ZQ.2.2);clear ZQ;have ZR:Aside0 (jS w wb g A n c (k0+904+i) (.slice (some ⟨e,0,none⟩) hs.length d5) hs):=⟨pW Dg.out hb2⟩;obtain ⟨_,_,_,hqb,hfb,_⟩:=Gt ZR.out HP1.out;clear wG hb2 hg2 VD)))
        go_roundw
        case rel=>exact ⟨i+1,_,by first|(rw [fy.out];done)|rfl|(simp;done),gp.out,⟨uZ (TU ZR.out HP1.out Cq.out) (by omega)⟩,⟨by rw [List.length_set];exact HL.out⟩⟩
        case measure=>(try rw [fy.out]);have:=gp.out;simp [intOf];omega
       |false=>
        by_cases h7:hs.length<7
        ·have a2:decide ((hs.length:Int)<7)=true:=decide_eq_true (by omega)
         have a2n:decide (hs.length<7)=true:=decide_eq_true h7
         have ZP:=Aside0.mk h7
         clear h7
         go_wp2_with (first|((with_reducible refine cK (b:= .append) (xs:= #[.tmp 144,.tmp 147]) rfl ?_);at_builtin;go_loud (refine Kd.fB kH (w0:=w) w.heap.size rfl _ _ 23 22 (.slice none 0 0) 24 rfl Try.underlying23 rZ rfl (by decide) (by omega) (.slice E5 hs.length d5) hs (some ⟨fk.heap.size,0,none⟩,1,1) [jQ (some ⟨fk.heap.size,0,none⟩,1,1)] (fun _=>True) (fun _=>False) rfl (by first|rfl|(go_simp;done)|(go_simp;rfl)) rfl (fun _ hk=>hk.elim) (fun _ _=>trivial) (Kd.cF Dg.out.own _) (aK Dg.out.dN _) ((aK Dg.out.dN _)).size (by have:=ZP.out;omega) ?_;intro ve we ho hb hg hat;have b9j:Aside0 (jS w we g A n c (k0+903+(i+1)) ve (hs++[(some ⟨fk.heap.size,0,none⟩,1,1)])):=⟨uZ (zX Dg.out (l:=[(i:Int)]) rfl (by simp) (by simp) (by intro z hz;simp at hz;have:=gp.out;have:=lz.out;omega) ho hb hg) (by omega)⟩;clear ho hb hg hat)))
         go_roundw
         case rel=>exact ⟨i+1,_,by first|(rw [fy.out];done)|rfl|(simp;done),gp.out,b9j,⟨by rw [List.length_append];have:=ZP.out;simp;omega⟩⟩
         case measure=>(try rw [fy.out]);have:=gp.out;simp [intOf];omega
        ·have a2:decide ((hs.length:Int)<7)=false:=decide_eq_false (by omega)
         have a2n:decide (hs.length<7)=false:=decide_eq_false h7
         have ZT:Aside0 (0<hs.length):=⟨by have:=HL.out;omega⟩
         obtain ⟨e,B,c1,l,e2,hq1,_,hrow⟩:=De Dg.out ZT.out
         subst e2
         have he:e<fk.heap.size:=World.block_lt_of_cell? fk ⟨e,0,none⟩ hq1
         have p1:(0:Int)<(hs.length:Int):=by have:=ZT.out;omega
         have EG:0<hs.length:=ZT.out
         obtain ⟨r,hev,hf6,hr1⟩:=We l [(i:Int)] (by have:=hrow.le;omega) (by simp) (show (0:Int)<=(i:Int) by omega) (by have:=gp.out;have:=lz.out;omega) List.mem_cons_self
         obtain ⟨q,hq⟩:=Ev.rounds hev
         have HQ:=Aside0.mk hq
         have Px:=Aside0.mk hf6
         have gV:=Aside0.mk hr1
         have b9k:=Aside0.mk (LJ (W:=fk.alloc (.cells #[.int .i64 (i:Int)] 3)) (l:=[(i:Int)]) (bW fk _) (by simp) (by simp) (by intro z hz;simp at hz;have:=gp.out;have:=lz.out;omega))
         have HLd:=Aside0.mk b9k.out.rd.2
         have qx:=Aside0.mk (aK (Below.refl fk.heap.size fk) (.cells #[.int .i64 (i:Int)] 3))
         have HRd:=Aside0.mk (Kd.bQ hrow.rd.2 qx.out)
         have HRc:=Aside0.mk hrow.rd.1
         have HU:Aside0 (Calls Try.prog 59 #[.slice B l.length c1,.slice (some ⟨fk.heap.size,0,none⟩) 1 1] (fk.alloc (.cells #[.int .i64 (i:Int)] 3)) fun e w'=>∃mF:Value,e= .returned mF/\Kd.R (Kd.int .i64) 3 w' (fk.alloc (.cells #[.int .i64 (i:Int)] 3)).heap.size (fun _=>True) mF r/\Below (fk.alloc (.cells #[.int .i64 (i:Int)] 3)).heap.size (fk.alloc (.cells #[.int .i64 (i:Int)] 3)) w'):=⟨bP.calls q B c1 l (some ⟨fk.heap.size,0,none⟩) 1 [(i:Int)] r _ HRd.out HRc.out HLd.out (Nat.le_refl _) HQ.out⟩
         clear hev hq hf6 hr1 hrow h7
         go_wp2_with (first|(go_at_call 59;go_loud ((with_reducible refine HU.out.mono ?_);rintro e9 wu ⟨vu,rfl,hou,hbu⟩;obtain ⟨B2,d2,e2⟩:=Kd.cX hou;subst e2;have Cq:=Aside0.mk (Rf hou gV.out Px.out.1 Px.out.2);have ZR:Aside0 (jS w wu g A n c (k0+904+i) (.slice (some ⟨e,0,none⟩) hs.length d5) hs):=⟨pW Dg.out (ai qx.out hbu)⟩;obtain ⟨_,_,_,hqb,hfb,_⟩:=Gt ZR.out ZT.out;clear hou hbu hq1)))
         go_roundw
         case rel=>exact ⟨i+1,_,by first|(rw [fy.out];done)|rfl|(simp;done),gp.out,⟨uZ (TU ZR.out ZT.out Cq.out) (by omega)⟩,⟨by rw [List.length_set];exact HL.out⟩⟩
         case measure=>(try rw [fy.out]);have:=gp.out;simp [intOf];omega
  ·have gd:decide ((i:Int)<(K:Int))=false:=decide_eq_false (by omega)
   have gn:decide (i<K)=false:=decide_eq_false h1
   clear h1 hi
   go_wp2
   refine bodyPost_ret (results_tmp2 rfl _ _ _) rfl ?_
   exact ⟨K,_,hs,rfl,lz.out.1,lz.out.2,uZ HE.out (by have:=lz.out;have:=HIK.out;omega),HL.out⟩
end Go.Proofs.Ytnhknojfpjheoaa.PT
