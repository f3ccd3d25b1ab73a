/-
  Part 3 of the proof of this: The law FnExactIntersect answers true at every argument.
-/
import Derived.Test.YtkolhpmhbgbphaaKIntersect2
namespace Go.Proofs.Ytkolhpmhbgbphaa.PT
open Go.RowKit Go.Proofs.Ytkolhpmhbgbphaa.P Go.Proofs.YtkolhpmhbgbphaaW.PrintWords Go.Proofs.YtkolhpmhbgbphaaW.PrintLast Go.Proofs.Ytkolhpmhbgbphaa.EvKit
set_option linter.unusedVariables false
set_option linter.unusedSimpArgs false
abbrev ptrK : Kd Nat := Kd.scalar (fun b : Nat => Value.pointer (some ⟨b, 0, none⟩)) (fun _ => rfl)
abbrev kRw : Kd (List Int) := Kd.slice 3 (Kd.int .i64)
def CurAt (w W : World) (b : Nat) (l : List Int) (a : Nat) : Prop := ∃ A c, W.heap[b]? = some (.cells #[.slice A l.length c, .int .i64 (a : Int)] 104 (0, 0)) ∧ l.length ≤ c ∧ Kd.C (Kd.int .i64) w A l.length l
structure Curs (w W : World) (bs : List Nat) (ls : List (List Int)) (ats : List Nat) : Prop where
  len : ats.length = bs.length
  cur : ∀ j, (h : j < bs.length) → CurAt w W bs[j] (ls.getD j []) (ats.getD j 0)
  nodup : bs.Nodup
  ge : ∀ b, b ∈ bs → w.heap.size ≤ b
theorem Curs.lt {w W : World} {bs : List Nat} {ls : List (List Int)} {ats : List Nat} (h : Curs w W bs ls ats) {b : Nat} (hb : b ∈ bs) : b < W.heap.size := by
  obtain ⟨j, hj, rfl⟩ := List.getElem_of_mem hb
  obtain ⟨A, c, h1, _⟩ := h.cur j hj
  exact (Array.getElem?_eq_some_iff.1 h1).1
theorem Curs.move {w W W' : World} {bs : List Nat} {ls : List (List Int)} {ats : List Nat} (h : Curs w W bs ls ats) (hm : ∀ b, b ∈ bs → W'.heap[b]? = W.heap[b]?) : Curs w W' bs ls ats := by
  refine ⟨h.len, fun j hj => ?_, h.nodup, h.ge⟩
  obtain ⟨A, c, h1, h2, h3⟩ := h.cur j hj
  exact ⟨A, c, (hm _ (List.getElem_mem hj)).trans h1, h2, h3⟩
theorem Curs.drewN {w W : World} {bs : List Nat} {ls : List (List Int)} {ats : List Nat} (h : Curs w W bs ls ats) (m : Nat) : Curs w (W.drewN m) bs ls ats := h.move (fun b _ => rfl)
theorem Curs.below {w W W' : World} {bs : List Nat} {ls : List (List Int)} {ats : List Nat} (h : Curs w W bs ls ats) (hb : Below W.heap.size W W') : Curs w W' bs ls ats := h.move (fun b hm => hb.block b (h.lt hm))
theorem Curs.grown {w W W' : World} {bs : List Nat} {ls : List (List Int)} {ats : List Nat} (h : Curs w W bs ls ats) {α : Type} {d : Kd α} {e base : Nat} {ok : Nat → Prop} {v : Value} {xs : List α} (hv : d.R e W base ok v xs) (he : e ≠ 104) (hg : W.grownBy W' v.ownBlock) : Curs w W' bs ls ats := by
  refine h.move (fun b hm => hg.block b (h.lt hm) (fun hb => ?_))
  obtain ⟨j, hj, rfl⟩ := List.getElem_of_mem hm
  obtain ⟨A, c, h1, _⟩ := h.cur j hj
  exact Kd.R_ne hv h1 he hb
theorem Curs.snoc {w W : World} {bs : List Nat} {ls : List (List Int)} {ats : List Nat} (h : Curs w W bs ls ats) {b : Nat} (hc : CurAt w W b (ls.getD bs.length []) 0) (hb : b ∉ bs) (hg : w.heap.size ≤ b) : Curs w W (bs ++ [b]) ls (ats ++ [0]) := by
  refine ⟨by simp [h.len], fun j hj => ?_, ?_, fun q hq => ?_⟩
  · rcases Nat.lt_or_ge j bs.length with hlt | hge
    · rw [List.getElem_append_left hlt]
      have : (ats ++ [0]).getD j 0 = ats.getD j 0 := by simp [List.getD_eq_getElem?_getD, List.getElem?_append_left (show j < ats.length by rw [h.len]; exact hlt)]
      rw [this]; exact h.cur j hlt
    · have e : j = bs.length := by simp at hj; omega
      subst e
      have : (ats ++ [0]).getD bs.length 0 = 0 := by rw [← h.len]; simp
      rw [this]
      simpa using hc
  · rw [List.nodup_append]
    exact ⟨h.nodup, by simp, fun a ha c hc' => by rw [List.mem_singleton] at hc'; subst hc'; exact fun e => hb (e ▸ ha)⟩
  · rcases List.mem_append.1 hq with hq | hq
    · exact h.ge q hq
    · rw [List.mem_singleton] at hq; subst hq; exact hg
theorem Curs.snocd {w W W2 : World} {bs : List Nat} {ls : List (List Int)} {A1 : Option Addr} {c1 : Nat} {l : List Int} {v : Value} {base : Nat} (h : Curs w W bs ls (List.replicate bs.length 0)) (hC : Kd.C (Kd.int .i64) w A1 l.length l) (hc : l.length ≤ c1) (hl : ls.getD bs.length [] = l) (hs : w.heap.size ≤ W.heap.size)
    (hv : Kd.R ptrK 102 (W.alloc (.cells #[.slice A1 l.length c1, .int .i64 0] 104 (0, 0))) base (fun _ => True) v bs) (hg : (W.alloc (.cells #[.slice A1 l.length c1, .int .i64 0] 104 (0, 0))).grownBy W2 v.ownBlock) :
    Curs w W2 (bs ++ [W.heap.size]) ls (List.replicate (bs ++ [W.heap.size]).length 0) := by
  have h1 := h.below (below_alloc (Below.refl W.heap.size W) (.cells #[.slice A1 l.length c1, .int .i64 0] 104 (0, 0)))
  have h2 := h1.snoc (b := W.heap.size) ⟨A1, c1, by rw [hl]; exact heap_alloc_new W _, by rw [hl]; exact hc, by rw [hl]; exact hC⟩ (fun hb => Nat.lt_irrefl _ (h.lt hb)) hs
  have h3 := h2.grown hv (by decide) hg
  have e : List.replicate bs.length 0 ++ [0] = List.replicate (bs ++ [W.heap.size]).length 0 := by simp [List.replicate_succ']
  rw [← e]; exact h3
theorem alloc_size1 (w : World) (o : Obj) : (w.alloc o).heap.size = w.heap.size + 1 := Array.size_push _
theorem rep0 (n j : Nat) : (List.replicate n 0).getD j 0 = 0 := by rw [List.getD_eq_getElem?_getD, List.getElem?_replicate]; split <;> rfl
theorem add0 (a : Addr) : a.add 0 = a := by simp [Addr.add]
theorem quiet_more {W w2 : World} {x : Nat} (h : ∃ k, w2 = (W.drewN x).drewN k) : ∃ m, w2 = W.drewN m := by
  obtain ⟨k, h⟩ := h
  exact ⟨_, h.trans (World.drewN_drewN _ _ _)⟩
theorem quiet_plus {W w2 : World} {a x : Nat} (h : ∃ k, w2 = (W.drewN (a + x)).drewN k) : ∃ n, w2 = W.drewN (a + n) := by
  obtain ⟨k, h⟩ := h
  exact ⟨x + k, by rw [h, World.drewN_drewN, Nat.add_assoc]⟩
theorem dr_n {W W' : World} {n : Nat} (h : ∃ m, W' = W.drewN m) : ∃ m, W'.drewN n = W.drewN m := by
  obtain ⟨m, rfl⟩ := h
  exact ⟨_, World.drewN_drewN _ _ _⟩
theorem dr_1 {W W' : World} (h : ∃ m, W' = W.drewN m) : ∃ m, W'.drew = W.drewN m := by
  obtain ⟨m, rfl⟩ := h
  exact ⟨m + 1, rfl⟩
theorem ag_step {ls : List (List Int)} {ats : List Nat} {y : Nat} {ag : Bool} (h : ag = true ↔ ∀ j, j < y → vl ls ats j = vl ls ats 0) : (ag = true ∧ vl ls ats y = vl ls ats 0) ↔ ∀ j, j < y + 1 → vl ls ats j = vl ls ats 0 := by
  constructor
  · intro ⟨h1, h2⟩ j hj
    by_cases e : j = y
    · subst e; exact h2
    · exact h.1 h1 j (by omega)
  · intro H
    exact ⟨h.2 (fun j hj => H j (by omega)), H y (by omega)⟩
theorem infoPtr : (Try.prog.info? 102).map (fun i => (i.zero, i.size, i.bytes)) = some (some (.pointer none), 1, 8) := by kernel_rfl
open Classical in
noncomputable def interR (ls : List (List Int)) : List Int := if (1 ≤ ls.length ∧ ls.length ≤ 100) ∧ (∀ l, l ∈ ls → l.Pairwise (· < ·)) then interF ls.length (fun j => ls.getD j []) else []
theorem pairwise_adj {l : List Int} (h : ∀ i, (hi : i + 1 < l.length) → l[i] < l[i + 1]) : l.Pairwise (· < ·) := by
  rw [List.pairwise_iff_getElem]
  intro i j hi hj hij
  induction j with
  | zero => omega
  | succ j ih =>
    by_cases e : i = j
    · subst e; exact h i hj
    · exact Int.lt_trans (ih (by omega) (by omega)) (h j hj)
theorem ptr_at {W : World} {A : Option Addr} {n : Nat} {bs : List Nat} (h : Kd.C ptrK W A n bs) (j : Nat) (hj : j < n) : ∃ ad, A = some ad ∧ W.cell? (ad.add j) = some (.pointer (some ⟨rdOf 0 bs (j : Int), 0, none⟩)) := by
  obtain ⟨ad, e, h2⟩ := ReadsOf.at_ (Kd.reads_of_C (d := (0 : Nat)) h) (j : Int) (by omega) (by omega)
  rw [Int.toNat_natCast] at h2
  exact ⟨ad, e, h2⟩
theorem rdOf_nat {bs : List Nat} {j : Nat} (h : j < bs.length) : rdOf 0 bs (j : Int) = bs[j] := by
  unfold rdOf; rw [Int.toNat_natCast, List.getD_eq_getElem?_getD, List.getElem?_eq_getElem h]; rfl
theorem Curs.value_ {w W : World} {bs : List Nat} {ls : List (List Int)} {ats : List Nat} (h : Curs w W bs ls ats) (hB : Below w.heap.size w W) {j b : Nat} (hj : j < bs.length) (hb : rdOf 0 bs (j : Int) = b) (hlt : ats.getD j 0 < (ls.getD j []).length) :
    ∀ W', (∃ m, W' = W.drewN m) → Calls Try.prog 67 #[.pointer (some ⟨b, 0, none⟩)] W' fun e w' => e = .returned (.int .i64 (vl ls ats j)) ∧ ∃ k, w' = W'.drewN k := by
  rintro W' ⟨m, rfl⟩
  rw [rdOf_nat hj] at hb
  obtain ⟨A, c, h1, h2, h3⟩ := h.cur j hj
  rw [hb] at h1
  obtain ⟨ad, e, hx⟩ := Kd.at_int h3 (ats.getD j 0 : Int) (by omega) (by omega)
  subst e
  rw [Int.toNat_natCast] at hx
  have hx2 := pw_cell_below hB hx
  refine (value_walk b ad _ c (ats.getD j 0) _ (W.drewN m) ((blk_cell (w := W) h1 0).trans rfl) ((blk_cell (w := W) h1 1).trans rfl) hlt hx2).mono ?_
  rintro e w' ⟨rfl, n1, rfl⟩
  exact ⟨rfl, n1, rfl⟩
theorem Curs.done_ {w W : World} {bs : List Nat} {ls : List (List Int)} {ats : List Nat} (h : Curs w W bs ls ats) {j b : Nat} (hj : j < bs.length) (hb : rdOf 0 bs (j : Int) = b) :
    ∀ W', (∃ m, W' = W.drewN m) → Calls Try.prog 66 #[.pointer (some ⟨b, 0, none⟩)] W' fun e w' => e = .returned (.bool (decide ((ls.getD j []).length ≤ ats.getD j 0))) ∧ ∃ k, w' = W'.drewN k := by
  rintro W' ⟨m, rfl⟩
  rw [rdOf_nat hj] at hb
  obtain ⟨A, c, h1, h2, h3⟩ := h.cur j hj
  rw [hb] at h1
  refine (done_walk b A _ c (ats.getD j 0) (W.drewN m) ((blk_cell (w := W) h1 0).trans rfl) ((blk_cell (w := W) h1 1).trans rfl)).mono ?_
  rintro e w' ⟨rfl, n1, rfl⟩
  exact ⟨rfl, n1, rfl⟩
theorem Curs.put {w W W' : World} {bs : List Nat} {ls : List (List Int)} {ats : List Nat} (h : Curs w W bs ls ats) {i b a : Nat} (hi : i < bs.length) (hb : rdOf 0 bs (i : Int) = b)
    (hown : ∀ s, W.heap[b]? = some (.cells #[s, .int .i64 (ats.getD i 0 : Int)] 104 (0, 0)) → W'.heap[b]? = some (.cells #[s, .int .i64 (a : Int)] 104 (0, 0))) (hoth : ∀ k, k ≠ b → W'.heap[k]? = W.heap[k]?) : Curs w W' bs ls (ats.set i a) := by
  rw [rdOf_nat hi] at hb
  refine ⟨by rw [List.length_set]; exact h.len, fun j hj => ?_, h.nodup, h.ge⟩
  obtain ⟨A, c, h1, h2, h3⟩ := h.cur j hj
  by_cases e : j = i
  · subst e
    rw [set_same (by rw [h.len]; exact hj)]
    rw [hb] at h1
    exact ⟨A, c, by rw [hb]; exact hown _ h1, h2, h3⟩
  · rw [set_other e]
    refine ⟨A, c, (hoth _ (fun h4 => e ?_)).trans h1, h2, h3⟩
    rw [← hb] at h4
    rcases Nat.lt_or_ge j i with hlt | hge
    · exact absurd h4 (List.pairwise_iff_getElem.1 h.nodup j i hj hi hlt)
    · exact absurd h4.symm (List.pairwise_iff_getElem.1 h.nodup i j hi hj (by omega))
theorem Curs.at_ {w W : World} {bs : List Nat} {ls : List (List Int)} {ats : List Nat} (h : Curs w W bs ls ats) {i b : Nat} (hi : i < bs.length) (hb : rdOf 0 bs (i : Int) = b) : ∃ s, W.heap[b]? = some (.cells #[s, .int .i64 (ats.getD i 0 : Int)] 104 (0, 0)) := by
  rw [rdOf_nat hi] at hb
  obtain ⟨A, c, h1, _⟩ := h.cur i hi
  rw [hb] at h1
  exact ⟨_, h1⟩
theorem Curs.base {w W : World} {bs : List Nat} {ls : List (List Int)} {ats : List Nat} (h : Curs w W bs ls ats) {i b : Nat} (hi : i < bs.length) (hb : rdOf 0 bs (i : Int) = b) : w.heap.size ≤ b := by
  rw [rdOf_nat hi] at hb
  rw [← hb]; exact h.ge _ (List.getElem_mem hi)
theorem R_past {α : Type} {d : Kd α} {e base : Nat} {W W' : World} {v : Value} {xs : List α} {b t : Nat} {cs : Array Value} (h : d.R e W base (fun _ => True) v xs) (hb : W.heap[b]? = some (.cells cs t (0, 0))) (ht : ∀ q, q ∈ e :: d.E → q ≠ t) (hm : ∀ k, k ≠ b → W'.heap[k]? = W.heap[k]?) : d.R e W' base (fun _ => True) v xs :=
  Kd.R_mono (Kd.R_step (Kd.R_types h hb ht) (fun k hk _ => hm k hk.2)) (fun _ _ => trivial)
theorem Curs.seek_ {w W : World} {bs : List Nat} {ls : List (List Int)} {ats : List Nat} (h : Curs w W bs ls ats) (hB : Below w.heap.size w W) {j b : Nat} (hj : j < bs.length) (hb : rdOf 0 bs (j : Int) = b) (hlt : ats.getD j 0 ≤ (ls.getD j []).length) (hs : (ls.getD j []).Pairwise (· < ·)) (hl : (ls.getD j []).length ≤ 1048576) (v : Int) :
    ∀ W', (∃ m, W' = W.drewN m) → Calls Try.prog 68 #[.pointer (some ⟨b, 0, none⟩), .int .i64 v] W' fun e w' => e = .returned (.tuple #[]) ∧ Curs w w' bs ls (ats.set j (ats.getD j 0 + lb v (drops ls ats j))) ∧ (∀ k, k ≠ b → w'.heap[k]? = W.heap[k]?) ∧ Below w.heap.size w w' := by
  rintro W' ⟨m, rfl⟩
  have hbb := h.base hj hb
  have hb2 := hb
  rw [rdOf_nat hj] at hb2
  obtain ⟨A, c, h1, h2, h3⟩ := h.cur j hj
  rw [hb2] at h1
  refine (seek_walk b A c _ (ats.getD j 0) v (W.drewN m) h1 (Kd.C_below h3 (pw_below_drewN hB _)) h2 hs hl hlt).mono ?_
  rintro e w' ⟨rfl, hk⟩
  refine ⟨rfl, h.put hj hb (fun s hs => ?_) hk.rest, hk.rest, (pw_below_drewN hB m).trans (hk.below _ hbb)⟩
  · rw [h1] at hs
    obtain ⟨rfl⟩ : s = .slice A (ls.getD j []).length c := by
      have := Option.some.inj hs
      simp only [Obj.cells.injEq] at this
      have := congrArg (fun (a : Array Value) => a[0]?) this.1
      exact (Option.some.inj this).symm
    exact hk.own
def InterPost (w : World) (r : List Int) (e : Ending) (w' : World) : Prop := ∃ v, e = .returned v ∧ Kd.R (Kd.int .i64) 3 w' w.heap.size (fun _ => True) v r ∧ Below w.heap.size w w'
set_option maxHeartbeats 8000000 in
set_option maxRecDepth 100000 in
theorem intersect_walk (A : Option Addr) (c : Nat) (ls : List (List Int)) (w : World) (hr : Kd.C kRw w A ls.length ls) (hc : ls.length ≤ c) (hll : ∀ l, l ∈ ls → l.length ≤ 1048576) (hln : ls.length ≤ 1048576) :
    Calls Try.prog 15 #[.slice A ls.length c] w (InterPost w (interR ls)) := by
  have hu1 := Try.underlying104
  have HR := Aside0.mk hr
  have HL := Aside0.mk hll
  have HB := Aside0.mk (Below.refl w.heap.size w)
  have HW : Aside0 (∀ W, Calls Try.prog 65 #[.int .i64 (ls.length : Int), .int .i64 1, .int .i64 100] W fun e w' => e = .returned (.bool (decide ((1 : Int) ≤ ls.length ∧ (ls.length : Int) ≤ 100))) ∧ Drawn0 W w') := ⟨fun W => impl_within.calls _ _ _ _ W (within_v _ _ _)⟩
  clear hr hll
  by_cases hn : (1 : Int) ≤ ls.length ∧ (ls.length : Int) ≤ 100
  · rw [decide_eq_true hn] at HW
    obtain ⟨hn1, hn2⟩ := hn
    go_enter Try.func15, Try.ntmps15
    go_wp2_with (first | (go_at_call 65; refine (HW.out _).mono ?_; rintro e w1 ⟨rfl, ⟨n1, rfl⟩⟩))
    go_loopw [19, 3] (fun xv v wr => ∃ (x : Int) (bs : List Nat), xv = .int .i64 x ∧ 0 ≤ x ∧ x ≤ (ls.length : Int) ∧ Aside0 (bs.length = x.toNat) ∧ Aside0 (∀ j, j < x.toNat → (ls.getD j []).Pairwise (· < ·)) ∧ Aside0 (Kd.R ptrK 102 wr w.heap.size (fun _ => True) v bs) ∧ Aside0 (Curs w wr bs ls (List.replicate bs.length 0)) ∧ Aside0 (Below w.heap.size w wr)) (fun xv _ _ => ls.length - (intOf xv).toNat)
    case atStart => exact ⟨0, [], rfl, by omega, by omega, ⟨rfl⟩, ⟨fun j hj => by simp at hj⟩, ⟨Kd.R_nil _ _ _ _ _⟩, ⟨⟨rfl, fun j hj => by simp at hj, by simp, fun b hb => by simp at hb⟩⟩, ⟨pw_below_drewN HB.out _⟩⟩
    case round =>
      obtain ⟨x, bs, rfl, hx0, hxl, HLen, HSo, HO, HCu, HB⟩ := hrel
      by_cases hlt : x < (ls.length : Int)
      · have hmem : rd_L1 ls x ∈ ls := by
          have h : x.toNat < ls.length := by omega
          show ls.getD x.toNat [] ∈ ls
          rw [List.getD_eq_getElem?_getD, List.getElem?_eq_getElem h]
          exact List.getElem_mem h
        obtain ⟨ad, A1, c1, e, hx1, hc1, hC1⟩ := at_L1 HR.out x hx0 (by omega)
        cases e
        have HGL : Aside0 (ls.getD x.toNat [] = rd_L1 ls x) := ⟨rfl⟩
        have hx2 : wr.cell? (ad.add x.toNat) = some (.slice A1 (rd_L1 ls x).length c1) := pw_cell_below HB.out hx1
        have HC1 := Aside0.mk hC1
        have hl1 : (rd_L1 ls x).length ≤ 1048576 := HL.out _ hmem
        clear hC1 hx1 hmem
        generalize rd_L1 ls x = l at *
        go_wp2
        go_loopw [6] (fun iv wi => ∃ i : Int, iv = .int .i64 (i + 1) ∧ 0 ≤ i ∧ i ≤ 1048576 ∧ Aside0 (∀ j, (h : j + 1 < l.length) → ((j : Int) < i) → l[j] < l[j + 1]) ∧ Aside0 (Below wr.heap.size wr wi)) (fun iv _ => l.length + 1 - (intOf iv).toNat)
        case atStart => exact ⟨0, rfl, by omega, by omega, ⟨fun j h1 h2 => by omega⟩, ⟨Below.refl _ _⟩⟩
        case round =>
          obtain ⟨i, rfl, hi1, hi2, HS, HBi⟩ := hrel
          have HB2 : Aside0 (Below w.heap.size w wr) := ⟨below_step HB.out HBi.out⟩
          by_cases hil : i + 1 < (l.length : Int)
          · have hn : i.toNat + 1 < l.length := by omega
            obtain ⟨ad1, e, hy0⟩ := Kd.at_int HC1.out (i + 1) (by omega) hil
            cases e
            obtain ⟨ad2, e, hz0⟩ := Kd.at_int HC1.out i (by omega) (by omega)
            cases e
            have hy1 : wr.cell? (ad1.add (i + 1).toNat) = some (.int .i64 (rd l (i + 1))) := pw_cell_below HB2.out hy0
            have hz1 : wr.cell? (ad1.add i.toNat) = some (.int .i64 (rd l i)) := pw_cell_below HB2.out hz0
            have hg2 : i < (l.length : Int) := by omega
            have hg3 : 0 ≤ i + 1 := by omega
            have HY : Aside0 (rd l (i + 1) = l[i.toNat + 1]'hn ∧ rd l i = l[i.toNat]'(by omega)) := ⟨by
              constructor
              · unfold rd; rw [List.getD_eq_getElem?_getD, show (i + 1).toNat = i.toNat + 1 by omega, List.getElem?_eq_getElem hn]; rfl
              · unfold rd; rw [List.getD_eq_getElem?_getD, List.getElem?_eq_getElem (show i.toNat < l.length by omega)]; rfl⟩
            clear hy0 hz0
            generalize rd l (i + 1) = y at *
            generalize rd l i = z at *
            by_cases hyz : y ≤ z
            · have HG : Aside0 (interR ls = []) := ⟨by
                unfold interR
                rw [if_neg]
                intro h
                have h2 := h.2 l (by rw [← HGL.out]; rw [List.getD_eq_getElem?_getD, List.getElem?_eq_getElem (show x.toNat < ls.length by omega)]; exact List.getElem_mem _)
                have h3 := List.pairwise_iff_getElem.1 h2 i.toNat (i.toNat + 1) (by omega) hn (by omega)
                rw [← HY.out.1, ← HY.out.2] at h3
                omega⟩
              clear HY
              go_wp2
              repeat (go_quiet (fail); try go_wp2)
              go_ret
              exact ⟨_, rfl, by rw [HG.out]; exact Kd.R_nil _ _ _ _ _, by repeat (first | exact HB2.out | apply pw_below_drewN | apply below_drew1)⟩
            · have HS2 : Aside0 (∀ j, (h : j + 1 < l.length) → ((j : Int) < i + 1) → l[j] < l[j + 1]) := ⟨fun j h1 h2 => by
                by_cases e : (j : Int) < i
                · exact HS.out j h1 e
                · have e1 : i.toNat = j := by omega
                  have h3 := HY.out
                  simp only [e1] at h3
                  rw [← h3.1, ← h3.2]; omega⟩
              clear HY
              go_wp2
              repeat (go_quiet (fail); try go_wp2)
              go_roundw
              case rel => exact ⟨i + 1, rfl, by omega, by omega, HS2, ⟨by repeat (first | exact HBi.out | apply pw_below_drewN | apply below_drew1)⟩⟩
              case measure => simp [intOf]; omega
          · have HPw : Aside0 (l.Pairwise (· < ·)) := ⟨pairwise_adj (fun j hj => HS.out j hj (by omega))⟩
            clear HS
            have HO2 : Aside0 (Kd.R ptrK 102 wr w.heap.size (fun _ => True) u3 bs) := ⟨Kd.R_below HO.out HBi.out⟩
            have HCu2 : Aside0 (Curs w wr bs ls (List.replicate bs.length 0)) := ⟨HCu.out.below HBi.out⟩
            go_wp2_with (first | ((with_reducible refine gate_builtin (b := .append) (xs := #[.tmp 39, .tmp 43]) rfl ?_); (try (refine gate_guard (by rfl) ?_; dsimp only)); at_builtin; refine Kd.R_append ptrK (w0 := w) w.heap.size rfl (.tmp 39) (.tmp 43) 101 102 (.pointer none) 8 rfl Try.underlying101 infoPtr rfl (by decide) (by omega) u3 bs wr.heap.size [.pointer (some ⟨wr.heap.size, 0, none⟩)] (fun _ => True) (fun _ => False) rfl ?aX ?aP (fun _ hk => hk.elim) ?aF ?aO ?aB ?aS ?aL ?_; (case aX => exact (congrArg (fun n => Value.slice (some ⟨n, 0, none⟩) 1 1) (alloc_size1 wr _).symm)); (case aP => exact rfl); (case aB => exact below_alloc HB2.out _); (case aF => exact (fun _ _ => trivial)); (case aO => exact Kd.R_alloc HO2.out _); (case aS => exact below_size (below_alloc HB2.out _)); (case aL => have := HLen.out; omega); intro v1 w2 ho hb hg hat; have n0_ := Aside0.mk hb; have n1_ := Aside0.mk ho; have n2_ := Aside0.mk (HCu2.out.snocd HC1.out hc1 (by rw [HLen.out]; exact HGL.out) (HB2.out.size) (Kd.R_alloc HO2.out _) hg); clear ho hb hg hat))
            go_roundw
            case rel => exact ⟨x + 1, bs ++ [_], rfl, by omega, by omega, ⟨by have := HLen.out; simp; omega⟩, ⟨fun j hj => by
                by_cases e : j < x.toNat
                · exact HSo.out j e
                · have e1 : j = x.toNat := by omega
                  rw [e1, HGL.out]; exact HPw.out⟩, n1_, n2_, n0_⟩
            case measure => simp [intOf]; omega
      · have hxe : x = (ls.length : Int) := by omega
        subst hxe
        rw [Int.toNat_natCast] at HLen HSo
        obtain ⟨A3, c3, rfl⟩ := Kd.R_slice HO.out
        have HG : Aside0 (interR ls = interF ls.length (fun j => ls.getD j [])) := ⟨by
          unfold interR
          have hall : ∀ l, l ∈ ls → l.Pairwise (· < ·) := by
            intro l hl
            obtain ⟨j, hj, rfl⟩ := List.getElem_of_mem hl
            have := HSo.out j hj
            rw [List.getD_eq_getElem?_getD, List.getElem?_eq_getElem hj] at this
            exact this
          rw [if_pos ⟨⟨by omega, by omega⟩, hall⟩]⟩
        rw [HLen.out] at HO
        rw [show bs.length = ls.length from HLen.out]
        have HSo2 : Aside0 (∀ j, j < ls.length → (ls.getD j []).Pairwise (· < ·) ∧ (ls.getD j []).length ≤ 1048576) := ⟨fun j hj => ⟨HSo.out j hj, HL.out _ (by rw [List.getD_eq_getElem?_getD, List.getElem?_eq_getElem hj]; exact List.getElem_mem _)⟩⟩
        obtain ⟨ad3, e3, _⟩ := ptr_at (Kd.R_reads' HO.out).2.2 0 (by have := HLen.out; omega)
        subst e3
        clear HSo
        go_wp2
        go_loopg [7, 8] (rest ls (List.replicate bs.length 0) * (ls.length + 1) + ls.length) (fun kq ov iv wr => ∃ (i : Nat) (out : List Int) (ats : List Nat), iv = .int .i64 (i : Int) ∧ i < ls.length ∧ Aside0 (Meas ls ats i kq) ∧ Aside0 (interR ls = out ++ interF ls.length (drops ls ats)) ∧ Aside0 (∀ j, j < ls.length → ats.getD j 0 ≤ (ls.getD j []).length) ∧ Aside0 (Kd.R (Kd.int .i64) 3 wr w.heap.size (fun _ => True) ov out) ∧ Aside0 (Kd.R ptrK 102 wr w.heap.size (fun _ => True) (.slice (some ad3) ls.length c3) bs) ∧ Aside0 (Curs w wr bs ls ats) ∧ Aside0 (Below w.heap.size w wr))
        case atStart => exact ⟨0, [], List.replicate bs.length 0, rfl, by omega, ⟨meas_any _ _ _ (by omega)⟩, ⟨by rw [HG.out, List.nil_append]; congr 1; funext j; unfold drops; rw [rep0]; rfl⟩, ⟨fun j hj => by rw [rep0]; omega⟩, ⟨Kd.R_nil _ _ _ _ _⟩, HO, HCu, HB⟩
        case round =>
          clear HO HCu HB
          obtain ⟨i, out, ats, rfl, hin, HM, HI, HAt, HOut, HP, HCu, HB⟩ := hrel
          obtain ⟨W0, hW0⟩ : ∃ W0, W0 = wr := ⟨_, rfl⟩
          subst hW0
          obtain ⟨_, e0, hq0⟩ := ptr_at (Kd.R_reads' HP.out).2.2 0 (by have := HLen.out; omega)
          cases e0
          obtain ⟨b0, hb0⟩ : ∃ b0, rdOf 0 bs ((0 : Nat) : Int) = b0 := ⟨_, rfl⟩
          rw [hb0, add0] at hq0
          have HB0 := Aside0.mk hb0
          have HQ0 := Aside0.mk hq0
          clear hb0
          go_wp2
          go_loopw [9, 10, 56] (fun agv topv idx wr => ∃ (y t bt : Nat) (ag : Bool), agv = .bool ag ∧ topv = .pointer (some ⟨bt, 0, none⟩) ∧ idx = .int .i64 (y : Int) ∧ y ≤ ls.length ∧ t < ls.length ∧ Aside0 (rdOf 0 bs (t : Int) = bt) ∧ Aside0 (ag = true ↔ ∀ j, j < y → vl ls ats j = vl ls ats 0) ∧ Aside0 (ag = true → t = 0) ∧ Aside0 (∀ j, j < y → vl ls ats j ≤ vl ls ats t) ∧ Aside0 (∀ j, j < y → ats.getD j 0 < (ls.getD j []).length) ∧ Aside0 (t < y ∨ (y = 0 ∧ t = 0)) ∧ ∃ m, wr = W0.drewN m) (fun _ _ idx _ => ls.length - (intOf idx).toNat)
          case atStart => exact ⟨0, 0, b0, true, rfl, rfl, rfl, by omega, by omega, HB0, ⟨by constructor; (intro _ j hj; omega); (intro _; rfl)⟩, ⟨fun _ => rfl⟩, ⟨fun j hj => by omega⟩, ⟨fun j hj => by omega⟩, ⟨.inr ⟨rfl, rfl⟩⟩, ⟨0, rfl⟩⟩
          case round =>
            clear hq0
            obtain ⟨y, t, bt, ag, rfl, rfl, rfl, hyl, htl, HBt, HAg, HAt0, HMx, HNd, HTy, ⟨m, rfl⟩⟩ := hrel
            by_cases hlt : y < ls.length
            · obtain ⟨_, e1, hqy⟩ := ptr_at (Kd.R_reads' HP.out).2.2 y (by have := HLen.out; omega)
              cases e1
              obtain ⟨by_, hby⟩ : ∃ by_, rdOf 0 bs (y : Int) = by_ := ⟨_, rfl⟩
              rw [hby] at hqy
              have HBy := Aside0.mk hby
              clear hby
              have hqy2 : (W0.drewN m).cell? (ad3.add y) = some (.pointer (some ⟨by_, 0, none⟩)) := hqy
              have hq02 : (W0.drewN m).cell? ad3 = some (.pointer (some ⟨b0, 0, none⟩)) := HQ0.out
              have hq03 : W0.cell? ad3 = some (.pointer (some ⟨b0, 0, none⟩)) := HQ0.out
              have hlti : (y : Int) < (ls.length : Int) := by omega
              have HDn := Aside0.mk (HCu.out.done_ (by rw [HLen.out]; exact hlt) HBy.out)
              clear hqy
              by_cases hdn : (ls.getD y []).length ≤ ats.getD y 0
              · have HRes : Aside0 (interR ls = out) := ⟨by
                  rw [HI.out, interF_done hlt (by unfold drops; exact List.drop_eq_nil_of_le hdn), List.append_nil]⟩
                rw [decide_eq_true hdn] at HDn
                clear hdn
                go_wp2_with (first | (go_at_call 66; (with_reducible refine (HDn.out _ (by first | exact ⟨0, rfl⟩ | exact ⟨_, rfl⟩)).mono ?_); rintro e w1 ⟨rfl, ⟨n1, rfl⟩⟩))
                go_ret
                exact ⟨_, rfl, by rw [HRes.out]; exact Kd.R_drewN HOut.out _, pw_below_drewN HB.out _⟩
              · rw [decide_eq_false hdn] at HDn
                have hd0 : ats.getD 0 0 < (ls.getD 0 []).length := by
                  by_cases e : y = 0
                  · subst e; omega
                  · exact HNd.out 0 (by omega)
                have hdt : ats.getD t 0 < (ls.getD t []).length := by
                  rcases HTy.out with h | ⟨h1, h2⟩
                  · exact HNd.out t h
                  · subst h2; exact hd0
                have HNd2 : Aside0 (∀ j, j < y + 1 → ats.getD j 0 < (ls.getD j []).length) := ⟨fun j hj => by
                  by_cases e : j = y
                  · subst e; omega
                  · exact HNd.out j (by omega)⟩
                have HVy := Aside0.mk (HCu.out.value_ HB.out (by rw [HLen.out]; exact hlt) HBy.out (by omega))
                have HV0 := Aside0.mk (HCu.out.value_ HB.out (j := 0) (by rw [HLen.out]; omega) HB0.out hd0)
                have HVt := Aside0.mk (HCu.out.value_ HB.out (by rw [HLen.out]; exact htl) HBt.out hdt)
                clear hdn hd0 hdt
                obtain ⟨vy, hvy⟩ : ∃ v, vl ls ats y = v := ⟨_, rfl⟩
                obtain ⟨v0, hv0⟩ : ∃ v, vl ls ats 0 = v := ⟨_, rfl⟩
                obtain ⟨vt, hvt⟩ : ∃ v, vl ls ats t = v := ⟨_, rfl⟩
                rw [hvy] at HVy
                rw [hv0] at HV0
                rw [hvt] at HVt
                have HX : Aside0 (vl ls ats y = vy ∧ vl ls ats 0 = v0 ∧ vl ls ats t = vt) := ⟨hvy, hv0, hvt⟩
                clear hvy hv0 hvt
                by_cases hG : vt < vy
                · have q1 : decide (vt < vy) = true := decide_eq_true hG
                  have HMx2 : Aside0 (∀ j, j < y + 1 → vl ls ats j ≤ vl ls ats y) := ⟨fun j hj => by
                    by_cases e : j = y
                    · rw [e]; exact Int.le_refl _
                    · have h1 := HMx.out j (by omega); have h2 := HX.out; omega⟩
                  cases ag with
                  | true =>
                    have hE : ¬ vy = v0 := by
                      intro h
                      have h1 := HAt0.out rfl
                      have h2 := HX.out
                      rw [h1] at h2
                      omega
                    have q2 : (vy == v0) = false := by simp [hE]
                    have q3 : decide (vy = v0) = false := decide_eq_false hE
                    have HAg2 : Aside0 (¬ ∀ j, j < y + 1 → vl ls ats j = vl ls ats 0) := ⟨fun h => by have h2 := (ag_step HAg.out).2 h; rw [HX.out.1, HX.out.2.1] at h2; exact hE h2.2⟩
                    go_wp2_with (first | (go_at_call 66; (with_reducible refine (HDn.out _ (by first | exact ⟨0, rfl⟩ | exact ⟨_, rfl⟩ | exact ⟨_, World.drewN_drewN _ _ _⟩)).mono ?_); rintro e w1 ⟨rfl, ⟨n1, rfl⟩⟩) | (go_at_call 67; (with_reducible refine (HVy.out _ (by first | exact ⟨0, rfl⟩ | exact ⟨_, rfl⟩ | exact ⟨_, World.drewN_drewN _ _ _⟩ | exact ⟨_, (World.drewN_drewN _ _ _).trans (World.drewN_drewN _ _ _)⟩)).mono ?_); rintro e w1 ⟨rfl, ⟨n1, rfl⟩⟩) | (go_at_call 67; (with_reducible refine (HV0.out _ (by first | exact ⟨0, rfl⟩ | exact ⟨_, rfl⟩ | exact ⟨_, World.drewN_drewN _ _ _⟩ | exact ⟨_, (World.drewN_drewN _ _ _).trans (World.drewN_drewN _ _ _)⟩)).mono ?_); rintro e w1 ⟨rfl, ⟨n1, rfl⟩⟩) | (go_at_call 67; (with_reducible refine (HVt.out _ (by first | exact ⟨0, rfl⟩ | exact ⟨_, rfl⟩ | exact ⟨_, World.drewN_drewN _ _ _⟩ | exact ⟨_, (World.drewN_drewN _ _ _).trans (World.drewN_drewN _ _ _)⟩)).mono ?_); rintro e w1 ⟨rfl, ⟨n1, rfl⟩⟩))
                    repeat (go_quiet (first | (go_at_call 67; (with_reducible refine (HVy.out _ (by first | exact ⟨0, rfl⟩ | exact ⟨_, rfl⟩ | exact ⟨_, World.drewN_drewN _ _ _⟩ | exact ⟨_, (World.drewN_drewN _ _ _).trans (World.drewN_drewN _ _ _)⟩)).mono ?_); intro e w1 hh; first | exact ⟨hh.1, quiet_plus hh.2⟩ | exact ⟨hh.1, quiet_more hh.2⟩) | (go_at_call 67; (with_reducible refine (HV0.out _ (by first | exact ⟨0, rfl⟩ | exact ⟨_, rfl⟩ | exact ⟨_, World.drewN_drewN _ _ _⟩ | exact ⟨_, (World.drewN_drewN _ _ _).trans (World.drewN_drewN _ _ _)⟩)).mono ?_); intro e w1 hh; first | exact ⟨hh.1, quiet_plus hh.2⟩ | exact ⟨hh.1, quiet_more hh.2⟩) | (go_at_call 67; (with_reducible refine (HVt.out _ (by first | exact ⟨0, rfl⟩ | exact ⟨_, rfl⟩ | exact ⟨_, World.drewN_drewN _ _ _⟩ | exact ⟨_, (World.drewN_drewN _ _ _).trans (World.drewN_drewN _ _ _)⟩)).mono ?_); intro e w1 hh; first | exact ⟨hh.1, quiet_plus hh.2⟩ | exact ⟨hh.1, quiet_more hh.2⟩)); try go_wp2_with (first | (go_at_call 66; (with_reducible refine (HDn.out _ (by first | exact ⟨0, rfl⟩ | exact ⟨_, rfl⟩ | exact ⟨_, World.drewN_drewN _ _ _⟩)).mono ?_); rintro e w1 ⟨rfl, ⟨n1, rfl⟩⟩) | (go_at_call 67; (with_reducible refine (HVy.out _ (by first | exact ⟨0, rfl⟩ | exact ⟨_, rfl⟩ | exact ⟨_, World.drewN_drewN _ _ _⟩ | exact ⟨_, (World.drewN_drewN _ _ _).trans (World.drewN_drewN _ _ _)⟩)).mono ?_); rintro e w1 ⟨rfl, ⟨n1, rfl⟩⟩) | (go_at_call 67; (with_reducible refine (HV0.out _ (by first | exact ⟨0, rfl⟩ | exact ⟨_, rfl⟩ | exact ⟨_, World.drewN_drewN _ _ _⟩ | exact ⟨_, (World.drewN_drewN _ _ _).trans (World.drewN_drewN _ _ _)⟩)).mono ?_); rintro e w1 ⟨rfl, ⟨n1, rfl⟩⟩) | (go_at_call 67; (with_reducible refine (HVt.out _ (by first | exact ⟨0, rfl⟩ | exact ⟨_, rfl⟩ | exact ⟨_, World.drewN_drewN _ _ _⟩ | exact ⟨_, (World.drewN_drewN _ _ _).trans (World.drewN_drewN _ _ _)⟩)).mono ?_); rintro e w1 ⟨rfl, ⟨n1, rfl⟩⟩)))
                    go_roundw
                    case rel => exact ⟨y + 1, y, by_, false, rfl, rfl, by simp, by omega, hlt, HBy, ⟨⟨fun h => (Bool.false_ne_true h).elim, fun h => (HAg2.out h).elim⟩⟩, ⟨fun h => by cases h⟩, HMx2, HNd2, ⟨.inl (by omega)⟩, by first | exact ⟨_, rfl⟩ | exact ⟨_, World.drewN_drewN _ _ _⟩ | exact ⟨_, (congrArg (fun w => World.drewN w _) (World.drewN_drewN _ _ _)).trans (World.drewN_drewN _ _ _)⟩⟩
                    case measure => simp [intOf]; omega
                  | false =>
                    have HAg2 : Aside0 (¬ ∀ j, j < y + 1 → vl ls ats j = vl ls ats 0) := ⟨fun h => by have h2 := (ag_step HAg.out).2 h; exact absurd h2.1 (by simp)⟩
                    go_wp2_with (first | (go_at_call 66; (with_reducible refine (HDn.out _ (by first | exact ⟨0, rfl⟩ | exact ⟨_, rfl⟩ | exact ⟨_, World.drewN_drewN _ _ _⟩)).mono ?_); rintro e w1 ⟨rfl, ⟨n1, rfl⟩⟩) | (go_at_call 67; (with_reducible refine (HVy.out _ (by first | exact ⟨0, rfl⟩ | exact ⟨_, rfl⟩ | exact ⟨_, World.drewN_drewN _ _ _⟩ | exact ⟨_, (World.drewN_drewN _ _ _).trans (World.drewN_drewN _ _ _)⟩)).mono ?_); rintro e w1 ⟨rfl, ⟨n1, rfl⟩⟩) | (go_at_call 67; (with_reducible refine (HV0.out _ (by first | exact ⟨0, rfl⟩ | exact ⟨_, rfl⟩ | exact ⟨_, World.drewN_drewN _ _ _⟩ | exact ⟨_, (World.drewN_drewN _ _ _).trans (World.drewN_drewN _ _ _)⟩)).mono ?_); rintro e w1 ⟨rfl, ⟨n1, rfl⟩⟩) | (go_at_call 67; (with_reducible refine (HVt.out _ (by first | exact ⟨0, rfl⟩ | exact ⟨_, rfl⟩ | exact ⟨_, World.drewN_drewN _ _ _⟩ | exact ⟨_, (World.drewN_drewN _ _ _).trans (World.drewN_drewN _ _ _)⟩)).mono ?_); rintro e w1 ⟨rfl, ⟨n1, rfl⟩⟩))
                    repeat (go_quiet (first | (go_at_call 67; (with_reducible refine (HVy.out _ (by first | exact ⟨0, rfl⟩ | exact ⟨_, rfl⟩ | exact ⟨_, World.drewN_drewN _ _ _⟩ | exact ⟨_, (World.drewN_drewN _ _ _).trans (World.drewN_drewN _ _ _)⟩)).mono ?_); intro e w1 hh; first | exact ⟨hh.1, quiet_plus hh.2⟩ | exact ⟨hh.1, quiet_more hh.2⟩) | (go_at_call 67; (with_reducible refine (HV0.out _ (by first | exact ⟨0, rfl⟩ | exact ⟨_, rfl⟩ | exact ⟨_, World.drewN_drewN _ _ _⟩ | exact ⟨_, (World.drewN_drewN _ _ _).trans (World.drewN_drewN _ _ _)⟩)).mono ?_); intro e w1 hh; first | exact ⟨hh.1, quiet_plus hh.2⟩ | exact ⟨hh.1, quiet_more hh.2⟩) | (go_at_call 67; (with_reducible refine (HVt.out _ (by first | exact ⟨0, rfl⟩ | exact ⟨_, rfl⟩ | exact ⟨_, World.drewN_drewN _ _ _⟩ | exact ⟨_, (World.drewN_drewN _ _ _).trans (World.drewN_drewN _ _ _)⟩)).mono ?_); intro e w1 hh; first | exact ⟨hh.1, quiet_plus hh.2⟩ | exact ⟨hh.1, quiet_more hh.2⟩)); try go_wp2_with (first | (go_at_call 66; (with_reducible refine (HDn.out _ (by first | exact ⟨0, rfl⟩ | exact ⟨_, rfl⟩ | exact ⟨_, World.drewN_drewN _ _ _⟩)).mono ?_); rintro e w1 ⟨rfl, ⟨n1, rfl⟩⟩) | (go_at_call 67; (with_reducible refine (HVy.out _ (by first | exact ⟨0, rfl⟩ | exact ⟨_, rfl⟩ | exact ⟨_, World.drewN_drewN _ _ _⟩ | exact ⟨_, (World.drewN_drewN _ _ _).trans (World.drewN_drewN _ _ _)⟩)).mono ?_); rintro e w1 ⟨rfl, ⟨n1, rfl⟩⟩) | (go_at_call 67; (with_reducible refine (HV0.out _ (by first | exact ⟨0, rfl⟩ | exact ⟨_, rfl⟩ | exact ⟨_, World.drewN_drewN _ _ _⟩ | exact ⟨_, (World.drewN_drewN _ _ _).trans (World.drewN_drewN _ _ _)⟩)).mono ?_); rintro e w1 ⟨rfl, ⟨n1, rfl⟩⟩) | (go_at_call 67; (with_reducible refine (HVt.out _ (by first | exact ⟨0, rfl⟩ | exact ⟨_, rfl⟩ | exact ⟨_, World.drewN_drewN _ _ _⟩ | exact ⟨_, (World.drewN_drewN _ _ _).trans (World.drewN_drewN _ _ _)⟩)).mono ?_); rintro e w1 ⟨rfl, ⟨n1, rfl⟩⟩)))
                    go_roundw
                    case rel => exact ⟨y + 1, y, by_, false, rfl, rfl, by simp, by omega, hlt, HBy, ⟨⟨fun h => (Bool.false_ne_true h).elim, fun h => (HAg2.out h).elim⟩⟩, ⟨fun h => by cases h⟩, HMx2, HNd2, ⟨.inl (by omega)⟩, by first | exact ⟨_, rfl⟩ | exact ⟨_, World.drewN_drewN _ _ _⟩ | exact ⟨_, (congrArg (fun w => World.drewN w _) (World.drewN_drewN _ _ _)).trans (World.drewN_drewN _ _ _)⟩⟩
                    case measure => simp [intOf]; omega
                · have q1 : decide (vt < vy) = false := decide_eq_false hG
                  have HMx2 : Aside0 (∀ j, j < y + 1 → vl ls ats j ≤ vl ls ats t) := ⟨fun j hj => by
                    by_cases e : j = y
                    · rw [e]; have h2 := HX.out; omega
                    · exact HMx.out j (by omega)⟩
                  cases ag with
                  | true =>
                    by_cases hE : vy = v0
                    · have q2 : (vy == v0) = true := by simp [hE]
                      have q3 : decide (vy = v0) = true := decide_eq_true hE
                      have HAg2 : Aside0 (∀ j, j < y + 1 → vl ls ats j = vl ls ats 0) := ⟨(ag_step HAg.out).1 ⟨rfl, by rw [HX.out.1, HX.out.2.1]; exact hE⟩⟩
                      have HT0 : Aside0 (t = 0) := ⟨HAt0.out rfl⟩
                      go_wp2_with (first | (go_at_call 66; (with_reducible refine (HDn.out _ (by first | exact ⟨0, rfl⟩ | exact ⟨_, rfl⟩ | exact ⟨_, World.drewN_drewN _ _ _⟩)).mono ?_); rintro e w1 ⟨rfl, ⟨n1, rfl⟩⟩) | (go_at_call 67; (with_reducible refine (HVy.out _ (by first | exact ⟨0, rfl⟩ | exact ⟨_, rfl⟩ | exact ⟨_, World.drewN_drewN _ _ _⟩ | exact ⟨_, (World.drewN_drewN _ _ _).trans (World.drewN_drewN _ _ _)⟩)).mono ?_); rintro e w1 ⟨rfl, ⟨n1, rfl⟩⟩) | (go_at_call 67; (with_reducible refine (HV0.out _ (by first | exact ⟨0, rfl⟩ | exact ⟨_, rfl⟩ | exact ⟨_, World.drewN_drewN _ _ _⟩ | exact ⟨_, (World.drewN_drewN _ _ _).trans (World.drewN_drewN _ _ _)⟩)).mono ?_); rintro e w1 ⟨rfl, ⟨n1, rfl⟩⟩) | (go_at_call 67; (with_reducible refine (HVt.out _ (by first | exact ⟨0, rfl⟩ | exact ⟨_, rfl⟩ | exact ⟨_, World.drewN_drewN _ _ _⟩ | exact ⟨_, (World.drewN_drewN _ _ _).trans (World.drewN_drewN _ _ _)⟩)).mono ?_); rintro e w1 ⟨rfl, ⟨n1, rfl⟩⟩))
                      repeat (go_quiet (first | (go_at_call 67; (with_reducible refine (HVy.out _ (by first | exact ⟨0, rfl⟩ | exact ⟨_, rfl⟩ | exact ⟨_, World.drewN_drewN _ _ _⟩ | exact ⟨_, (World.drewN_drewN _ _ _).trans (World.drewN_drewN _ _ _)⟩)).mono ?_); intro e w1 hh; first | exact ⟨hh.1, quiet_plus hh.2⟩ | exact ⟨hh.1, quiet_more hh.2⟩) | (go_at_call 67; (with_reducible refine (HV0.out _ (by first | exact ⟨0, rfl⟩ | exact ⟨_, rfl⟩ | exact ⟨_, World.drewN_drewN _ _ _⟩ | exact ⟨_, (World.drewN_drewN _ _ _).trans (World.drewN_drewN _ _ _)⟩)).mono ?_); intro e w1 hh; first | exact ⟨hh.1, quiet_plus hh.2⟩ | exact ⟨hh.1, quiet_more hh.2⟩) | (go_at_call 67; (with_reducible refine (HVt.out _ (by first | exact ⟨0, rfl⟩ | exact ⟨_, rfl⟩ | exact ⟨_, World.drewN_drewN _ _ _⟩ | exact ⟨_, (World.drewN_drewN _ _ _).trans (World.drewN_drewN _ _ _)⟩)).mono ?_); intro e w1 hh; first | exact ⟨hh.1, quiet_plus hh.2⟩ | exact ⟨hh.1, quiet_more hh.2⟩)); try go_wp2_with (first | (go_at_call 66; (with_reducible refine (HDn.out _ (by first | exact ⟨0, rfl⟩ | exact ⟨_, rfl⟩ | exact ⟨_, World.drewN_drewN _ _ _⟩)).mono ?_); rintro e w1 ⟨rfl, ⟨n1, rfl⟩⟩) | (go_at_call 67; (with_reducible refine (HVy.out _ (by first | exact ⟨0, rfl⟩ | exact ⟨_, rfl⟩ | exact ⟨_, World.drewN_drewN _ _ _⟩ | exact ⟨_, (World.drewN_drewN _ _ _).trans (World.drewN_drewN _ _ _)⟩)).mono ?_); rintro e w1 ⟨rfl, ⟨n1, rfl⟩⟩) | (go_at_call 67; (with_reducible refine (HV0.out _ (by first | exact ⟨0, rfl⟩ | exact ⟨_, rfl⟩ | exact ⟨_, World.drewN_drewN _ _ _⟩ | exact ⟨_, (World.drewN_drewN _ _ _).trans (World.drewN_drewN _ _ _)⟩)).mono ?_); rintro e w1 ⟨rfl, ⟨n1, rfl⟩⟩) | (go_at_call 67; (with_reducible refine (HVt.out _ (by first | exact ⟨0, rfl⟩ | exact ⟨_, rfl⟩ | exact ⟨_, World.drewN_drewN _ _ _⟩ | exact ⟨_, (World.drewN_drewN _ _ _).trans (World.drewN_drewN _ _ _)⟩)).mono ?_); rintro e w1 ⟨rfl, ⟨n1, rfl⟩⟩)))
                      go_roundw
                      case rel => exact ⟨y + 1, t, bt, true, rfl, rfl, by simp, by omega, htl, HBt, ⟨⟨fun _ => HAg2.out, fun _ => rfl⟩⟩, ⟨fun _ => HT0.out⟩, HMx2, HNd2, ⟨.inl (by have := HTy.out; omega)⟩, by first | exact ⟨_, rfl⟩ | exact ⟨_, World.drewN_drewN _ _ _⟩ | exact ⟨_, (congrArg (fun w => World.drewN w _) (World.drewN_drewN _ _ _)).trans (World.drewN_drewN _ _ _)⟩⟩
                      case measure => simp [intOf]; omega
                    · have q2 : (vy == v0) = false := by simp [hE]
                      have q3 : decide (vy = v0) = false := decide_eq_false hE
                      have HAg2 : Aside0 (¬ ∀ j, j < y + 1 → vl ls ats j = vl ls ats 0) := ⟨fun h => by have h2 := (ag_step HAg.out).2 h; rw [HX.out.1, HX.out.2.1] at h2; exact hE h2.2⟩
                      go_wp2_with (first | (go_at_call 66; (with_reducible refine (HDn.out _ (by first | exact ⟨0, rfl⟩ | exact ⟨_, rfl⟩ | exact ⟨_, World.drewN_drewN _ _ _⟩)).mono ?_); rintro e w1 ⟨rfl, ⟨n1, rfl⟩⟩) | (go_at_call 67; (with_reducible refine (HVy.out _ (by first | exact ⟨0, rfl⟩ | exact ⟨_, rfl⟩ | exact ⟨_, World.drewN_drewN _ _ _⟩ | exact ⟨_, (World.drewN_drewN _ _ _).trans (World.drewN_drewN _ _ _)⟩)).mono ?_); rintro e w1 ⟨rfl, ⟨n1, rfl⟩⟩) | (go_at_call 67; (with_reducible refine (HV0.out _ (by first | exact ⟨0, rfl⟩ | exact ⟨_, rfl⟩ | exact ⟨_, World.drewN_drewN _ _ _⟩ | exact ⟨_, (World.drewN_drewN _ _ _).trans (World.drewN_drewN _ _ _)⟩)).mono ?_); rintro e w1 ⟨rfl, ⟨n1, rfl⟩⟩) | (go_at_call 67; (with_reducible refine (HVt.out _ (by first | exact ⟨0, rfl⟩ | exact ⟨_, rfl⟩ | exact ⟨_, World.drewN_drewN _ _ _⟩ | exact ⟨_, (World.drewN_drewN _ _ _).trans (World.drewN_drewN _ _ _)⟩)).mono ?_); rintro e w1 ⟨rfl, ⟨n1, rfl⟩⟩))
                      repeat (go_quiet (first | (go_at_call 67; (with_reducible refine (HVy.out _ (by first | exact ⟨0, rfl⟩ | exact ⟨_, rfl⟩ | exact ⟨_, World.drewN_drewN _ _ _⟩ | exact ⟨_, (World.drewN_drewN _ _ _).trans (World.drewN_drewN _ _ _)⟩)).mono ?_); intro e w1 hh; first | exact ⟨hh.1, quiet_plus hh.2⟩ | exact ⟨hh.1, quiet_more hh.2⟩) | (go_at_call 67; (with_reducible refine (HV0.out _ (by first | exact ⟨0, rfl⟩ | exact ⟨_, rfl⟩ | exact ⟨_, World.drewN_drewN _ _ _⟩ | exact ⟨_, (World.drewN_drewN _ _ _).trans (World.drewN_drewN _ _ _)⟩)).mono ?_); intro e w1 hh; first | exact ⟨hh.1, quiet_plus hh.2⟩ | exact ⟨hh.1, quiet_more hh.2⟩) | (go_at_call 67; (with_reducible refine (HVt.out _ (by first | exact ⟨0, rfl⟩ | exact ⟨_, rfl⟩ | exact ⟨_, World.drewN_drewN _ _ _⟩ | exact ⟨_, (World.drewN_drewN _ _ _).trans (World.drewN_drewN _ _ _)⟩)).mono ?_); intro e w1 hh; first | exact ⟨hh.1, quiet_plus hh.2⟩ | exact ⟨hh.1, quiet_more hh.2⟩)); try go_wp2_with (first | (go_at_call 66; (with_reducible refine (HDn.out _ (by first | exact ⟨0, rfl⟩ | exact ⟨_, rfl⟩ | exact ⟨_, World.drewN_drewN _ _ _⟩)).mono ?_); rintro e w1 ⟨rfl, ⟨n1, rfl⟩⟩) | (go_at_call 67; (with_reducible refine (HVy.out _ (by first | exact ⟨0, rfl⟩ | exact ⟨_, rfl⟩ | exact ⟨_, World.drewN_drewN _ _ _⟩ | exact ⟨_, (World.drewN_drewN _ _ _).trans (World.drewN_drewN _ _ _)⟩)).mono ?_); rintro e w1 ⟨rfl, ⟨n1, rfl⟩⟩) | (go_at_call 67; (with_reducible refine (HV0.out _ (by first | exact ⟨0, rfl⟩ | exact ⟨_, rfl⟩ | exact ⟨_, World.drewN_drewN _ _ _⟩ | exact ⟨_, (World.drewN_drewN _ _ _).trans (World.drewN_drewN _ _ _)⟩)).mono ?_); rintro e w1 ⟨rfl, ⟨n1, rfl⟩⟩) | (go_at_call 67; (with_reducible refine (HVt.out _ (by first | exact ⟨0, rfl⟩ | exact ⟨_, rfl⟩ | exact ⟨_, World.drewN_drewN _ _ _⟩ | exact ⟨_, (World.drewN_drewN _ _ _).trans (World.drewN_drewN _ _ _)⟩)).mono ?_); rintro e w1 ⟨rfl, ⟨n1, rfl⟩⟩)))
                      go_roundw
                      case rel => exact ⟨y + 1, t, bt, false, rfl, rfl, by simp, by omega, htl, HBt, ⟨⟨fun h => (Bool.false_ne_true h).elim, fun h => (HAg2.out h).elim⟩⟩, ⟨fun h => by cases h⟩, HMx2, HNd2, ⟨.inl (by have := HTy.out; omega)⟩, by first | exact ⟨_, rfl⟩ | exact ⟨_, World.drewN_drewN _ _ _⟩ | exact ⟨_, (congrArg (fun w => World.drewN w _) (World.drewN_drewN _ _ _)).trans (World.drewN_drewN _ _ _)⟩⟩
                      case measure => simp [intOf]; omega
                  | false =>
                    have HAg2 : Aside0 (¬ ∀ j, j < y + 1 → vl ls ats j = vl ls ats 0) := ⟨fun h => by have h2 := (ag_step HAg.out).2 h; exact absurd h2.1 (by simp)⟩
                    go_wp2_with (first | (go_at_call 66; (with_reducible refine (HDn.out _ (by first | exact ⟨0, rfl⟩ | exact ⟨_, rfl⟩ | exact ⟨_, World.drewN_drewN _ _ _⟩)).mono ?_); rintro e w1 ⟨rfl, ⟨n1, rfl⟩⟩) | (go_at_call 67; (with_reducible refine (HVy.out _ (by first | exact ⟨0, rfl⟩ | exact ⟨_, rfl⟩ | exact ⟨_, World.drewN_drewN _ _ _⟩ | exact ⟨_, (World.drewN_drewN _ _ _).trans (World.drewN_drewN _ _ _)⟩)).mono ?_); rintro e w1 ⟨rfl, ⟨n1, rfl⟩⟩) | (go_at_call 67; (with_reducible refine (HV0.out _ (by first | exact ⟨0, rfl⟩ | exact ⟨_, rfl⟩ | exact ⟨_, World.drewN_drewN _ _ _⟩ | exact ⟨_, (World.drewN_drewN _ _ _).trans (World.drewN_drewN _ _ _)⟩)).mono ?_); rintro e w1 ⟨rfl, ⟨n1, rfl⟩⟩) | (go_at_call 67; (with_reducible refine (HVt.out _ (by first | exact ⟨0, rfl⟩ | exact ⟨_, rfl⟩ | exact ⟨_, World.drewN_drewN _ _ _⟩ | exact ⟨_, (World.drewN_drewN _ _ _).trans (World.drewN_drewN _ _ _)⟩)).mono ?_); rintro e w1 ⟨rfl, ⟨n1, rfl⟩⟩))
                    repeat (go_quiet (first | (go_at_call 67; (with_reducible refine (HVy.out _ (by first | exact ⟨0, rfl⟩ | exact ⟨_, rfl⟩ | exact ⟨_, World.drewN_drewN _ _ _⟩ | exact ⟨_, (World.drewN_drewN _ _ _).trans (World.drewN_drewN _ _ _)⟩)).mono ?_); intro e w1 hh; first | exact ⟨hh.1, quiet_plus hh.2⟩ | exact ⟨hh.1, quiet_more hh.2⟩) | (go_at_call 67; (with_reducible refine (HV0.out _ (by first | exact ⟨0, rfl⟩ | exact ⟨_, rfl⟩ | exact ⟨_, World.drewN_drewN _ _ _⟩ | exact ⟨_, (World.drewN_drewN _ _ _).trans (World.drewN_drewN _ _ _)⟩)).mono ?_); intro e w1 hh; first | exact ⟨hh.1, quiet_plus hh.2⟩ | exact ⟨hh.1, quiet_more hh.2⟩) | (go_at_call 67; (with_reducible refine (HVt.out _ (by first | exact ⟨0, rfl⟩ | exact ⟨_, rfl⟩ | exact ⟨_, World.drewN_drewN _ _ _⟩ | exact ⟨_, (World.drewN_drewN _ _ _).trans (World.drewN_drewN _ _ _)⟩)).mono ?_); intro e w1 hh; first | exact ⟨hh.1, quiet_plus hh.2⟩ | exact ⟨hh.1, quiet_more hh.2⟩)); try go_wp2_with (first | (go_at_call 66; (with_reducible refine (HDn.out _ (by first | exact ⟨0, rfl⟩ | exact ⟨_, rfl⟩ | exact ⟨_, World.drewN_drewN _ _ _⟩)).mono ?_); rintro e w1 ⟨rfl, ⟨n1, rfl⟩⟩) | (go_at_call 67; (with_reducible refine (HVy.out _ (by first | exact ⟨0, rfl⟩ | exact ⟨_, rfl⟩ | exact ⟨_, World.drewN_drewN _ _ _⟩ | exact ⟨_, (World.drewN_drewN _ _ _).trans (World.drewN_drewN _ _ _)⟩)).mono ?_); rintro e w1 ⟨rfl, ⟨n1, rfl⟩⟩) | (go_at_call 67; (with_reducible refine (HV0.out _ (by first | exact ⟨0, rfl⟩ | exact ⟨_, rfl⟩ | exact ⟨_, World.drewN_drewN _ _ _⟩ | exact ⟨_, (World.drewN_drewN _ _ _).trans (World.drewN_drewN _ _ _)⟩)).mono ?_); rintro e w1 ⟨rfl, ⟨n1, rfl⟩⟩) | (go_at_call 67; (with_reducible refine (HVt.out _ (by first | exact ⟨0, rfl⟩ | exact ⟨_, rfl⟩ | exact ⟨_, World.drewN_drewN _ _ _⟩ | exact ⟨_, (World.drewN_drewN _ _ _).trans (World.drewN_drewN _ _ _)⟩)).mono ?_); rintro e w1 ⟨rfl, ⟨n1, rfl⟩⟩)))
                    go_roundw
                    case rel => exact ⟨y + 1, t, bt, false, rfl, rfl, by simp, by omega, htl, HBt, ⟨⟨fun h => (Bool.false_ne_true h).elim, fun h => (HAg2.out h).elim⟩⟩, ⟨fun h => by cases h⟩, HMx2, HNd2, ⟨.inl (by have := HTy.out; omega)⟩, by first | exact ⟨_, rfl⟩ | exact ⟨_, World.drewN_drewN _ _ _⟩ | exact ⟨_, (congrArg (fun w => World.drewN w _) (World.drewN_drewN _ _ _)).trans (World.drewN_drewN _ _ _)⟩⟩
                    case measure => simp [intOf]; omega
            · have hyn : y = ls.length := by omega
              subst hyn
              clear hlt
              have e9 : decide ((ls.length : Int) < (ls.length : Int)) = false := decide_eq_false (by omega)
              have HVt := Aside0.mk (HCu.out.value_ HB.out (by rw [HLen.out]; exact htl) HBt.out (HNd.out t htl))
              cases ag with
              | true =>
                have ht0 : t = 0 := HAt0.out rfl
                subst ht0
                have HI2 := Aside0.mk (inv_agree (by rw [HCu.out.len, HLen.out]) htl HNd.out (HAg.out.1 rfl) HI.out)
                obtain ⟨g', hg', hM'⟩ := meas_agree HM.out (by rw [HCu.out.len, HLen.out]) htl (HNd.out 0 htl)
                have HLo : Aside0 (out.length ≤ 1048576) := ⟨by
                  have h1 := congrArg List.length HI.out
                  rw [List.length_append] at h1
                  have h2 := interF_len ls.length (fun j => ls.getD j [])
                  rw [← HG.out] at h2
                  have h3 := (HSo2.out 0 htl).2
                  have h4 : (interR ls).length ≤ (ls.getD 0 []).length := h2
                  omega⟩
                have ha0 : ats.getD 0 0 ≤ 1048576 := by have h1 := HNd.out 0 htl; have h2 := (HSo2.out 0 htl).2; omega
                have HM2 := Aside0.mk hM'
                clear hM'
                obtain ⟨v0, hv0⟩ : ∃ v, vl ls ats 0 = v := ⟨_, rfl⟩
                rw [hv0] at HVt HI2
                clear hv0
                have HAt2 : Aside0 (∀ j, j < ls.length → (ats.set 0 (ats.getD 0 0 + 1)).getD j 0 ≤ (ls.getD j []).length) := ⟨fun j hj => by
                  by_cases e : j = 0
                  · subst e
                    rw [set_same (by rw [HCu.out.len, HLen.out]; exact htl)]
                    have h1 := HNd.out 0 htl
                    omega
                  · rw [set_other e]; exact HAt.out j hj⟩
                obtain ⟨a0, hA0⟩ : ∃ a, ats.getD 0 0 = a := ⟨_, rfl⟩
                rw [hA0] at HI2 HM2 HAt2 ha0
                have HA0 := Aside0.mk hA0
                clear hA0
                go_wp2_with (first | (go_at_call 67; (with_reducible refine (HVt.out _ (by first | exact ⟨0, rfl⟩ | exact ⟨_, rfl⟩ | exact ⟨_, World.drewN_drewN _ _ _⟩ | exact ⟨_, (World.drewN_drewN _ _ _).trans (World.drewN_drewN _ _ _)⟩)).mono ?_); rintro e w1 ⟨rfl, ⟨n1, rfl⟩⟩) | ((with_reducible refine gate_builtin (b := .append) (xs := #[.tmp 81, .tmp 84]) rfl ?_); (try (refine gate_guard (by rfl) ?_; dsimp only)); at_builtin; refine Kd.R_append (Kd.int .i64) (w0 := w) w.heap.size rfl (.tmp 81) (.tmp 84) 24 3 (.int .i64 0) 8 rfl Try.underlying24 info3 rfl (by decide) (by omega) u7 out v0 [.int .i64 v0] (fun _ => True) (fun _ => False) rfl rfl ?aP (fun _ hk => hk.elim) ?aF ?aO ?aB ?aS ?aL ?_; (case aP => exact rfl); (case aB => exact pw_below_drewN HB.out _); (case aF => exact (fun _ _ => trivial)); (case aO => exact Kd.R_drewN HOut.out _); (case aS => exact below_size (pw_below_drewN HB.out _)); (case aL => have := HLo.out; omega); intro v1 w2 ho hb hg hat; have n0_ := Aside0.mk hb; have n1_ := Aside0.mk ho; have hc2 := (HCu.out.drewN _).grown (Kd.R_drewN HOut.out _) (by decide) hg; have n2_ := Aside0.mk hc2; have n3_ := Aside0.mk (Kd.R_over (Kd.R_drewN HP.out _) (Kd.R_drewN HOut.out _) (by decide) hg); obtain ⟨s1, hs1⟩ := hc2.at_ (i := 0) (by rw [HLen.out]; omega) HBt.out; rw [HA0.out] at hs1; have n4_ := Aside0.mk hs1; have d1 : w2.cell? ⟨bt, 1, none⟩ = some (.int .i64 (a0 : Int)) := (blk_cell hs1 1).trans rfl; have f1 : w2.frozen? ⟨bt, 1, none⟩ = false := blk_frozen hs1 1; clear ho hb hg hat hc2 hs1))
                go_roundg g'
                case measure => exact hg'
                case rel => exact ⟨(i + 1) % ls.length, out ++ [v0], _, by first | rfl | (rw [Int.natCast_emod]; rfl) | (simp; done), Nat.mod_lt _ htl, HM2, HI2, HAt2, ⟨R_past n1_.out n4_.out (by decide) (fun k hk => Below.heap_setCell _ _ _ k hk)⟩, ⟨R_past n3_.out n4_.out (by decide) (fun k hk => Below.heap_setCell _ _ _ k hk)⟩, ⟨n2_.out.put (i := 0) (by rw [HLen.out]; exact htl) HBt.out (fun s hs => by rw [HA0.out] at hs; rw [show ((a0 + 1 : Nat) : Int) = (a0 : Int) + 1 by omega]; exact cur_set hs) (fun k hk => Below.heap_setCell _ _ _ k hk)⟩, ⟨Below.setCell n0_.out (HCu.out.base (i := 0) (by rw [HLen.out]; exact htl) HBt.out) _⟩⟩
              | false =>
                have hne : ¬ ∀ j, j < ls.length → vl ls ats j = vl ls ats 0 := fun h => absurd (HAg.out.2 h) (by simp)
                have HI2 := Aside0.mk (inv_seek (t := t) (fun j hj => (HSo2.out j hj).1) (by rw [HCu.out.len, HLen.out]) hin htl (HNd.out t htl) HI.out)
                obtain ⟨g', hg', hM'⟩ := meas_seek HM.out (by rw [HCu.out.len, HLen.out]) hin htl HNd.out HMx.out hne
                have HM2 := Aside0.mk hM'
                clear hM' hne
                obtain ⟨_, e1, hqi⟩ := ptr_at (Kd.R_reads' HP.out).2.2 i (by have := HLen.out; omega)
                cases e1
                obtain ⟨bi, hbi⟩ : ∃ b, rdOf 0 bs (i : Int) = b := ⟨_, rfl⟩
                rw [hbi] at hqi
                have HBi := Aside0.mk hbi
                clear hbi
                have hqi2 : (W0.drewN m).cell? (ad3.add i) = some (.pointer (some ⟨bi, 0, none⟩)) := hqi
                have HSk := Aside0.mk (HCu.out.seek_ HB.out (by rw [HLen.out]; exact hin) HBi.out (HAt.out i hin) (HSo2.out i hin).1 (HSo2.out i hin).2 (vl ls ats t))
                have HAt2 : Aside0 (∀ j, j < ls.length → (ats.set i (ats.getD i 0 + lb (vl ls ats t) (drops ls ats i))).getD j 0 ≤ (ls.getD j []).length) := ⟨fun j hj => by
                  by_cases e : j = i
                  · subst e
                    rw [set_same (by rw [HCu.out.len, HLen.out]; exact hin)]
                    have h1 := lb_le (vl ls ats t) (drops ls ats j)
                    have h2 : (drops ls ats j).length = (ls.getD j []).length - ats.getD j 0 := List.length_drop
                    have h3 := HAt.out j hj
                    omega
                  · rw [set_other e]; exact HAt.out j hj⟩
                obtain ⟨vt, hvt⟩ : ∃ v, vl ls ats t = v := ⟨_, rfl⟩
                rw [hvt] at HVt HSk HI2 HM2 HAt2
                clear hvt
                obtain ⟨si, hsi⟩ := HCu.out.at_ (i := i) (by rw [HLen.out]; exact hin) HBi.out
                have HSi := Aside0.mk hsi
                clear hsi
                go_wp2
                go_region_held3 (fun w' => w'.cell? (ad3.add i) = some (.pointer (some ⟨bi, 0, none⟩))) (first | exact hqi2 | exact h9) (first | (go_at_call 67; (with_reducible refine (HVt.out _ (by repeat (first | exact ⟨0, rfl⟩ | exact ⟨_, rfl⟩ | apply dr_n | apply dr_1))).mono ?_); rintro e w1 ⟨rfl, ⟨n1, rfl⟩⟩) | (go_at_call 68; (with_reducible refine (HSk.out _ (by repeat (first | exact ⟨0, rfl⟩ | exact ⟨_, rfl⟩ | apply dr_n | apply dr_1))).mono ?_); rintro e w2 ⟨rfl, hc2, hk2, hb2⟩; have hp2 := R_past HP.out HSi.out (by decide) hk2; obtain ⟨_, e9, h9⟩ := ptr_at (Kd.R_reads' hp2).2.2 i (by have := HLen.out; omega); cases e9; rw [HBi.out] at h9; have n0_ := Aside0.mk hc2; have n2_ := Aside0.mk hb2; have n3_ := Aside0.mk (R_past HOut.out HSi.out (by decide) hk2); have n4_ := Aside0.mk hp2; clear hc2 hk2 hb2 hp2))
                go_wp2
                go_roundg g'
                case measure => exact hg'
                case rel => exact ⟨(i + 1) % ls.length, out, _, by first | rfl | (rw [Int.natCast_emod]; rfl) | (simp; done), Nat.mod_lt _ (by omega), HM2, HI2, HAt2, (by first | exact n3_ | exact ⟨Kd.R_drewN n3_.out _⟩), (by first | exact n4_ | exact ⟨Kd.R_drewN n4_.out _⟩), (by first | exact n0_ | exact ⟨n0_.out.drewN _⟩), (by first | exact n2_ | exact ⟨pw_below_drewN n2_.out _⟩)⟩
  · rw [decide_eq_false hn] at HW
    have HG : Aside0 (interR ls = []) := ⟨by unfold interR; rw [if_neg]; intro h; exact hn ⟨by have := h.1.1; omega, by have := h.1.2; omega⟩⟩
    clear hn
    go_enter Try.func15, Try.ntmps15
    go_wp2_with (first | (go_at_call 65; refine (HW.out _).mono ?_; rintro e w1 ⟨rfl, ⟨n1, rfl⟩⟩))
    go_ret
    exact ⟨_, rfl, by rw [HG.out]; exact Kd.R_nil _ _ _ _ _, pw_below_drewN HB.out _⟩
end Go.Proofs.Ytkolhpmhbgbphaa.PT
namespace Go.Proofs.Ytkolhpmhbgbphaa.P
open Go.RowKit Go.Proofs.YtkolhpmhbgbphaaW.PrintWords Go.Proofs.YtkolhpmhbgbphaaW.PrintLast Go.Proofs.YtkolhpmhbgbphaaW.PrintMore
attribute [local go_sem] max2_int min2_int max_two min_two max_three min_three max_four min_four
set_option linter.unusedVariables false
set_option linter.unusedSimpArgs false
mutual
def spec_Intersect.l0 : Nat → List (List Int) → List Int → List (List Int) → Int → Int → Option (List Int)
 | 0, _, _, _, _, _ => none
 | k + 1, x0, x3, x21, x22, x23 => if x23 < x22 then (if 0 ≤ x23 then (if x23 < (x21.length : Int) then (spec_Intersect.l1 k x0 x3 (rd_L1 x21 x23) 1 x21 x22 x23) else (none)) else (none)) else (if 0 < (x0.length : Int) then (spec_Intersect.l2 k x0 x3 (rd_L1 x0 0) ((rd_L1 x0 0).length : Int) 0) else (none))
def spec_Intersect.l1 : Nat → List (List Int) → List Int → List Int → Int → List (List Int) → Int → Int → Option (List Int)
 | 0, _, _, _, _, _, _, _ => none
 | k + 1, x0, x3, x5, x6, x21, x22, x23 => if x6 < (x5.length : Int) then (if 0 ≤ x6 then (if 0 ≤ (wrap64 (x6 - 1)) then (if (wrap64 (x6 - 1)) < (x5.length : Int) then (if (rd x5 x6) ≤ (rd x5 (wrap64 (x6 - 1))) then (some x3) else (spec_Intersect.l1 k x0 x3 x5 (wrap64 (x6 + 1)) x21 x22 x23)) else (none)) else (none)) else (none)) else (spec_Intersect.l0 k x0 x3 x21 x22 (wrap64 (x23 + 1)))
def spec_Intersect.l2 : Nat → List (List Int) → List Int → List Int → Int → Int → Option (List Int)
 | 0, _, _, _, _, _ => none
 | k + 1, x0, x3, x47, x48, x49 => if x49 < x48 then (if 0 ≤ x49 then (if x49 < (x47.length : Int) then (spec_Intersect.l3 k x0 x3 (rd x47 x49) true x47 x48 x49 x0 (x0.length : Int) 0) else (none)) else (none)) else (some x3)
def spec_Intersect.l3 : Nat → List (List Int) → List Int → Int → Bool → List Int → Int → Int → List (List Int) → Int → Int → Option (List Int)
 | 0, _, _, _, _, _, _, _, _, _, _ => none
 | k + 1, x0, x3, x8, x9, x47, x48, x49, x53, x54, x55 => if x55 < x54 then (if 0 ≤ x55 then (if x55 < (x53.length : Int) then (spec_Intersect.l4 k x0 x3 x8 x9 (rd_L1 x53 x55) 0 ((rd_L1 x53 x55).length : Int) x47 x48 x49 x53 x54 x55) else (none)) else (none)) else (if x9 = true then (if x3.length < 17592186044416 then (spec_Intersect.l2 k x0 (x3 ++ [x8]) x47 x48 (wrap64 (x49 + 1))) else (none)) else (spec_Intersect.l2 k x0 x3 x47 x48 (wrap64 (x49 + 1))))
def spec_Intersect.l4 : Nat → List (List Int) → List Int → Int → Bool → List Int → Int → Int → List Int → Int → Int → List (List Int) → Int → Int → Option (List Int)
 | 0, _, _, _, _, _, _, _, _, _, _, _, _, _ => none
 | k + 1, x0, x3, x8, x9, x11, x12, x13, x47, x48, x49, x53, x54, x55 => if x12 < x13 then (if 0 ≤ (wrap64 (Int.tdiv (wrap64 (x12 + x13)) 2)) then (if (wrap64 (Int.tdiv (wrap64 (x12 + x13)) 2)) < (x11.length : Int) then (if (rd x11 (wrap64 (Int.tdiv (wrap64 (x12 + x13)) 2))) < x8 then (spec_Intersect.l4 k x0 x3 x8 x9 x11 (wrap64 ((wrap64 (Int.tdiv (wrap64 (x12 + x13)) 2)) + 1)) x13 x47 x48 x49 x53 x54 x55) else (spec_Intersect.l4 k x0 x3 x8 x9 x11 x12 (wrap64 (Int.tdiv (wrap64 (x12 + x13)) 2)) x47 x48 x49 x53 x54 x55)) else (none)) else (none)) else (if x9 = true then (if x12 < (x11.length : Int) then (if 0 ≤ x12 then (spec_Intersect.l3 k x0 x3 x8 ((rd x11 x12) == x8) x47 x48 x49 x53 x54 (wrap64 (x55 + 1))) else (none)) else (spec_Intersect.l3 k x0 x3 x8 false x47 x48 x49 x53 x54 (wrap64 (x55 + 1)))) else (spec_Intersect.l3 k x0 x3 x8 false x47 x48 x49 x53 x54 (wrap64 (x55 + 1))))
end
def spec_Intersect.f (k : Nat) (l0 : List (List Int)) : Option (List Int) := (some (([] : List Int) : List Int)).bind fun y103 => ((spec_l1Between.f (l0.length : Int) 1 100).bind fun t106 => (if t106 = true then (spec_Intersect.l0 k l0 y103 l0 (l0.length : Int) 0) else (some y103)))
theorem spec_Intersect.mono_l : ∀ k, (∀ y0 y1 y2 y3 y4, LeO (spec_Intersect.l0 k y0 y1 y2 y3 y4) (spec_Intersect.l0 (k + 1) y0 y1 y2 y3 y4)) ∧ (∀ y0 y1 y2 y3 y4 y5 y6, LeO (spec_Intersect.l1 k y0 y1 y2 y3 y4 y5 y6) (spec_Intersect.l1 (k + 1) y0 y1 y2 y3 y4 y5 y6)) ∧ (∀ y0 y1 y2 y3 y4, LeO (spec_Intersect.l2 k y0 y1 y2 y3 y4) (spec_Intersect.l2 (k + 1) y0 y1 y2 y3 y4)) ∧ (∀ y0 y1 y2 y3 y4 y5 y6 y7 y8 y9, LeO (spec_Intersect.l3 k y0 y1 y2 y3 y4 y5 y6 y7 y8 y9) (spec_Intersect.l3 (k + 1) y0 y1 y2 y3 y4 y5 y6 y7 y8 y9)) ∧ (∀ y0 y1 y2 y3 y4 y5 y6 y7 y8 y9 y10 y11 y12, LeO (spec_Intersect.l4 k y0 y1 y2 y3 y4 y5 y6 y7 y8 y9 y10 y11 y12) (spec_Intersect.l4 (k + 1) y0 y1 y2 y3 y4 y5 y6 y7 y8 y9 y10 y11 y12))
 | 0 => ⟨fun _ _ _ _ _ r h => by simp [spec_Intersect.l0] at h, fun _ _ _ _ _ _ _ r h => by simp [spec_Intersect.l1] at h, fun _ _ _ _ _ r h => by simp [spec_Intersect.l2] at h, fun _ _ _ _ _ _ _ _ _ _ r h => by simp [spec_Intersect.l3] at h, fun _ _ _ _ _ _ _ _ _ _ _ _ _ r h => by simp [spec_Intersect.l4] at h⟩
 | k + 1 => by
  obtain ⟨ih0, ih1, ih2, ih3, ih4⟩ := spec_Intersect.mono_l k
  refine ⟨?_, ?_, ?_, ?_, ?_⟩
  ·intro y0 y1 y2 y3 y4
   unfold spec_Intersect.l0
   repeat' first
   | (with_reducible exact ih0 _ _ _ _ _)
   | (with_reducible exact ih1 _ _ _ _ _ _ _)
   | (with_reducible exact ih2 _ _ _ _ _)
   | (with_reducible exact ih3 _ _ _ _ _ _ _ _ _ _)
   | (with_reducible exact ih4 _ _ _ _ _ _ _ _ _ _ _ _ _)
   | (with_reducible exact LeO.refl _)
   | (with_reducible exact LeO.none _)
   | (with_reducible refine LeO.ite ?_ ?_)
   | (with_reducible refine LeO.bind ?_ (fun _ => ?_))
   | exact ih0 _ _ _ _ _
   | exact ih1 _ _ _ _ _ _ _
   | exact ih2 _ _ _ _ _
   | exact ih3 _ _ _ _ _ _ _ _ _ _
   | exact ih4 _ _ _ _ _ _ _ _ _ _ _ _ _
   | exact LeO.none _
   | refine LeO.ite ?_ ?_
   | refine LeO.bind ?_ (fun _ => ?_)
  ·intro y0 y1 y2 y3 y4 y5 y6
   unfold spec_Intersect.l1
   repeat' first
   | (with_reducible exact ih0 _ _ _ _ _)
   | (with_reducible exact ih1 _ _ _ _ _ _ _)
   | (with_reducible exact ih2 _ _ _ _ _)
   | (with_reducible exact ih3 _ _ _ _ _ _ _ _ _ _)
   | (with_reducible exact ih4 _ _ _ _ _ _ _ _ _ _ _ _ _)
   | (with_reducible exact LeO.refl _)
   | (with_reducible exact LeO.none _)
   | (with_reducible refine LeO.ite ?_ ?_)
   | (with_reducible refine LeO.bind ?_ (fun _ => ?_))
   | exact ih0 _ _ _ _ _
   | exact ih1 _ _ _ _ _ _ _
   | exact ih2 _ _ _ _ _
   | exact ih3 _ _ _ _ _ _ _ _ _ _
   | exact ih4 _ _ _ _ _ _ _ _ _ _ _ _ _
   | exact LeO.none _
   | refine LeO.ite ?_ ?_
   | refine LeO.bind ?_ (fun _ => ?_)
  ·intro y0 y1 y2 y3 y4
   unfold spec_Intersect.l2
   repeat' first
   | (with_reducible exact ih0 _ _ _ _ _)
   | (with_reducible exact ih1 _ _ _ _ _ _ _)
   | (with_reducible exact ih2 _ _ _ _ _)
   | (with_reducible exact ih3 _ _ _ _ _ _ _ _ _ _)
   | (with_reducible exact ih4 _ _ _ _ _ _ _ _ _ _ _ _ _)
   | (with_reducible exact LeO.refl _)
   | (with_reducible exact LeO.none _)
   | (with_reducible refine LeO.ite ?_ ?_)
   | (with_reducible refine LeO.bind ?_ (fun _ => ?_))
   | exact ih0 _ _ _ _ _
   | exact ih1 _ _ _ _ _ _ _
   | exact ih2 _ _ _ _ _
   | exact ih3 _ _ _ _ _ _ _ _ _ _
   | exact ih4 _ _ _ _ _ _ _ _ _ _ _ _ _
   | exact LeO.none _
   | refine LeO.ite ?_ ?_
   | refine LeO.bind ?_ (fun _ => ?_)
  ·intro y0 y1 y2 y3 y4 y5 y6 y7 y8 y9
   unfold spec_Intersect.l3
   repeat' first
   | (with_reducible exact ih0 _ _ _ _ _)
   | (with_reducible exact ih1 _ _ _ _ _ _ _)
   | (with_reducible exact ih2 _ _ _ _ _)
   | (with_reducible exact ih3 _ _ _ _ _ _ _ _ _ _)
   | (with_reducible exact ih4 _ _ _ _ _ _ _ _ _ _ _ _ _)
   | (with_reducible exact LeO.refl _)
   | (with_reducible exact LeO.none _)
   | (with_reducible refine LeO.ite ?_ ?_)
   | (with_reducible refine LeO.bind ?_ (fun _ => ?_))
   | exact ih0 _ _ _ _ _
   | exact ih1 _ _ _ _ _ _ _
   | exact ih2 _ _ _ _ _
   | exact ih3 _ _ _ _ _ _ _ _ _ _
   | exact ih4 _ _ _ _ _ _ _ _ _ _ _ _ _
   | exact LeO.none _
   | refine LeO.ite ?_ ?_
   | refine LeO.bind ?_ (fun _ => ?_)
  ·intro y0 y1 y2 y3 y4 y5 y6 y7 y8 y9 y10 y11 y12
   unfold spec_Intersect.l4
   repeat' first
   | (with_reducible exact ih0 _ _ _ _ _)
   | (with_reducible exact ih1 _ _ _ _ _ _ _)
   | (with_reducible exact ih2 _ _ _ _ _)
   | (with_reducible exact ih3 _ _ _ _ _ _ _ _ _ _)
   | (with_reducible exact ih4 _ _ _ _ _ _ _ _ _ _ _ _ _)
   | (with_reducible exact LeO.refl _)
   | (with_reducible exact LeO.none _)
   | (with_reducible refine LeO.ite ?_ ?_)
   | (with_reducible refine LeO.bind ?_ (fun _ => ?_))
   | exact ih0 _ _ _ _ _
   | exact ih1 _ _ _ _ _ _ _
   | exact ih2 _ _ _ _ _
   | exact ih3 _ _ _ _ _ _ _ _ _ _
   | exact ih4 _ _ _ _ _ _ _ _ _ _ _ _ _
   | exact LeO.none _
   | refine LeO.ite ?_ ?_
   | refine LeO.bind ?_ (fun _ => ?_)
theorem spec_Intersect.mono : ∀ a0 k, LeO (spec_Intersect.f k a0) (spec_Intersect.f (k + 1) a0) := by
 intro a0 k
 obtain ⟨ih0, ih1, ih2, ih3, ih4⟩ := spec_Intersect.mono_l k
 unfold spec_Intersect.f
 repeat' first
   | (with_reducible exact ih0 _ _ _ _ _)
   | (with_reducible exact ih1 _ _ _ _ _ _ _)
   | (with_reducible exact ih2 _ _ _ _ _)
   | (with_reducible exact ih3 _ _ _ _ _ _ _ _ _ _)
   | (with_reducible exact ih4 _ _ _ _ _ _ _ _ _ _ _ _ _)
   | (with_reducible exact LeO.refl _)
   | (with_reducible exact LeO.none _)
   | (with_reducible refine LeO.ite ?_ ?_)
   | (with_reducible refine LeO.bind ?_ (fun _ => ?_))
   | exact ih0 _ _ _ _ _
   | exact ih1 _ _ _ _ _ _ _
   | exact ih2 _ _ _ _ _
   | exact ih3 _ _ _ _ _ _ _ _ _ _
   | exact ih4 _ _ _ _ _ _ _ _ _ _ _ _ _
   | exact LeO.none _
   | refine LeO.ite ?_ ?_
   | refine LeO.bind ?_ (fun _ => ?_)
set_option maxHeartbeats 8000000 in
set_option maxRecDepth 100000 in
theorem spec_Intersect.calls (k : Nat) (A0 : Option Addr) (c0 : Nat) (l0 : List (List Int)) (r : List Int) (w : World) (hr0 : Kd.C (Kd.slice 3 (Kd.int .i64)) w A0 l0.length l0) (hc0 : l0.length ≤ c0) (h : spec_Intersect.f k l0 = some r) :
  Calls Try.prog 13 #[.slice A0 l0.length c0] w fun e w' => ∃ v0_ : Value, e = .returned (v0_) ∧ Kd.R (Kd.int .i64) 3 w' w.heap.size (fun _ => True) v0_ r ∧ Below w.heap.size w w' := by
 have HR0 := Aside0.mk hr0
 have HC0 := Aside0.mk hc0
 clear hr0 hc0
 have HB := Aside0.mk (Below.refl w.heap.size w)
 have H : ((some (([] : List Int) : List Int)).bind fun y103 => ((spec_l1Between.f (l0.length : Int) 1 100).bind fun t106 => (if t106 = true then (spec_Intersect.l0 k l0 y103 l0 (l0.length : Int) 0) else (some y103)))) = some r := h
 clear h
 obtain ⟨y103, hy103⟩ : ∃ y_ : List Int, y_ = (([] : List Int)) := ⟨_, rfl⟩
 replace H : ((spec_l1Between.f (l0.length : Int) 1 100).bind fun t106 => (if t106 = true then (spec_Intersect.l0 k l0 y103 l0 (l0.length : Int) 0) else (some y103))) = some r := by first | (rw [hy103]; with_reducible exact H) | (have H2_ := (Option.bind_some _ _).symm.trans H; rw [hy103]; with_reducible exact H2_) | (have H2_ := (Option.bind_some _ _).symm.trans H; with_reducible exact H2_) | with_reducible exact H | (rw [hy103]; exact H) | exact H
 have Ny103 := Aside0.mk hy103
 clear hy103
 replace H := Option.bind_eq_some_iff.mp H
 obtain ⟨t106, A20, H⟩ := H
 replace H : (if t106 = true then (spec_Intersect.l0 k l0 y103 l0 (l0.length : Int) 0) else (some y103)) = some r := H
 have A2 := Aside0.mk A20
 clear A20
 by_cases c3 : t106 = true
 ·subst c3
  have H1 : (spec_Intersect.l0 k l0 y103 l0 (l0.length : Int) 0) = some r := by rw [if_pos rfl] at H; exact H
  clear H
  have H := H1
  clear H1
  have H' := Aside0.mk H
  clear H
  go_enter Try.func13, Try.ntmps13
  go_wp2_with (first | ((with_reducible refine gate_dst (N := 15) rfl ?_); (try (refine gate_guard (by rfl) ?_; dsimp only)); refine Kd.R_lit (Kd.int .i64) _ 3 ?hg (N := 15) ?hd (xs := ([] : List Int)) (inner := []) (ok := fun _ => True) (okp := fun _ => True) ?hr ?hp (fun _ hk => hk) trivial (Below.refl _ _) (Nat.le_refl _) (by simp) ?_; (case hd => rfl); (case hg => rfl); (case hr => first | (go_simp; done) | (go_simp; rfl)); (case hp => exact (Reps.none _ _)); intro v104 w4 ho5 hb hg_ hnew_; clear hg_ hnew_; (first | rw [← Ny103.out] at ho5 | (simp only [Int.reduceToNat] at ho5; rw [← Ny103.out] at ho5)); have n0_ := Aside0.mk (Kd.R_lower ho5 (below_size (by repeat (first | (with_reducible first | exact HB.out | apply below_alloc | apply pw_below_drewN | apply below_drew1) | exact HB.out)))); have n1_ := Aside0.mk (below_step (by repeat (first | (with_reducible first | exact HB.out | apply below_alloc | apply pw_below_drewN | apply below_drew1) | exact HB.out)) hb); clear HB; have HO105 := n0_; have HB := n1_; clear n0_ n1_; clear hb ho5) | (go_at_call 64; (with_reducible refine (spec_l1Between.calls (l0.length : Int) 1 100 true _ A2.out).mono ?_); rintro e w' ⟨rfl, ⟨nd, rfl⟩⟩; (try first | exact ⟨rfl, _, World.drewN_drewN _ _ _⟩ | exact ⟨rfl, _, Eq.trans (World.drewN_drewN _ _ _) (congrArg (World.drewN _) (Nat.add_assoc _ _ _))⟩)))
  repeat (go_quiet (first | ((with_reducible refine gate_dst (N := 15) rfl ?_); (try (refine gate_guard (by rfl) ?_; dsimp only)); refine Kd.R_lit (Kd.int .i64) _ 3 ?hg (N := 15) ?hd (xs := ([] : List Int)) (inner := []) (ok := fun _ => True) (okp := fun _ => True) ?hr ?hp (fun _ hk => hk) trivial (Below.refl _ _) (Nat.le_refl _) (by simp) ?_; (case hd => rfl); (case hg => rfl); (case hr => first | (go_simp; done) | (go_simp; rfl)); (case hp => exact (Reps.none _ _)); intro v104 w4 ho5 hb hg_ hnew_; clear hg_ hnew_; (first | rw [← Ny103.out] at ho5 | (simp only [Int.reduceToNat] at ho5; rw [← Ny103.out] at ho5)); have n0_ := Aside0.mk (Kd.R_lower ho5 (below_size (by repeat (first | (with_reducible first | exact HB.out | apply below_alloc | apply pw_below_drewN | apply below_drew1) | exact HB.out)))); have n1_ := Aside0.mk (below_step (by repeat (first | (with_reducible first | exact HB.out | apply below_alloc | apply pw_below_drewN | apply below_drew1) | exact HB.out)) hb); clear HB; have HO105 := n0_; have HB := n1_; clear n0_ n1_; clear hb ho5) | (go_at_call 64; (with_reducible refine (spec_l1Between.calls (l0.length : Int) 1 100 true _ A2.out).mono ?_); rintro e w' ⟨rfl, ⟨nd, rfl⟩⟩; (try first | exact ⟨rfl, _, World.drewN_drewN _ _ _⟩ | exact ⟨rfl, _, Eq.trans (World.drewN_drewN _ _ _) (congrArg (World.drewN _) (Nat.add_assoc _ _ _))⟩))); try go_wp2_with (first | ((with_reducible refine gate_dst (N := 15) rfl ?_); (try (refine gate_guard (by rfl) ?_; dsimp only)); refine Kd.R_lit (Kd.int .i64) _ 3 ?hg (N := 15) ?hd (xs := ([] : List Int)) (inner := []) (ok := fun _ => True) (okp := fun _ => True) ?hr ?hp (fun _ hk => hk) trivial (Below.refl _ _) (Nat.le_refl _) (by simp) ?_; (case hd => rfl); (case hg => rfl); (case hr => first | (go_simp; done) | (go_simp; rfl)); (case hp => exact (Reps.none _ _)); intro v104 w4 ho5 hb hg_ hnew_; clear hg_ hnew_; (first | rw [← Ny103.out] at ho5 | (simp only [Int.reduceToNat] at ho5; rw [← Ny103.out] at ho5)); have n0_ := Aside0.mk (Kd.R_lower ho5 (below_size (by repeat (first | (with_reducible first | exact HB.out | apply below_alloc | apply pw_below_drewN | apply below_drew1) | exact HB.out)))); have n1_ := Aside0.mk (below_step (by repeat (first | (with_reducible first | exact HB.out | apply below_alloc | apply pw_below_drewN | apply below_drew1) | exact HB.out)) hb); clear HB; have HO105 := n0_; have HB := n1_; clear n0_ n1_; clear hb ho5) | (go_at_call 64; (with_reducible refine (spec_l1Between.calls (l0.length : Int) 1 100 true _ A2.out).mono ?_); rintro e w' ⟨rfl, ⟨nd, rfl⟩⟩; (try first | exact ⟨rfl, _, World.drewN_drewN _ _ _⟩ | exact ⟨rfl, _, Eq.trans (World.drewN_drewN _ _ _) (congrArg (World.drewN _) (Nat.add_assoc _ _ _))⟩))))
  go_loopg [23] k (fun kq v23 w' => ∃ (x23_1 : Int), v23 = .int .i64 x23_1 ∧ Aside0 (spec_Intersect.l0 kq l0 y103 l0 (l0.length : Int) x23_1 = some r) ∧ Aside0 (kq ≤ k) ∧ Aside0 (Kd.R (Kd.int .i64) 3 w' w.heap.size (fun _ => True) v104 y103) ∧ Aside0 (Below w.heap.size w w'))
  case atStart => exact ⟨(0), (by first | rfl | (simp; done) | (simp [*]; done)), H', ⟨Nat.le_refl _⟩, ⟨by (with_reducible repeat (first | apply Kd.R_alloc | apply Kd.R_drewN | apply Kd.R_drew)); exact HO105.out⟩, ⟨by repeat (first | (with_reducible first | exact HB.out | apply below_alloc | apply pw_below_drewN | apply below_drew1) | exact HB.out)⟩⟩
  case round =>
   clear H'
   try clear c1
   try clear p2
   try clear c3
   obtain ⟨x23_1, rfl, HA, HK1, HO_3, HB⟩ := hrel
   cases gk with
   | zero => exact absurd HA.out (by simp [spec_Intersect.l0])
   | succ k1 =>
    have H := HA.out
    clear HA
    simp only [spec_Intersect.l0] at H
    by_cases c6 : x23_1 < (l0.length : Int)
    ·rw [if_pos c6] at H
     have c6b0 : decide (x23_1 < (l0.length : Int)) = true := decide_eq_true c6
     clear c6
     by_cases c7 : 0 ≤ x23_1
     ·rw [if_pos c7] at H
      have c7b0 : decide (0 ≤ x23_1) = true := decide_eq_true c7
      clear c7
      by_cases c8 : x23_1 < (l0.length : Int)
      ·rw [if_pos c8] at H
       have c8b0 : decide (x23_1 < (l0.length : Int)) = true := decide_eq_true c8
       clear c8
       have H' := Aside0.mk H
       clear H
       have p107 : 0 ≤ (x23_1 : Int) := of_decide_eq_true (by first | (with_reducible assumption) | assumption)
       have q107 : x23_1 < (l0.length : Int) := of_decide_eq_true (by first | (with_reducible assumption) | assumption)
       obtain ⟨ad107, A107_0, c107_0, e107, hx107_0, hl107_0, hi107_0⟩ := at_L1 HR0.out x23_1 p107 q107
       cases e107
       replace hx107_0 := (HB.out.cell (World.block_lt_of_cell? w _ hx107_0)).trans hx107_0
       have HR107_0 := Aside0.mk hi107_0
       have HC107_0 := Aside0.mk hl107_0
       clear hi107_0 hl107_0
       replace p107 := eq_true p107
       replace q107 := eq_true q107
       go_wp2
       repeat (go_quiet (fail); try go_wp2)
       go_loopg [6] k1 (fun kq v6 w' => ∃ (x6_2 : Int), v6 = .int .i64 x6_2 ∧ Aside0 (spec_Intersect.l1 kq l0 y103 (rd_L1 l0 x23_1) x6_2 l0 (l0.length : Int) x23_1 = some r) ∧ Aside0 (kq ≤ k1) ∧ Aside0 (Kd.R (Kd.int .i64) 3 w' w.heap.size (fun _ => True) v104 y103) ∧ Aside0 (Below w.heap.size w w'))
       case atStart => exact ⟨(1), (by first | rfl | (simp; done) | (simp [*]; done)), H', ⟨Nat.le_refl _⟩, ⟨by (with_reducible repeat (first | apply Kd.R_alloc | apply Kd.R_drewN | apply Kd.R_drew)); exact HO_3.out⟩, ⟨by repeat (first | (with_reducible first | exact HB.out | apply below_alloc | apply pw_below_drewN | apply below_drew1) | exact HB.out)⟩⟩
       case round =>
        clear H'
        try clear c1
        try clear p1
        try clear q1
        try clear hx1
        try clear p2
        try clear c3
        try clear c6
        try clear c6b0
        try clear c7
        try clear c7b0
        try clear c8
        try clear c8b0
        try clear hx107_0
        try clear p107
        try clear p2
        try clear q107
        obtain ⟨x6_2, rfl, HA, HK2, HO_3, HB⟩ := hrel
        cases gk with
        | zero => exact absurd HA.out (by simp [spec_Intersect.l1])
        | succ k2 =>
         have H := HA.out
         clear HA
         simp only [spec_Intersect.l1] at H
         by_cases c9 : x6_2 < ((rd_L1 l0 x23_1).length : Int)
         ·rw [if_pos c9] at H
          have c9b0 : decide (x6_2 < ((rd_L1 l0 x23_1).length : Int)) = true := decide_eq_true c9
          clear c9
          by_cases c10 : 0 ≤ x6_2
          ·rw [if_pos c10] at H
           have c10b0 : decide (0 ≤ x6_2) = true := decide_eq_true c10
           clear c10
           obtain ⟨ji11, hji11⟩ : ∃ j_ : Int, (wrap64 (x6_2 - 1)) = j_ := ⟨_, rfl⟩
           replace H : (if 0 ≤ (ji11) then (if (ji11) < ((rd_L1 l0 x23_1).length : Int) then (if (rd (rd_L1 l0 x23_1) x6_2) ≤ (rd (rd_L1 l0 x23_1) (ji11)) then (some y103) else (spec_Intersect.l1 k2 l0 y103 (rd_L1 l0 x23_1) (wrap64 (x6_2 + 1)) l0 (l0.length : Int) x23_1)) else (none)) else (none)) = some r := by first | (rw [hji11] at H; exact H) | (simp only [hji11] at H ⊢; exact H)
           have hji11w : (IntKind.i64.wrap (x6_2 - 1)) = ji11 := (i64_w _).trans hji11
           by_cases c12 : 0 ≤ (ji11)
           ·rw [if_pos c12] at H
            have c12b0 : decide (0 ≤ (ji11)) = true := decide_eq_true c12
            clear c12
            by_cases c13 : (ji11) < ((rd_L1 l0 x23_1).length : Int)
            ·rw [if_pos c13] at H
             have c13b0 : decide ((ji11) < ((rd_L1 l0 x23_1).length : Int)) = true := decide_eq_true c13
             clear c13
             by_cases c14 : (rd (rd_L1 l0 x23_1) x6_2) ≤ (rd (rd_L1 l0 x23_1) (ji11))
             ·rw [if_pos c14] at H
              have c14b0 : decide ((rd (rd_L1 l0 x23_1) x6_2) ≤ (rd (rd_L1 l0 x23_1) (ji11))) = true := decide_eq_true c14
              clear c14
              obtain rfl := Option.some.inj H
              have p108 : 0 ≤ (x6_2 : Int) := of_decide_eq_true (by first | (with_reducible assumption) | assumption)
              have q108 : x6_2 < ((rd_L1 l0 x23_1).length : Int) := of_decide_eq_true (by first | (with_reducible assumption) | assumption)
              obtain ⟨ad108, e108, hx108_0⟩ := Kd.at_int HR107_0.out x6_2 p108 q108
              cases e108
              replace hx108_0 := (HB.out.cell (World.block_lt_of_cell? w _ hx108_0)).trans hx108_0
              replace p108 := eq_true p108
              replace q108 := eq_true q108
              have p109 : 0 ≤ ((ji11) : Int) := of_decide_eq_true (by first | (with_reducible assumption) | assumption)
              have q109 : (ji11) < ((rd_L1 l0 x23_1).length : Int) := of_decide_eq_true (by first | (with_reducible assumption) | assumption)
              obtain ⟨ad109, e109, hx109_0⟩ := Kd.at_int HR107_0.out (ji11) p109 q109
              obtain rfl : ad108 = ad109 := (by injection e109)
              replace hx109_0 := (HB.out.cell (World.block_lt_of_cell? w _ hx109_0)).trans hx109_0
              replace p109 := eq_true p109
              replace q109 := eq_true q109
              go_wp2
              repeat (go_quiet (fail); try go_wp2)
              go_ret
              exact ⟨_, by first | rfl | (simp [errW_none, errW_some] <;> rfl) | (simp only [← hji11]; first | rfl | (simp [errW_none, errW_some] <;> rfl)) | (simp [*, errW_none, errW_some] <;> rfl), by (with_reducible repeat (first | apply Kd.R_alloc | apply Kd.R_drewN | apply Kd.R_drew)); exact HO_3.out, by repeat (first | (with_reducible first | exact HB.out | apply below_alloc | apply pw_below_drewN | apply below_drew1) | exact HB.out)⟩
             ·rw [if_neg c14] at H
              have c14b0 : decide ((rd (rd_L1 l0 x23_1) x6_2) ≤ (rd (rd_L1 l0 x23_1) (ji11))) = false := decide_eq_false c14
              clear c14
              have H' := Aside0.mk H
              clear H
              have p108 : 0 ≤ (x6_2 : Int) := of_decide_eq_true (by first | (with_reducible assumption) | assumption)
              have q108 : x6_2 < ((rd_L1 l0 x23_1).length : Int) := of_decide_eq_true (by first | (with_reducible assumption) | assumption)
              obtain ⟨ad108, e108, hx108_0⟩ := Kd.at_int HR107_0.out x6_2 p108 q108
              cases e108
              replace hx108_0 := (HB.out.cell (World.block_lt_of_cell? w _ hx108_0)).trans hx108_0
              replace p108 := eq_true p108
              replace q108 := eq_true q108
              have p109 : 0 ≤ ((ji11) : Int) := of_decide_eq_true (by first | (with_reducible assumption) | assumption)
              have q109 : (ji11) < ((rd_L1 l0 x23_1).length : Int) := of_decide_eq_true (by first | (with_reducible assumption) | assumption)
              obtain ⟨ad109, e109, hx109_0⟩ := Kd.at_int HR107_0.out (ji11) p109 q109
              obtain rfl : ad108 = ad109 := (by injection e109)
              replace hx109_0 := (HB.out.cell (World.block_lt_of_cell? w _ hx109_0)).trans hx109_0
              replace p109 := eq_true p109
              replace q109 := eq_true q109
              go_wp2
              repeat (go_quiet (fail); try go_wp2)
              go_roundg k2
              case measure => have := HK1.out; have := HK2.out; omega
              case rel => exact ⟨(wrap64 (x6_2 + 1)), (by first | rfl | (simp; done) | (simp [*]; done)), H', ⟨by have := HK1.out; have := HK2.out; omega⟩, ⟨by (with_reducible repeat (first | apply Kd.R_alloc | apply Kd.R_drewN | apply Kd.R_drew)); exact HO_3.out⟩, ⟨by repeat (first | (with_reducible first | exact HB.out | apply below_alloc | apply pw_below_drewN | apply below_drew1) | exact HB.out)⟩⟩
            ·rw [if_neg c13] at H
             exact absurd H (by simp)
           ·rw [if_neg c12] at H
            exact absurd H (by simp)
          ·rw [if_neg c10] at H
           exact absurd H (by simp)
         ·rw [if_neg c9] at H
          have c9b0 : decide (x6_2 < ((rd_L1 l0 x23_1).length : Int)) = false := decide_eq_false c9
          clear c9
          have H' := Aside0.mk H
          clear H
          go_wp2
          repeat (go_quiet (fail); try go_wp2)
          go_roundg k2
          case measure => have := HK1.out; have := HK2.out; omega
          case rel => exact ⟨(wrap64 (x23_1 + 1)), (by first | rfl | (simp; done) | (simp [*]; done)), H', ⟨by have := HK1.out; have := HK2.out; omega⟩, ⟨by (with_reducible repeat (first | apply Kd.R_alloc | apply Kd.R_drewN | apply Kd.R_drew)); exact HO_3.out⟩, ⟨by repeat (first | (with_reducible first | exact HB.out | apply below_alloc | apply pw_below_drewN | apply below_drew1) | exact HB.out)⟩⟩
      ·rw [if_neg c8] at H
       exact absurd H (by simp)
     ·rw [if_neg c7] at H
      exact absurd H (by simp)
    ·rw [if_neg c6] at H
     have c6b0 : decide (x23_1 < (l0.length : Int)) = false := decide_eq_false c6
     clear c6
     by_cases c15 : 0 < (l0.length : Int)
     ·rw [if_pos c15] at H
      have c15b0 : decide (0 < (l0.length : Int)) = true := decide_eq_true c15
      have c15b1 : decide (0 < l0.length) = true := decide_eq_true (by omega)
      clear c15
      have H' := Aside0.mk H
      clear H
      have p110 : 0 ≤ (0 : Int) := (by omega)
      have q110 : 0 < (l0.length : Int) := of_decide_eq_true (by first | (with_reducible assumption) | assumption)
      obtain ⟨ad110, A110_0, c110_0, e110, hx110_0, hl110_0, hi110_0⟩ := at_L1 HR0.out 0 p110 q110
      cases e110
      have qi110 : (0 < l0.length) = True := eq_true (by omega)
      (try rw [show ((0 : Int)).toNat = 0 from rfl] at hx110_0)
      (try rw [Addr.add_zero'] at hx110_0)
      replace hx110_0 := (HB.out.cell (World.block_lt_of_cell? w _ hx110_0)).trans hx110_0
      have HR110_0 := Aside0.mk hi110_0
      have HC110_0 := Aside0.mk hl110_0
      clear hi110_0 hl110_0
      replace p110 := eq_true p110
      replace q110 := eq_true q110
      go_wp2
      repeat (go_quiet (fail); try go_wp2)
      go_loopg [3, 49] k1 (fun kq v3 v49 w' => ∃ (x3_2 : List Int) (x49_2 : Int), v49 = .int .i64 x49_2 ∧ Aside0 (spec_Intersect.l2 kq l0 x3_2 (rd_L1 l0 0) ((rd_L1 l0 0).length : Int) x49_2 = some r) ∧ Aside0 (kq ≤ k1) ∧ Aside0 (Kd.R (Kd.int .i64) 3 w' w.heap.size (fun _ => True) v3 x3_2) ∧ Aside0 (Below w.heap.size w w'))
      case atStart => exact ⟨(y103), (0), (by first | rfl | (simp; done) | (simp [*]; done)), H', ⟨Nat.le_refl _⟩, ⟨by (with_reducible repeat (first | apply Kd.R_alloc | apply Kd.R_drewN | apply Kd.R_drew)); exact HO_3.out⟩, ⟨by repeat (first | (with_reducible first | exact HB.out | apply below_alloc | apply pw_below_drewN | apply below_drew1) | exact HB.out)⟩⟩
      case round =>
       clear H'
       try clear c1
       try clear p1
       try clear q1
       try clear hx1
       try clear qi1
       try clear p2
       try clear c3
       try clear c6
       try clear c6b0
       try clear p6
       try clear c7
       try clear c7b0
       try clear c8
       try clear c8b0
       try clear c9
       try clear c9b0
       try clear c10
       try clear c10b0
       try clear p10
       try clear q10
       try clear hx10
       try clear c11
       try clear p11
       try clear q11
       try clear hx11
       try clear qi11
       try clear c12
       try clear c12b0
       try clear c13
       try clear c13b0
       try clear c14
       try clear c14b0
       try clear c15
       try clear c15b0
       try clear c15b1
       try clear hx107_0
       try clear hx108_0
       try clear hx109_0
       try clear hx110_0
       try clear p1
       try clear p107
       try clear p108
       try clear p109
       try clear p110
       try clear p2
       try clear q1
       try clear q107
       try clear q108
       try clear q109
       try clear q110
       obtain ⟨x3_2, x49_2, rfl, HA, HK2, HO_3, HB⟩ := hrel
       cases gk with
       | zero => exact absurd HA.out (by simp [spec_Intersect.l2])
       | succ k2 =>
        have H := HA.out
        clear HA
        simp only [spec_Intersect.l2] at H
        by_cases c16 : x49_2 < ((rd_L1 l0 0).length : Int)
        ·rw [if_pos c16] at H
         have c16b0 : decide (x49_2 < ((rd_L1 l0 0).length : Int)) = true := decide_eq_true c16
         clear c16
         by_cases c17 : 0 ≤ x49_2
         ·rw [if_pos c17] at H
          have c17b0 : decide (0 ≤ x49_2) = true := decide_eq_true c17
          clear c17
          by_cases c18 : x49_2 < ((rd_L1 l0 0).length : Int)
          ·rw [if_pos c18] at H
           have c18b0 : decide (x49_2 < ((rd_L1 l0 0).length : Int)) = true := decide_eq_true c18
           clear c18
           have H' := Aside0.mk H
           clear H
           have p111 : 0 ≤ (x49_2 : Int) := of_decide_eq_true (by first | (with_reducible assumption) | assumption)
           have q111 : x49_2 < ((rd_L1 l0 0).length : Int) := of_decide_eq_true (by first | (with_reducible assumption) | assumption)
           obtain ⟨ad111, e111, hx111_0⟩ := Kd.at_int HR110_0.out x49_2 p111 q111
           cases e111
           replace hx111_0 := (HB.out.cell (World.block_lt_of_cell? w _ hx111_0)).trans hx111_0
           replace p111 := eq_true p111
           replace q111 := eq_true q111
           go_wp2
           repeat (go_quiet (fail); try go_wp2)
           go_loopg [9, 55] k2 (fun kq v9 v55 w' => ∃ (x9_3 : Bool) (x55_3 : Int), v9 = .bool x9_3 ∧ v55 = .int .i64 x55_3 ∧ Aside0 (spec_Intersect.l3 kq l0 x3_2 (rd (rd_L1 l0 0) x49_2) x9_3 (rd_L1 l0 0) ((rd_L1 l0 0).length : Int) x49_2 l0 (l0.length : Int) x55_3 = some r) ∧ Aside0 (kq ≤ k2) ∧ Aside0 (Kd.R (Kd.int .i64) 3 w' w.heap.size (fun _ => True) u3 x3_2) ∧ Aside0 (Below w.heap.size w w'))
           case atStart => exact ⟨(true), (0), (by first | rfl | (simp; done) | (simp [*]; done)), (by first | rfl | (simp; done) | (simp [*]; done)), H', ⟨Nat.le_refl _⟩, ⟨by (with_reducible repeat (first | apply Kd.R_alloc | apply Kd.R_drewN | apply Kd.R_drew)); exact HO_3.out⟩, ⟨by repeat (first | (with_reducible first | exact HB.out | apply below_alloc | apply pw_below_drewN | apply below_drew1) | exact HB.out)⟩⟩
           case round =>
            clear H'
            try clear c1
            try clear p1
            try clear q1
            try clear hx1
            try clear qi1
            try clear p2
            try clear c3
            try clear c6
            try clear c6b0
            try clear p6
            try clear c7
            try clear c7b0
            try clear c8
            try clear c8b0
            try clear c9
            try clear c9b0
            try clear c10
            try clear c10b0
            try clear p10
            try clear q10
            try clear hx10
            try clear c11
            try clear p11
            try clear q11
            try clear hx11
            try clear qi11
            try clear c12
            try clear c12b0
            try clear c13
            try clear c13b0
            try clear c14
            try clear c14b0
            try clear c15
            try clear c15b0
            try clear c15b1
            try clear c16
            try clear c16b0
            try clear c17
            try clear c17b0
            try clear c18
            try clear c18b0
            try clear hx107_0
            try clear hx108_0
            try clear hx109_0
            try clear hx110_0
            try clear hx111_0
            try clear p1
            try clear p10
            try clear p107
            try clear p108
            try clear p109
            try clear p11
            try clear p110
            try clear p111
            try clear p2
            try clear p6
            try clear q1
            try clear q10
            try clear q107
            try clear q108
            try clear q109
            try clear q11
            try clear q110
            try clear q111
            obtain ⟨x9_3, x55_3, rfl, rfl, HA, HK3, HO_3, HB⟩ := hrel
            cases gk with
            | zero => exact absurd HA.out (by simp [spec_Intersect.l3])
            | succ k3 =>
             have H := HA.out
             clear HA
             simp only [spec_Intersect.l3] at H
             by_cases c19 : x55_3 < (l0.length : Int)
             ·rw [if_pos c19] at H
              have c19b0 : decide (x55_3 < (l0.length : Int)) = true := decide_eq_true c19
              clear c19
              by_cases c20 : 0 ≤ x55_3
              ·rw [if_pos c20] at H
               have c20b0 : decide (0 ≤ x55_3) = true := decide_eq_true c20
               clear c20
               by_cases c21 : x55_3 < (l0.length : Int)
               ·rw [if_pos c21] at H
                have c21b0 : decide (x55_3 < (l0.length : Int)) = true := decide_eq_true c21
                clear c21
                have H' := Aside0.mk H
                clear H
                have p115 : 0 ≤ (x55_3 : Int) := of_decide_eq_true (by first | (with_reducible assumption) | assumption)
                have q115 : x55_3 < (l0.length : Int) := of_decide_eq_true (by first | (with_reducible assumption) | assumption)
                obtain ⟨ad115, A115_0, c115_0, e115, hx115_0, hl115_0, hi115_0⟩ := at_L1 HR0.out x55_3 p115 q115
                obtain rfl : ad110 = ad115 := (by injection e115)
                replace hx115_0 := (HB.out.cell (World.block_lt_of_cell? w _ hx115_0)).trans hx115_0
                have HR115_0 := Aside0.mk hi115_0
                have HC115_0 := Aside0.mk hl115_0
                clear hi115_0 hl115_0
                replace p115 := eq_true p115
                replace q115 := eq_true q115
                go_wp2
                repeat (go_quiet (fail); try go_wp2)
                go_loopg [12, 13] k3 (fun kq v12 v13 w' => ∃ (x12_4 : Int) (x13_4 : Int), v12 = .int .i64 x12_4 ∧ v13 = .int .i64 x13_4 ∧ Aside0 (spec_Intersect.l4 kq l0 x3_2 (rd (rd_L1 l0 0) x49_2) x9_3 (rd_L1 l0 x55_3) x12_4 x13_4 (rd_L1 l0 0) ((rd_L1 l0 0).length : Int) x49_2 l0 (l0.length : Int) x55_3 = some r) ∧ Aside0 (kq ≤ k3) ∧ Aside0 (Kd.R (Kd.int .i64) 3 w' w.heap.size (fun _ => True) u3 x3_2) ∧ Aside0 (Below w.heap.size w w'))
                case atStart => exact ⟨(0), (((rd_L1 l0 x55_3).length : Int)), (by first | rfl | (simp; done) | (simp [*]; done)), (by first | rfl | (simp; done) | (simp [*]; done)), H', ⟨Nat.le_refl _⟩, ⟨by (with_reducible repeat (first | apply Kd.R_alloc | apply Kd.R_drewN | apply Kd.R_drew)); exact HO_3.out⟩, ⟨by repeat (first | (with_reducible first | exact HB.out | apply below_alloc | apply pw_below_drewN | apply below_drew1) | exact HB.out)⟩⟩
                case round =>
                 clear H'
                 try clear c1
                 try clear p1
                 try clear q1
                 try clear hx1
                 try clear qi1
                 try clear c2
                 try clear p2
                 try clear c3
                 try clear c6
                 try clear c6b0
                 try clear p6
                 try clear c7
                 try clear c7b0
                 try clear c8
                 try clear c8b0
                 try clear c9
                 try clear c9b0
                 try clear c10
                 try clear c10b0
                 try clear p10
                 try clear q10
                 try clear hx10
                 try clear c11
                 try clear p11
                 try clear q11
                 try clear hx11
                 try clear qi11
                 try clear c12
                 try clear c12b0
                 try clear c13
                 try clear c13b0
                 try clear c14
                 try clear c14b0
                 try clear c15
                 try clear c15b0
                 try clear c15b1
                 try clear c16
                 try clear c16b0
                 try clear c17
                 try clear c17b0
                 try clear c18
                 try clear c18b0
                 try clear c19
                 try clear c19b0
                 try clear c20
                 try clear c20b0
                 try clear c21
                 try clear c21b0
                 try clear hx107_0
                 try clear hx108_0
                 try clear hx109_0
                 try clear hx110_0
                 try clear hx111_0
                 try clear hx115_0
                 try clear p1
                 try clear p10
                 try clear p107
                 try clear p108
                 try clear p109
                 try clear p11
                 try clear p110
                 try clear p111
                 try clear p115
                 try clear p2
                 try clear p6
                 try clear q1
                 try clear q10
                 try clear q107
                 try clear q108
                 try clear q109
                 try clear q11
                 try clear q110
                 try clear q111
                 try clear q115
                 obtain ⟨x12_4, x13_4, rfl, rfl, HA, HK4, HO_3, HB⟩ := hrel
                 cases gk with
                 | zero => exact absurd HA.out (by simp [spec_Intersect.l4])
                 | succ k4 =>
                  have H := HA.out
                  clear HA
                  simp only [spec_Intersect.l4] at H
                  by_cases c22 : x12_4 < x13_4
                  ·rw [if_pos c22] at H
                   have c22b0 : decide (x12_4 < x13_4) = true := decide_eq_true c22
                   clear c22
                   obtain ⟨ji23, hji23⟩ : ∃ j_ : Int, (wrap64 (Int.tdiv (wrap64 (x12_4 + x13_4)) 2)) = j_ := ⟨_, rfl⟩
                   replace H : (if 0 ≤ (ji23) then (if (ji23) < ((rd_L1 l0 x55_3).length : Int) then (if (rd (rd_L1 l0 x55_3) (ji23)) < (rd (rd_L1 l0 0) x49_2) then (spec_Intersect.l4 k4 l0 x3_2 (rd (rd_L1 l0 0) x49_2) x9_3 (rd_L1 l0 x55_3) (wrap64 ((ji23) + 1)) x13_4 (rd_L1 l0 0) ((rd_L1 l0 0).length : Int) x49_2 l0 (l0.length : Int) x55_3) else (spec_Intersect.l4 k4 l0 x3_2 (rd (rd_L1 l0 0) x49_2) x9_3 (rd_L1 l0 x55_3) x12_4 ji23 (rd_L1 l0 0) ((rd_L1 l0 0).length : Int) x49_2 l0 (l0.length : Int) x55_3)) else (none)) else (none)) = some r := by first | (rw [hji23] at H; exact H) | (simp only [hji23] at H ⊢; exact H)
                   have hji23w : (IntKind.i64.wrap (Int.tdiv (wrap64 (x12_4 + x13_4)) 2)) = ji23 := (i64_w _).trans hji23
                   by_cases c24 : 0 ≤ (ji23)
                   ·rw [if_pos c24] at H
                    have c24b0 : decide (0 ≤ (ji23)) = true := decide_eq_true c24
                    clear c24
                    by_cases c25 : (ji23) < ((rd_L1 l0 x55_3).length : Int)
                    ·rw [if_pos c25] at H
                     have c25b0 : decide ((ji23) < ((rd_L1 l0 x55_3).length : Int)) = true := decide_eq_true c25
                     clear c25
                     by_cases c26 : (rd (rd_L1 l0 x55_3) (ji23)) < (rd (rd_L1 l0 0) x49_2)
                     ·rw [if_pos c26] at H
                      have c26b0 : decide ((rd (rd_L1 l0 x55_3) (ji23)) < (rd (rd_L1 l0 0) x49_2)) = true := decide_eq_true c26
                      clear c26
                      have H' := Aside0.mk H
                      clear H
                      have p116 : 0 ≤ ((ji23) : Int) := of_decide_eq_true (by first | (with_reducible assumption) | assumption)
                      have q116 : (ji23) < ((rd_L1 l0 x55_3).length : Int) := of_decide_eq_true (by first | (with_reducible assumption) | assumption)
                      obtain ⟨ad116, e116, hx116_0⟩ := Kd.at_int HR115_0.out (ji23) p116 q116
                      cases e116
                      replace hx116_0 := (HB.out.cell (World.block_lt_of_cell? w _ hx116_0)).trans hx116_0
                      replace p116 := eq_true p116
                      replace q116 := eq_true q116
                      go_wp2
                      repeat (go_quiet (fail); try go_wp2)
                      go_roundg k4
                      case measure => have := HK1.out; have := HK2.out; have := HK3.out; have := HK4.out; omega
                      case rel => exact ⟨(wrap64 ((ji23) + 1)), (x13_4), (by first | rfl | (simp; done) | (simp only [← hji23] <;> (first | rfl | simp)) | (simp [*]; done)), (by first | rfl | (simp; done) | (simp [*]; done)), H', ⟨by have := HK1.out; have := HK2.out; have := HK3.out; have := HK4.out; omega⟩, ⟨by (with_reducible repeat (first | apply Kd.R_alloc | apply Kd.R_drewN | apply Kd.R_drew)); exact HO_3.out⟩, ⟨by repeat (first | (with_reducible first | exact HB.out | apply below_alloc | apply pw_below_drewN | apply below_drew1) | exact HB.out)⟩⟩
                     ·rw [if_neg c26] at H
                      have c26b0 : decide ((rd (rd_L1 l0 x55_3) (ji23)) < (rd (rd_L1 l0 0) x49_2)) = false := decide_eq_false c26
                      clear c26
                      have H' := Aside0.mk H
                      clear H
                      have p116 : 0 ≤ ((ji23) : Int) := of_decide_eq_true (by first | (with_reducible assumption) | assumption)
                      have q116 : (ji23) < ((rd_L1 l0 x55_3).length : Int) := of_decide_eq_true (by first | (with_reducible assumption) | assumption)
                      obtain ⟨ad116, e116, hx116_0⟩ := Kd.at_int HR115_0.out (ji23) p116 q116
                      cases e116
                      replace hx116_0 := (HB.out.cell (World.block_lt_of_cell? w _ hx116_0)).trans hx116_0
                      replace p116 := eq_true p116
                      replace q116 := eq_true q116
                      go_wp2
                      repeat (go_quiet (fail); try go_wp2)
                      go_roundg k4
                      case measure => have := HK1.out; have := HK2.out; have := HK3.out; have := HK4.out; omega
                      case rel => exact ⟨(x12_4), (ji23), (by first | rfl | (simp; done) | (simp [*]; done)), (by first | rfl | (simp; done) | (simp only [← hji23] <;> (first | rfl | simp)) | (simp [*]; done)), H', ⟨by have := HK1.out; have := HK2.out; have := HK3.out; have := HK4.out; omega⟩, ⟨by (with_reducible repeat (first | apply Kd.R_alloc | apply Kd.R_drewN | apply Kd.R_drew)); exact HO_3.out⟩, ⟨by repeat (first | (with_reducible first | exact HB.out | apply below_alloc | apply pw_below_drewN | apply below_drew1) | exact HB.out)⟩⟩
                    ·rw [if_neg c25] at H
                     exact absurd H (by simp)
                   ·rw [if_neg c24] at H
                    exact absurd H (by simp)
                  ·rw [if_neg c22] at H
                   have c22b0 : decide (x12_4 < x13_4) = false := decide_eq_false c22
                   clear c22
                   by_cases c27 : x9_3 = true
                   ·subst c27
                    have H1 : (if x12_4 < ((rd_L1 l0 x55_3).length : Int) then (if 0 ≤ x12_4 then (spec_Intersect.l3 k4 l0 x3_2 (rd (rd_L1 l0 0) x49_2) ((rd (rd_L1 l0 x55_3) x12_4) == (rd (rd_L1 l0 0) x49_2)) (rd_L1 l0 0) ((rd_L1 l0 0).length : Int) x49_2 l0 (l0.length : Int) (wrap64 (x55_3 + 1))) else (none)) else (spec_Intersect.l3 k4 l0 x3_2 (rd (rd_L1 l0 0) x49_2) false (rd_L1 l0 0) ((rd_L1 l0 0).length : Int) x49_2 l0 (l0.length : Int) (wrap64 (x55_3 + 1)))) = some r := by rw [if_pos rfl] at H; exact H
                    clear H
                    have H := H1
                    clear H1
                    by_cases c28 : x12_4 < ((rd_L1 l0 x55_3).length : Int)
                    ·rw [if_pos c28] at H
                     have c28b0 : decide (x12_4 < ((rd_L1 l0 x55_3).length : Int)) = true := decide_eq_true c28
                     clear c28
                     by_cases c29 : 0 ≤ x12_4
                     ·rw [if_pos c29] at H
                      have c29b0 : decide (0 ≤ x12_4) = true := decide_eq_true c29
                      clear c29
                      have H' := Aside0.mk H
                      clear H
                      have p117 : 0 ≤ (x12_4 : Int) := of_decide_eq_true (by first | (with_reducible assumption) | assumption)
                      have q117 : x12_4 < ((rd_L1 l0 x55_3).length : Int) := of_decide_eq_true (by first | (with_reducible assumption) | assumption)
                      obtain ⟨ad117, e117, hx117_0⟩ := Kd.at_int HR115_0.out x12_4 p117 q117
                      cases e117
                      replace hx117_0 := (HB.out.cell (World.block_lt_of_cell? w _ hx117_0)).trans hx117_0
                      replace p117 := eq_true p117
                      replace q117 := eq_true q117
                      go_wp2
                      repeat (go_quiet (fail); try go_wp2)
                      go_roundg k4
                      case measure => have := HK1.out; have := HK2.out; have := HK3.out; have := HK4.out; omega
                      case rel => exact ⟨(((rd (rd_L1 l0 x55_3) x12_4) == (rd (rd_L1 l0 0) x49_2))), (wrap64 (x55_3 + 1)), (by first | rfl | (simp; done) | (simp [*]; done)), (by first | rfl | (simp; done) | (simp [*]; done)), H', ⟨by have := HK1.out; have := HK2.out; have := HK3.out; have := HK4.out; omega⟩, ⟨by (with_reducible repeat (first | apply Kd.R_alloc | apply Kd.R_drewN | apply Kd.R_drew)); exact HO_3.out⟩, ⟨by repeat (first | (with_reducible first | exact HB.out | apply below_alloc | apply pw_below_drewN | apply below_drew1) | exact HB.out)⟩⟩
                     ·rw [if_neg c29] at H
                      exact absurd H (by simp)
                    ·rw [if_neg c28] at H
                     have c28b0 : decide (x12_4 < ((rd_L1 l0 x55_3).length : Int)) = false := decide_eq_false c28
                     clear c28
                     have H' := Aside0.mk H
                     clear H
                     go_wp2
                     repeat (go_quiet (fail); try go_wp2)
                     go_roundg k4
                     case measure => have := HK1.out; have := HK2.out; have := HK3.out; have := HK4.out; omega
                     case rel => exact ⟨(false), (wrap64 (x55_3 + 1)), (by first | rfl | (simp; done) | (simp [*]; done)), (by first | rfl | (simp; done) | (simp [*]; done)), H', ⟨by have := HK1.out; have := HK2.out; have := HK3.out; have := HK4.out; omega⟩, ⟨by (with_reducible repeat (first | apply Kd.R_alloc | apply Kd.R_drewN | apply Kd.R_drew)); exact HO_3.out⟩, ⟨by repeat (first | (with_reducible first | exact HB.out | apply below_alloc | apply pw_below_drewN | apply below_drew1) | exact HB.out)⟩⟩
                   ·replace c27 := Bool.eq_false_iff.mpr c27
                    subst c27
                    have H1 : (spec_Intersect.l3 k4 l0 x3_2 (rd (rd_L1 l0 0) x49_2) false (rd_L1 l0 0) ((rd_L1 l0 0).length : Int) x49_2 l0 (l0.length : Int) (wrap64 (x55_3 + 1))) = some r := by rw [if_neg (show ¬ (false = true) by decide)] at H; exact H
                    clear H
                    have H := H1
                    clear H1
                    have H' := Aside0.mk H
                    clear H
                    go_wp2
                    repeat (go_quiet (fail); try go_wp2)
                    go_roundg k4
                    case measure => have := HK1.out; have := HK2.out; have := HK3.out; have := HK4.out; omega
                    case rel => exact ⟨(false), (wrap64 (x55_3 + 1)), (by first | rfl | (simp; done) | (simp [*]; done)), (by first | rfl | (simp; done) | (simp [*]; done)), H', ⟨by have := HK1.out; have := HK2.out; have := HK3.out; have := HK4.out; omega⟩, ⟨by (with_reducible repeat (first | apply Kd.R_alloc | apply Kd.R_drewN | apply Kd.R_drew)); exact HO_3.out⟩, ⟨by repeat (first | (with_reducible first | exact HB.out | apply below_alloc | apply pw_below_drewN | apply below_drew1) | exact HB.out)⟩⟩
               ·rw [if_neg c21] at H
                exact absurd H (by simp)
              ·rw [if_neg c20] at H
               exact absurd H (by simp)
             ·rw [if_neg c19] at H
              have c19b0 : decide (x55_3 < (l0.length : Int)) = false := decide_eq_false c19
              clear c19
              by_cases c30 : x9_3 = true
              ·subst c30
               have H1 : (if x3_2.length < 17592186044416 then (spec_Intersect.l2 k3 l0 (x3_2 ++ [(rd (rd_L1 l0 0) x49_2)]) (rd_L1 l0 0) ((rd_L1 l0 0).length : Int) (wrap64 (x49_2 + 1))) else (none)) = some r := by rw [if_pos rfl] at H; exact H
               clear H
               have H := H1
               clear H1
               by_cases c31 : x3_2.length < 17592186044416
               ·rw [if_pos c31] at H
                have LMc31 := Aside0.mk c31
                clear c31
                obtain ⟨y112, hy112⟩ : ∃ y_ : List Int, y_ = (x3_2 ++ [(rd (rd_L1 l0 0) x49_2)]) := ⟨_, rfl⟩
                replace H : (spec_Intersect.l2 k3 l0 y112 (rd_L1 l0 0) ((rd_L1 l0 0).length : Int) (wrap64 (x49_2 + 1))) = some r := by first | (rw [hy112]; with_reducible exact H) | (have H2_ := (Option.bind_some _ _).symm.trans H; rw [hy112]; with_reducible exact H2_) | (have H2_ := (Option.bind_some _ _).symm.trans H; with_reducible exact H2_) | with_reducible exact H | (rw [hy112]; exact H) | exact H
                have Ny112 := Aside0.mk hy112
                clear hy112
                have H' := Aside0.mk H
                clear H
                go_wp2_with (first | ((with_reducible refine gate_builtin (b := .append) (xs := #[.tmp 94, .tmp 96]) rfl ?_); (try (refine gate_guard (by rfl) ?_; dsimp only)); at_builtin; refine Kd.R_append (Kd.int .i64) (w0 := w) w.heap.size rfl (.tmp 94) (.tmp 96) 24 3 (.int .i64 0) 8 rfl Try.underlying24 info3 rfl (by decide) (by omega) u3 x3_2 (rd (rd_L1 l0 0) x49_2) [.int .i64 (rd (rd_L1 l0 0) x49_2)] (fun _ => True) (fun _ => False) rfl rfl ?aP (fun _ hk => hk.elim) ?aF ?aO ?aB ?aS ?aL ?_; (case aP => exact rfl); (case aB => exact (by repeat (first | (with_reducible first | exact HB.out | apply below_alloc | apply pw_below_drewN | apply below_drew1) | exact HB.out))); (case aF => exact (fun _ _ => trivial)); (case aO => exact (by (with_reducible repeat (first | apply Kd.R_alloc | apply Kd.R_drewN | apply Kd.R_drew)); exact HO_3.out)); (case aS => exact (below_size (by repeat (first | (with_reducible first | exact HB.out | apply below_alloc | apply pw_below_drewN | apply below_drew1) | exact HB.out)))); (case aL => have := LMc31.out; omega); intro v113 w32 ho hb hg hat; rw [← Ny112.out] at ho; have n0_ := Aside0.mk (hb); have n1_ := Aside0.mk (ho); clear HB; clear HO_3; have HB := n0_; have HO114 := n1_; clear n0_ n1_; clear ho hb hg hat))
                repeat (go_quiet (first | ((with_reducible refine gate_builtin (b := .append) (xs := #[.tmp 94, .tmp 96]) rfl ?_); (try (refine gate_guard (by rfl) ?_; dsimp only)); at_builtin; refine Kd.R_append (Kd.int .i64) (w0 := w) w.heap.size rfl (.tmp 94) (.tmp 96) 24 3 (.int .i64 0) 8 rfl Try.underlying24 info3 rfl (by decide) (by omega) u3 x3_2 (rd (rd_L1 l0 0) x49_2) [.int .i64 (rd (rd_L1 l0 0) x49_2)] (fun _ => True) (fun _ => False) rfl rfl ?aP (fun _ hk => hk.elim) ?aF ?aO ?aB ?aS ?aL ?_; (case aP => exact rfl); (case aB => exact (by repeat (first | (with_reducible first | exact HB.out | apply below_alloc | apply pw_below_drewN | apply below_drew1) | exact HB.out))); (case aF => exact (fun _ _ => trivial)); (case aO => exact (by (with_reducible repeat (first | apply Kd.R_alloc | apply Kd.R_drewN | apply Kd.R_drew)); exact HO_3.out)); (case aS => exact (below_size (by repeat (first | (with_reducible first | exact HB.out | apply below_alloc | apply pw_below_drewN | apply below_drew1) | exact HB.out)))); (case aL => have := LMc31.out; omega); intro v113 w32 ho hb hg hat; rw [← Ny112.out] at ho; have n0_ := Aside0.mk (hb); have n1_ := Aside0.mk (ho); clear HB; clear HO_3; have HB := n0_; have HO114 := n1_; clear n0_ n1_; clear ho hb hg hat)); try go_wp2_with (first | ((with_reducible refine gate_builtin (b := .append) (xs := #[.tmp 94, .tmp 96]) rfl ?_); (try (refine gate_guard (by rfl) ?_; dsimp only)); at_builtin; refine Kd.R_append (Kd.int .i64) (w0 := w) w.heap.size rfl (.tmp 94) (.tmp 96) 24 3 (.int .i64 0) 8 rfl Try.underlying24 info3 rfl (by decide) (by omega) u3 x3_2 (rd (rd_L1 l0 0) x49_2) [.int .i64 (rd (rd_L1 l0 0) x49_2)] (fun _ => True) (fun _ => False) rfl rfl ?aP (fun _ hk => hk.elim) ?aF ?aO ?aB ?aS ?aL ?_; (case aP => exact rfl); (case aB => exact (by repeat (first | (with_reducible first | exact HB.out | apply below_alloc | apply pw_below_drewN | apply below_drew1) | exact HB.out))); (case aF => exact (fun _ _ => trivial)); (case aO => exact (by (with_reducible repeat (first | apply Kd.R_alloc | apply Kd.R_drewN | apply Kd.R_drew)); exact HO_3.out)); (case aS => exact (below_size (by repeat (first | (with_reducible first | exact HB.out | apply below_alloc | apply pw_below_drewN | apply below_drew1) | exact HB.out)))); (case aL => have := LMc31.out; omega); intro v113 w32 ho hb hg hat; rw [← Ny112.out] at ho; have n0_ := Aside0.mk (hb); have n1_ := Aside0.mk (ho); clear HB; clear HO_3; have HB := n0_; have HO114 := n1_; clear n0_ n1_; clear ho hb hg hat)))
                go_roundg k3
                case measure => have := HK1.out; have := HK2.out; have := HK3.out; omega
                case rel => exact ⟨(y112), (wrap64 (x49_2 + 1)), (by first | rfl | (simp; done) | (simp [*]; done)), H', ⟨by have := HK1.out; have := HK2.out; have := HK3.out; omega⟩, ⟨by (with_reducible repeat (first | apply Kd.R_alloc | apply Kd.R_drewN | apply Kd.R_drew)); exact HO114.out⟩, ⟨by repeat (first | (with_reducible first | exact HB.out | apply below_alloc | apply pw_below_drewN | apply below_drew1) | exact HB.out)⟩⟩
               ·rw [if_neg c31] at H
                exact absurd H (by simp)
              ·replace c30 := Bool.eq_false_iff.mpr c30
               subst c30
               have H1 : (spec_Intersect.l2 k3 l0 x3_2 (rd_L1 l0 0) ((rd_L1 l0 0).length : Int) (wrap64 (x49_2 + 1))) = some r := by rw [if_neg (show ¬ (false = true) by decide)] at H; exact H
               clear H
               have H := H1
               clear H1
               have H' := Aside0.mk H
               clear H
               go_wp2
               repeat (go_quiet (fail); try go_wp2)
               go_roundg k3
               case measure => have := HK1.out; have := HK2.out; have := HK3.out; omega
               case rel => exact ⟨(x3_2), (wrap64 (x49_2 + 1)), (by first | rfl | (simp; done) | (simp [*]; done)), H', ⟨by have := HK1.out; have := HK2.out; have := HK3.out; omega⟩, ⟨by (with_reducible repeat (first | apply Kd.R_alloc | apply Kd.R_drewN | apply Kd.R_drew)); exact HO_3.out⟩, ⟨by repeat (first | (with_reducible first | exact HB.out | apply below_alloc | apply pw_below_drewN | apply below_drew1) | exact HB.out)⟩⟩
          ·rw [if_neg c18] at H
           exact absurd H (by simp)
         ·rw [if_neg c17] at H
          exact absurd H (by simp)
        ·rw [if_neg c16] at H
         have c16b0 : decide (x49_2 < ((rd_L1 l0 0).length : Int)) = false := decide_eq_false c16
         clear c16
         obtain rfl := Option.some.inj H
         go_wp2
         repeat (go_quiet (fail); try go_wp2)
         go_ret
         exact ⟨_, by first | rfl | (simp [errW_none, errW_some] <;> rfl) | (simp [*, errW_none, errW_some] <;> rfl), by (with_reducible repeat (first | apply Kd.R_alloc | apply Kd.R_drewN | apply Kd.R_drew)); exact HO_3.out, by repeat (first | (with_reducible first | exact HB.out | apply below_alloc | apply pw_below_drewN | apply below_drew1) | exact HB.out)⟩
     ·rw [if_neg c15] at H
      exact absurd H (by simp)
 ·replace c3 := Bool.eq_false_iff.mpr c3
  subst c3
  have H1 : (some y103) = some r := by rw [if_neg (show ¬ (false = true) by decide)] at H; exact H
  clear H
  have H := H1
  clear H1
  obtain rfl := Option.some.inj H
  go_enter Try.func13, Try.ntmps13
  go_wp2_with (first | ((with_reducible refine gate_dst (N := 15) rfl ?_); (try (refine gate_guard (by rfl) ?_; dsimp only)); refine Kd.R_lit (Kd.int .i64) _ 3 ?hg (N := 15) ?hd (xs := ([] : List Int)) (inner := []) (ok := fun _ => True) (okp := fun _ => True) ?hr ?hp (fun _ hk => hk) trivial (Below.refl _ _) (Nat.le_refl _) (by simp) ?_; (case hd => rfl); (case hg => rfl); (case hr => first | (go_simp; done) | (go_simp; rfl)); (case hp => exact (Reps.none _ _)); intro v104 w33 ho34 hb hg_ hnew_; clear hg_ hnew_; (first | rw [← Ny103.out] at ho34 | (simp only [Int.reduceToNat] at ho34; rw [← Ny103.out] at ho34)); have n0_ := Aside0.mk (Kd.R_lower ho34 (below_size (by repeat (first | (with_reducible first | exact HB.out | apply below_alloc | apply pw_below_drewN | apply below_drew1) | exact HB.out)))); have n1_ := Aside0.mk (below_step (by repeat (first | (with_reducible first | exact HB.out | apply below_alloc | apply pw_below_drewN | apply below_drew1) | exact HB.out)) hb); clear HB; have HO105 := n0_; have HB := n1_; clear n0_ n1_; clear hb ho34) | (go_at_call 64; (with_reducible refine (spec_l1Between.calls (l0.length : Int) 1 100 false _ A2.out).mono ?_); rintro e w' ⟨rfl, ⟨nd, rfl⟩⟩; (try first | exact ⟨rfl, _, World.drewN_drewN _ _ _⟩ | exact ⟨rfl, _, Eq.trans (World.drewN_drewN _ _ _) (congrArg (World.drewN _) (Nat.add_assoc _ _ _))⟩)))
  repeat (go_quiet (first | ((with_reducible refine gate_dst (N := 15) rfl ?_); (try (refine gate_guard (by rfl) ?_; dsimp only)); refine Kd.R_lit (Kd.int .i64) _ 3 ?hg (N := 15) ?hd (xs := ([] : List Int)) (inner := []) (ok := fun _ => True) (okp := fun _ => True) ?hr ?hp (fun _ hk => hk) trivial (Below.refl _ _) (Nat.le_refl _) (by simp) ?_; (case hd => rfl); (case hg => rfl); (case hr => first | (go_simp; done) | (go_simp; rfl)); (case hp => exact (Reps.none _ _)); intro v104 w33 ho34 hb hg_ hnew_; clear hg_ hnew_; (first | rw [← Ny103.out] at ho34 | (simp only [Int.reduceToNat] at ho34; rw [← Ny103.out] at ho34)); have n0_ := Aside0.mk (Kd.R_lower ho34 (below_size (by repeat (first | (with_reducible first | exact HB.out | apply below_alloc | apply pw_below_drewN | apply below_drew1) | exact HB.out)))); have n1_ := Aside0.mk (below_step (by repeat (first | (with_reducible first | exact HB.out | apply below_alloc | apply pw_below_drewN | apply below_drew1) | exact HB.out)) hb); clear HB; have HO105 := n0_; have HB := n1_; clear n0_ n1_; clear hb ho34) | (go_at_call 64; (with_reducible refine (spec_l1Between.calls (l0.length : Int) 1 100 false _ A2.out).mono ?_); rintro e w' ⟨rfl, ⟨nd, rfl⟩⟩; (try first | exact ⟨rfl, _, World.drewN_drewN _ _ _⟩ | exact ⟨rfl, _, Eq.trans (World.drewN_drewN _ _ _) (congrArg (World.drewN _) (Nat.add_assoc _ _ _))⟩))); try go_wp2_with (first | ((with_reducible refine gate_dst (N := 15) rfl ?_); (try (refine gate_guard (by rfl) ?_; dsimp only)); refine Kd.R_lit (Kd.int .i64) _ 3 ?hg (N := 15) ?hd (xs := ([] : List Int)) (inner := []) (ok := fun _ => True) (okp := fun _ => True) ?hr ?hp (fun _ hk => hk) trivial (Below.refl _ _) (Nat.le_refl _) (by simp) ?_; (case hd => rfl); (case hg => rfl); (case hr => first | (go_simp; done) | (go_simp; rfl)); (case hp => exact (Reps.none _ _)); intro v104 w33 ho34 hb hg_ hnew_; clear hg_ hnew_; (first | rw [← Ny103.out] at ho34 | (simp only [Int.reduceToNat] at ho34; rw [← Ny103.out] at ho34)); have n0_ := Aside0.mk (Kd.R_lower ho34 (below_size (by repeat (first | (with_reducible first | exact HB.out | apply below_alloc | apply pw_below_drewN | apply below_drew1) | exact HB.out)))); have n1_ := Aside0.mk (below_step (by repeat (first | (with_reducible first | exact HB.out | apply below_alloc | apply pw_below_drewN | apply below_drew1) | exact HB.out)) hb); clear HB; have HO105 := n0_; have HB := n1_; clear n0_ n1_; clear hb ho34) | (go_at_call 64; (with_reducible refine (spec_l1Between.calls (l0.length : Int) 1 100 false _ A2.out).mono ?_); rintro e w' ⟨rfl, ⟨nd, rfl⟩⟩; (try first | exact ⟨rfl, _, World.drewN_drewN _ _ _⟩ | exact ⟨rfl, _, Eq.trans (World.drewN_drewN _ _ _) (congrArg (World.drewN _) (Nat.add_assoc _ _ _))⟩))))
  go_ret
  exact ⟨_, by first | rfl | (simp [errW_none, errW_some] <;> rfl) | (simp [*, errW_none, errW_some] <;> rfl), by (with_reducible repeat (first | apply Kd.R_alloc | apply Kd.R_drewN | apply Kd.R_drew)); exact HO105.out, by repeat (first | (with_reducible first | exact HB.out | apply below_alloc | apply pw_below_drewN | apply below_drew1) | exact HB.out)⟩
end Go.Proofs.Ytkolhpmhbgbphaa.P
namespace Go.Proofs.Ytkolhpmhbgbphaa.PT
open Go.RowKit Go.Proofs.Ytkolhpmhbgbphaa.P Go.Proofs.YtkolhpmhbgbphaaW.PrintWords Go.Proofs.YtkolhpmhbgbphaaW.PrintLast Go.Proofs.Ytkolhpmhbgbphaa.EvKit
set_option linter.unusedVariables false
set_option linter.unusedSimpArgs false
theorem lb_mem {v : Int} {l : List Int} (hs : l.Pairwise (· < ·)) : v ∈ l ↔ ∃ h : lb v l < l.length, l[lb v l] = v := by
  constructor
  · intro h
    obtain ⟨i, hi, e⟩ := List.getElem_of_mem h
    have h1 := lb_ge v l i hi (by omega)
    rcases Nat.lt_or_ge (lb v l) i with hlt | hge
    · have h2 := List.pairwise_iff_getElem.1 hs (lb v l) i (by omega) hi hlt
      have h3 := lb_lt v l hs (lb v l) (by omega) (by omega)
      omega
    · have e2 : lb v l = i := by omega
      exact ⟨by omega, by simp only [e2]; exact e⟩
  · rintro ⟨h, e⟩
    rw [← e]; exact List.getElem_mem h
variable {x0 : List (List Int)} {x3 : List Int} {x8 : Int} {x9 : Bool} {x11 x47 : List Int} {x48 x49 x54 : Int} {x53 : List (List Int)} {r : List Int}
theorem sI4end {y : Nat} (hy : y ≤ 1048576) (hs : x11.Pairwise (· < ·)) (hl : x11.length ≤ 1048576)
    (H : Ev (fun k => spec_Intersect.l3 k x0 x3 x8 (x9 && decide (x8 ∈ x11)) x47 x48 x49 x53 x54 ((y + 1 : Nat) : Int)) r) {i : Nat} (hi : i = lb x8 x11) :
    Ev (fun k => spec_Intersect.l4 k x0 x3 x8 x9 x11 (i : Int) (i : Int) x47 x48 x49 x53 x54 (y : Int)) r := by
  refine Ev.succ ?_
  simp only [spec_Intersect.l4, if_neg (show ¬ ((i : Int) < (i : Int)) by omega), w64n (show y ≤ 9223372036854775806 by omega)]
  cases x9 with
  | false => simpa using H
  | true =>
    simp only [if_true]
    rw [Bool.true_and] at H
    by_cases hlt : i < x11.length
    · simp only [if_pos (show ((i : Int) < (x11.length : Int)) by omega), if_pos (show (0 : Int) ≤ (i : Int) by omega), rd_at hlt]
      have e : decide (x8 ∈ x11) = (x11[i] == x8) := by
        rw [Bool.eq_iff_iff, decide_eq_true_iff, beq_iff_eq, lb_mem hs]
        subst hi
        exact ⟨fun ⟨_, h⟩ => h, fun h => ⟨hlt, h⟩⟩
      rw [e] at H; exact H
    · simp only [if_neg (show ¬ ((i : Int) < (x11.length : Int)) by omega)]
      have e : decide (x8 ∈ x11) = false := by
        rw [decide_eq_false_iff_not, lb_mem hs]
        rintro ⟨h, _⟩; omega
      rw [e] at H; exact H
theorem sI4 {y : Nat} (hy : y ≤ 1048576) (hs : x11.Pairwise (· < ·)) (hl : x11.length ≤ 1048576)
    (H : Ev (fun k => spec_Intersect.l3 k x0 x3 x8 (x9 && decide (x8 ∈ x11)) x47 x48 x49 x53 x54 ((y + 1 : Nat) : Int)) r) :
    ∀ d i j, j ≤ i + d → i ≤ lb x8 x11 → lb x8 x11 ≤ j → j ≤ x11.length → Ev (fun k => spec_Intersect.l4 k x0 x3 x8 x9 x11 ((i : Nat) : Int) ((j : Nat) : Int) x47 x48 x49 x53 x54 (y : Int)) r := by
  intro d
  induction d with
  | zero =>
    intro i j h1 h2 h3 h4
    have e : j = i := by omega
    subst e
    exact sI4end hy hs hl H (by omega)
  | succ d ih =>
    intro i j h1 h2 h3 h4
    by_cases hij : i < j
    · have hm : (i + j) / 2 < x11.length := by omega
      have e1 : wrap64 (Int.tdiv (wrap64 ((i : Int) + (j : Int))) 2) = (((i + j) / 2 : Nat) : Int) := by
        rw [w64 (n := (i : Int) + (j : Int)) (by omega) (by omega), Int.tdiv_eq_ediv_of_nonneg (by omega), w64 (by omega) (by omega)]
        omega
      refine Ev.succ ?_
      simp only [spec_Intersect.l4, if_pos (show ((i : Int) < (j : Int)) by omega), e1, if_pos (show (0 : Int) ≤ (((i + j) / 2 : Nat) : Int) by omega), if_pos (show ((((i + j) / 2 : Nat) : Int) < (x11.length : Int)) by omega), rd_at hm, w64n (show (i + j) / 2 ≤ 9223372036854775806 by omega)]
      by_cases hv : x11[(i + j) / 2] < x8
      · simp only [if_pos hv]
        have := lb_lt x8 x11 hs _ hm hv
        exact ih ((i + j) / 2 + 1) j (by omega) (by omega) h3 h4
      · simp only [if_neg hv]
        have := lb_ge x8 x11 _ hm hv
        exact ih i ((i + j) / 2) (by omega) h2 (by omega) (by omega)
    · have e : j = i := by omega
      subst e
      exact sI4end hy hs hl H (by omega)
theorem sI3 (hs : ∀ l, l ∈ x53 → l.Pairwise (· < ·) ∧ l.length ≤ 1048576) (hn : x53.length ≤ 1048576) (h3 : x3.length < 17592186044416) {q : Nat} (hq : q ≤ 1048576) :
    ∀ d y, y + d = x53.length → ∀ x9 : Bool, Ev (fun k => spec_Intersect.l2 k x0 (if (x9 && (x53.drop y).all (fun l => decide (x8 ∈ l))) = true then x3 ++ [x8] else x3) x47 x48 ((q + 1 : Nat) : Int)) r →
      Ev (fun k => spec_Intersect.l3 k x0 x3 x8 x9 x47 x48 (q : Int) x53 (x53.length : Int) ((y : Nat) : Int)) r := by
  intro d
  induction d with
  | zero =>
    intro y hy x9 H
    refine Ev.succ ?_
    simp only [spec_Intersect.l3, if_neg (show ¬ ((y : Int) < (x53.length : Int)) by omega), w64n (show q ≤ 9223372036854775806 by omega)]
    rw [List.drop_of_length_le (by omega), List.all_nil, Bool.and_true] at H
    cases x9 with
    | true => simp only [if_true] at H ⊢; simp only [if_pos h3]; exact H
    | false => simpa using H
  | succ d ih =>
    intro y hy x9 H
    have hlt : y < x53.length := by omega
    have hr : rd_L1 x53 (y : Int) = x53[y] := getD_at _ hlt
    refine Ev.succ ?_
    simp only [spec_Intersect.l3, if_pos (show ((y : Int) < (x53.length : Int)) by omega), if_pos (show (0 : Int) ≤ (y : Int) by omega), hr]
    have hs1 := hs _ (List.getElem_mem hlt)
    rw [drop_at hlt, List.all_cons, ← Bool.and_assoc] at H
    exact sI4 (by omega) hs1.1 hs1.2 (ih (y + 1) (by omega) _ H) x53[y].length 0 x53[y].length (by omega) (by omega) (lb_le _ _) (Nat.le_refl _)
theorem sI2 (hs : ∀ l, l ∈ x0 → l.Pairwise (· < ·) ∧ l.length ≤ 1048576) (hn : x0.length ≤ 1048576) (h47 : x47.length ≤ 1048576) :
    ∀ d q, q + d = x47.length → ∀ x3 : List Int, x3.length ≤ q → Ev (fun k => spec_Intersect.l2 k x0 x3 x47 (x47.length : Int) ((q : Nat) : Int)) (x3 ++ (x47.drop q).filter (fun x => x0.all (fun l => decide (x ∈ l)))) := by
  intro d
  induction d with
  | zero =>
    intro q hq x3 h3
    refine Ev.succ ?_
    simp only [spec_Intersect.l2, if_neg (show ¬ ((q : Int) < (x47.length : Int)) by omega)]
    rw [List.drop_of_length_le (by omega), List.filter_nil, List.append_nil]
    exact Ev.now _
  | succ d ih =>
    intro q hq x3 h3
    have hlt : q < x47.length := by omega
    refine Ev.succ ?_
    simp only [spec_Intersect.l2, if_pos (show ((q : Int) < (x47.length : Int)) by omega), if_pos (show (0 : Int) ≤ (q : Int) by omega), rd_at hlt]
    refine sI3 hs hn (by omega) (by omega) x0.length 0 (by omega) true ?_
    rw [List.drop_zero, Bool.true_and, drop_at hlt, List.filter_cons]
    by_cases h : x0.all (fun l => decide (x47[q] ∈ l)) = true
    · simp only [if_pos h]
      have h1 := ih (q + 1) (by omega) (x3 ++ [x47[q]]) (by simp; omega)
      rw [List.append_assoc] at h1; exact h1
    · simp only [if_neg h]
      exact ih (q + 1) (by omega) x3 (by omega)
theorem sI1 {x5 : List Int} (hl : x5.length ≤ 1048576) {x21 : List (List Int)} {x22 : Int} {q : Nat} (hq : q ≤ 1048576) {R : List Int} (hgo : x5.Pairwise (· < ·) → Ev (fun k => spec_Intersect.l0 k x0 x3 x21 x22 ((q + 1 : Nat) : Int)) R) (hno : ¬ x5.Pairwise (· < ·) → R = x3) :
    ∀ d i, i + d = x5.length + 1 → 1 ≤ i → (∀ j, (h : j + 1 < x5.length) → j + 1 < i → x5[j] < x5[j + 1]) → Ev (fun k => spec_Intersect.l1 k x0 x3 x5 ((i : Nat) : Int) x21 x22 (q : Int)) R := by
  intro d
  induction d with
  | zero =>
    intro i hi h1 hs
    refine Ev.succ ?_
    simp only [spec_Intersect.l1, if_neg (show ¬ ((i : Int) < (x5.length : Int)) by omega), w64n (show q ≤ 9223372036854775806 by omega)]
    exact hgo (pairwise_adj (fun j hj => hs j hj (by omega)))
  | succ d ih =>
    intro i hi h1 hs
    refine Ev.succ ?_
    by_cases hlt : i < x5.length
    · have e1 : wrap64 ((i : Int) - 1) = ((i - 1 : Nat) : Int) := by rw [w64 (by omega) (by omega)]; omega
      simp only [spec_Intersect.l1, if_pos (show ((i : Int) < (x5.length : Int)) by omega), if_pos (show (0 : Int) ≤ (i : Int) by omega), e1, if_pos (show (0 : Int) ≤ ((i - 1 : Nat) : Int) by omega), if_pos (show (((i - 1 : Nat) : Int) < (x5.length : Int)) by omega), rd_at hlt, rd_at (show i - 1 < x5.length by omega), w64n (show i ≤ 9223372036854775806 by omega)]
      by_cases h : x5[i] ≤ x5[i - 1]
      · simp only [if_pos h]
        rw [hno (fun hp => by
          have := List.pairwise_iff_getElem.1 hp (i - 1) i (by omega) hlt (by omega)
          omega)]
        exact Ev.now _
      · simp only [if_neg h]
        refine ih (i + 1) (by omega) (by omega) (fun j hj hji => ?_)
        by_cases e : j + 1 < i
        · exact hs j hj e
        · have e2 : i = j + 1 := by omega
          subst e2
          simp only [Nat.add_sub_cancel] at h
          omega
    · simp only [spec_Intersect.l1, if_neg (show ¬ ((i : Int) < (x5.length : Int)) by omega), w64n (show q ≤ 9223372036854775806 by omega)]
      exact hgo (pairwise_adj (fun j hj => hs j hj (by omega)))
open Classical in
theorem sI0 (ls : List (List Int)) (hn : ls.length ≤ 1048576) (hl : ∀ l, l ∈ ls → l.length ≤ 1048576) {R S : List Int} (hend : (∀ l, l ∈ ls → l.Pairwise (· < ·)) → Ev (fun k => spec_Intersect.l0 k ls [] ls (ls.length : Int) (ls.length : Int)) S) (hR1 : (∀ l, l ∈ ls → l.Pairwise (· < ·)) → R = S) (hR2 : ¬ (∀ l, l ∈ ls → l.Pairwise (· < ·)) → R = []) :
    ∀ d q, q + d = ls.length → (∀ j, (h : j < ls.length) → j < q → ls[j].Pairwise (· < ·)) → Ev (fun k => spec_Intersect.l0 k ls [] ls (ls.length : Int) ((q : Nat) : Int)) R := by
  intro d
  induction d with
  | zero =>
    intro q hq hs
    have e : q = ls.length := by omega
    subst e
    have hall : ∀ l, l ∈ ls → l.Pairwise (· < ·) := fun l hm => by
      obtain ⟨j, hj, rfl⟩ := List.getElem_of_mem hm
      exact hs j hj hj
    rw [hR1 hall]
    exact hend hall
  | succ d ih =>
    intro q hq hs
    have hlt : q < ls.length := by omega
    have hr : rd_L1 ls (q : Int) = ls[q] := getD_at _ hlt
    refine Ev.succ ?_
    simp only [spec_Intersect.l0, if_pos (show ((q : Int) < (ls.length : Int)) by omega), if_pos (show (0 : Int) ≤ (q : Int) by omega), hr]
    refine sI1 (hl _ (List.getElem_mem hlt)) (by omega) (fun hp => ih (q + 1) (by omega) (fun j hj hjq => ?_)) (fun hnp => hR2 (fun hall => hnp (hall _ (List.getElem_mem hlt)))) ls[q].length 1 (by omega) (by omega) (fun j h1 h2 => by omega)
    by_cases e : j < q
    · exact hs j hj e
    · have e2 : j = q := by omega
      subst e2; exact hp
theorem interF_all (ls : List (List Int)) (h0 : 0 < ls.length) : interF ls.length (fun j => ls.getD j []) = (ls.getD 0 []).filter (fun x => ls.all (fun l => decide (x ∈ l))) := by
  unfold interF
  refine List.filter_congr (fun x _ => ?_)
  rw [Bool.eq_iff_iff, List.all_eq_true, List.all_eq_true]
  constructor
  · intro H l hl
    obtain ⟨j, hj, rfl⟩ := List.getElem_of_mem hl
    have h1 : x ∈ ls.getD j [] := of_decide_eq_true (H j (List.mem_range.2 hj))
    rw [List.getD_eq_getElem?_getD, List.getElem?_eq_getElem hj] at h1
    exact decide_eq_true h1
  · intro H j hj
    have hj2 := List.mem_range.1 hj
    have h1 : x ∈ ls[j] := of_decide_eq_true (H _ (List.getElem_mem hj2))
    have e : ls.getD j [] = ls[j] := by rw [List.getD_eq_getElem?_getD, List.getElem?_eq_getElem hj2]; rfl
    exact decide_eq_true (show x ∈ ls.getD j [] by rw [e]; exact h1)
theorem specInter_ev (ls : List (List Int)) (hn : ls.length ≤ 1048576) (hl : ∀ l, l ∈ ls → l.length ≤ 1048576) : Ev (fun k => spec_Intersect.f k ls) (interR ls) := by
  unfold spec_Intersect.f
  simp only [Option.bind_some, between_v]
  by_cases h : (1 : Int) ≤ (ls.length : Int) ∧ (ls.length : Int) ≤ 100
  · simp only [decide_eq_true h, if_true]
    refine sI0 ls hn hl (S := interF ls.length (fun j => ls.getD j [])) (fun hall => ?_) (fun hall => ?_) (fun hno => ?_) ls.length 0 (by omega) (fun j _ hj => by omega)
    · refine Ev.succ ?_
      have hr : rd_L1 ls 0 = ls.getD 0 [] := rfl
      simp only [spec_Intersect.l0, if_neg (show ¬ ((ls.length : Int) < (ls.length : Int)) by omega), if_pos (show (0 : Int) < (ls.length : Int) by omega), hr]
      have hm : ls.getD 0 [] ∈ ls := by rw [List.getD_eq_getElem?_getD, List.getElem?_eq_getElem (show 0 < ls.length by omega)]; exact List.getElem_mem _
      have h2 := sI2 (x0 := ls) (x47 := ls.getD 0 []) (fun l hm => ⟨hall l hm, hl l hm⟩) hn (hl _ hm) (ls.getD 0 []).length 0 (by omega) [] (by simp)
      rw [List.nil_append, List.drop_zero, ← interF_all ls (by omega)] at h2
      exact h2
    · unfold interR
      rw [if_pos ⟨⟨by omega, by omega⟩, hall⟩]
    · unfold interR
      rw [if_neg (fun h2 => hno h2.2)]
  · simp only [decide_eq_false h, Bool.false_eq_true, if_false]
    have e : interR ls = [] := by
      unfold interR
      rw [if_neg]
      intro h2
      exact h ⟨by have := h2.1.1; omega, by have := h2.1.2; omega⟩
    rw [e]; exact Ev.now _
theorem interR_len (ls : List (List Int)) (hl : ∀ l, l ∈ ls → l.length ≤ 1048576) : (interR ls).length ≤ 1048576 := by
  unfold interR
  split
  · rename_i h
    refine Nat.le_trans (interF_len _ _) (hl _ ?_)
    rw [List.getD_eq_getElem?_getD, List.getElem?_eq_getElem (show 0 < ls.length by omega)]; exact List.getElem_mem _
  · simp
end Go.Proofs.Ytkolhpmhbgbphaa.PT
namespace Go.Proofs.Ytkolhpmhbgbphaa.P
open Go.RowKit Go.Proofs.YtkolhpmhbgbphaaW.PrintWords Go.Proofs.YtkolhpmhbgbphaaW.PrintLast Go.Proofs.YtkolhpmhbgbphaaW.PrintMore
attribute [local go_sem] max2_int min2_int max_two min_two max_three min_three max_four min_four
set_option linter.unusedVariables false
set_option linter.unusedSimpArgs false
def laws_szIntS.f (l0 : List Int) (a1 : Int) : Option (Int) := if (wrap64 (a1 - (l0.length : Int))) < 0 then (some (-1)) else (some (wrap64 (a1 - (l0.length : Int))))
set_option maxHeartbeats 8000000 in
set_option maxRecDepth 100000 in
theorem laws_szIntS.calls (A0 : Option Addr) (c0 : Nat) (l0 : List Int) (a1 : Int) (r : Int) (w : World) (hr0 : Kd.C (Kd.int .i64) w A0 l0.length l0) (hc0 : l0.length ≤ c0) (h : laws_szIntS.f l0 a1 = some r) :
  Calls Try.prog 63 #[.slice A0 l0.length c0, .int .i64 a1] w fun e w' => e = .returned (.int .i64 r) ∧ Drawn0 w w' := by
 have HR0 := Aside0.mk hr0
 have HC0 := Aside0.mk hc0
 clear hr0 hc0
 have H : (if (wrap64 (a1 - (l0.length : Int))) < 0 then (some (-1)) else (some (wrap64 (a1 - (l0.length : Int))))) = some r := h
 clear h
 by_cases c3 : (wrap64 (a1 - (l0.length : Int))) < 0
 ·rw [if_pos c3] at H
  have c3b0 : decide ((wrap64 (a1 - (l0.length : Int))) < 0) = true := decide_eq_true c3
  clear c3
  obtain rfl := Option.some.inj H
  go_enter Try.func63, Try.ntmps63
  go_wp2
  go_ret
  exact ⟨by first | rfl | (simp; done) | (simp [*]; done), by repeat (first | exact Drawn0.refl _ | apply Drawn0.step)⟩
 ·rw [if_neg c3] at H
  have c3b0 : decide ((wrap64 (a1 - (l0.length : Int))) < 0) = false := decide_eq_false c3
  clear c3
  obtain rfl := Option.some.inj H
  go_enter Try.func63, Try.ntmps63
  go_wp2
  go_ret
  exact ⟨by first | rfl | (simp; done) | (simp [*]; done), by repeat (first | exact Drawn0.refl _ | apply Drawn0.step)⟩
end Go.Proofs.Ytkolhpmhbgbphaa.P
