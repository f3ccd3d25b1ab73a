/-
  Part 7 of the proof of this: The law FnExactSemijoin answers true at every argument.
-/
import Derived.Test.YtkohcdddgjaijaaKSemijoin1
import Derived.Test.YtkohcdddgjaijaaKSemijoin2
import Derived.Test.YtkohcdddgjaijaaKSemijoin3
import Derived.Test.YtkohcdddgjaijaaKSemijoin6
import Derived.Shelf.SlSortCmp.Whole1
import Derived.Lib.SlicesCompact
import Derived.Lib.SliceRun
import Derived.Deep.LoopGhost
import Derived.Laws.MakeOwn
import Derived.Laws.CopyOwn
import Derived.Laws.MathBits
import Derived.Deep.RegionHeld3
import Derived.Laws.AppendOwn
namespace Go.Proofs.Ytkohcdddgjaijaa.PT
set_option linter.unusedSimpArgs false
set_option linter.unusedVariables false
theorem cmpL_self : ∀ a : List Int, cmpL a a = 0
  | [] => rfl
  | a :: s => by simp only [cmpL]; rw [if_neg (by omega), if_neg (by omega)]; exact cmpL_self s
theorem cmpL_neg : ∀ a b : List Int, cmpL b a = -cmpL a b
  | [], [] => rfl
  | [], _ :: _ => rfl
  | _ :: _, [] => rfl
  | a :: s, b :: t => by
    simp only [cmpL]
    by_cases h1 : a < b
    · rw [if_neg (by omega), if_pos h1, if_pos h1]; rfl
    · by_cases h2 : b < a
      · rw [if_pos h2, if_neg h1, if_pos h2]
      · rw [if_neg h2, if_neg h1, if_neg h1, if_neg h2]; exact cmpL_neg s t
theorem cmpL_eq : ∀ a b : List Int, cmpL a b = 0 → a = b
  | [], [], _ => rfl
  | [], _ :: _, h => by simp [cmpL] at h
  | _ :: _, [], h => by simp [cmpL] at h
  | a :: s, b :: t, h => by
    simp only [cmpL] at h
    by_cases h1 : a < b
    · rw [if_pos h1] at h; omega
    · rw [if_neg h1] at h
      by_cases h2 : b < a
      · rw [if_pos h2] at h; omega
      · rw [if_neg h2] at h
        rw [cmpL_eq s t h, show a = b by omega]
theorem cmpL_trans : ∀ a b c : List Int, cmpL a b < 0 → cmpL b c < 0 → cmpL a c < 0
  | [], [], _, h, _ => by simp [cmpL] at h
  | [], _ :: _, [], _, h => by simp [cmpL] at h
  | [], _ :: _, _ :: _, _, _ => by simp [cmpL]
  | _ :: _, [], _, h, _ => by simp [cmpL] at h
  | _ :: _, _ :: _, [], _, h => by simp [cmpL] at h
  | a :: s, b :: t, c :: u, h, k => by
    simp only [cmpL] at h k ⊢
    by_cases h1 : a < b
    · by_cases k1 : b < c
      · rw [if_pos (by omega)]; omega
      · rw [if_neg k1] at k
        by_cases k2 : c < b
        · rw [if_pos k2] at k; omega
        · rw [if_pos (by omega)]; omega
    · rw [if_neg h1] at h
      by_cases h2 : b < a
      · rw [if_pos h2] at h; omega
      · rw [if_neg h2] at h
        by_cases k1 : b < c
        · rw [if_pos (by omega)]; omega
        · rw [if_neg k1] at k
          by_cases k2 : c < b
          · rw [if_pos k2] at k; omega
          · rw [if_neg k2] at k
            rw [if_neg (by omega), if_neg (by omega)]
            exact cmpL_trans s t u h k
def Strict (l : List (List Int)) : Prop := l.Pairwise (fun a b => cmpL a b < 0)
theorem strict_unique : ∀ a b : List (List Int), Strict a → Strict b → (∀ x, x ∈ a ↔ x ∈ b) → a = b
  | [], [], _, _, _ => rfl
  | [], y :: b, _, _, h => by have := (h y).2 (by simp); simp at this
  | x :: a, [], _, _, h => by have := (h x).1 (by simp); simp at this
  | x :: a, y :: b, ha, hb, h => by
    unfold Strict at ha hb
    rw [List.pairwise_cons] at ha hb
    have hxy : x = y := by
      rcases List.mem_cons.1 ((h x).1 (by simp)) with e | e
      · exact e
      · rcases List.mem_cons.1 ((h y).2 (by simp)) with f | f
        · exact f.symm
        · have h1 := hb.1 x e
          have h2 := ha.1 y f
          have h3 := cmpL_neg x y
          omega
    subst hxy
    have : a = b := strict_unique a b ha.2 hb.2 (fun z => by
      have h4 := h z
      simp only [List.mem_cons] at h4
      constructor
      · intro hz
        rcases h4.1 (.inr hz) with e | e
        · subst e
          have := ha.1 z hz
          rw [cmpL_self] at this; omega
        · exact e
      · intro hz
        rcases h4.2 (.inr hz) with e | e
        · subst e
          have := hb.1 z hz
          rw [cmpL_self] at this; omega
        · exact e)
    rw [this]
def insR (x : List Int) : List (List Int) → List (List Int)
  | [] => [x]
  | y :: r => if cmpL x y < 0 then x :: y :: r else if cmpL x y = 0 then y :: r else y :: insR x r
theorem mem_insR (x z : List Int) : ∀ l, z ∈ insR x l ↔ z = x ∨ z ∈ l
  | [] => by simp [insR]
  | y :: r => by
    simp only [insR]
    by_cases h1 : cmpL x y < 0
    · rw [if_pos h1]; simp
    · rw [if_neg h1]
      by_cases h2 : cmpL x y = 0
      · rw [if_pos h2]
        have := cmpL_eq x y h2
        subst this
        simp
      · rw [if_neg h2]
        simp only [List.mem_cons, mem_insR x z r]
        constructor
        · rintro (h | h | h)
          · exact .inr (.inl h)
          · exact .inl h
          · exact .inr (.inr h)
        · rintro (h | h | h)
          · exact .inr (.inl h)
          · exact .inl h
          · exact .inr (.inr h)
theorem strict_insR (x : List Int) : ∀ l, Strict l → Strict (insR x l)
  | [], _ => by simp [insR, Strict]
  | y :: r, h => by
    unfold Strict at h ⊢
    have hc := h
    rw [List.pairwise_cons] at h
    simp only [insR]
    by_cases h1 : cmpL x y < 0
    · rw [if_pos h1, List.pairwise_cons]
      refine ⟨fun z hz => ?_, hc⟩
      rcases List.mem_cons.1 hz with e | e
      · rw [e]; exact h1
      · exact cmpL_trans x y z h1 (h.1 z e)
    · rw [if_neg h1]
      by_cases h2 : cmpL x y = 0
      · rw [if_pos h2]; exact hc
      · rw [if_neg h2, List.pairwise_cons]
        refine ⟨fun z hz => ?_, strict_insR x r h.2⟩
        rcases (mem_insR x z r).1 hz with e | e
        · rw [e]; have := cmpL_neg x y; omega
        · exact h.1 z e
def sdR (l : List (List Int)) : List (List Int) := l.foldr insR []
theorem mem_sdR (z : List Int) : ∀ l, z ∈ sdR l ↔ z ∈ l
  | [] => by simp [sdR]
  | x :: r => by
    have : sdR (x :: r) = insR x (sdR r) := rfl
    rw [this, mem_insR, mem_sdR z r]; simp
theorem strict_sdR : ∀ l, Strict (sdR l)
  | [] => by simp [sdR, Strict]
  | x :: r => strict_insR x _ (strict_sdR r)
theorem sdR_of {a l : List (List Int)} (h : Strict a) (hm : ∀ x, x ∈ a ↔ x ∈ l) : a = sdR l :=
  strict_unique a _ h (strict_sdR l) (fun x => (hm x).trans (mem_sdR x l).symm)
theorem sdR_len (l : List (List Int)) : (sdR l).length ≤ l.length := by
  induction l with
  | nil => simp [sdR]
  | cons x r ih =>
    have h : ∀ m : List (List Int), (insR x m).length ≤ m.length + 1 := by
      intro m
      induction m with
      | nil => simp [insR]
      | cons y s ih2 =>
        simp only [insR]
        split
        · simp
        · split
          · simp
          · simp only [List.length_cons]; omega
    have h2 := h (sdR r)
    have : sdR (x :: r) = insR x (sdR r) := rfl
    rw [this]; simp only [List.length_cons]; omega
def mrg : List (List Int) → List (List Int) → List (List Int)
  | [], b => b
  | a, [] => a
  | x :: a, y :: b => if cmpL x y < 0 then x :: mrg a (y :: b) else if 0 < cmpL x y then y :: mrg (x :: a) b else x :: mrg a b
  termination_by a b => a.length + b.length
theorem mrg_nil (a : List (List Int)) : mrg a [] = a := by cases a <;> simp [mrg]
theorem mem_mrg : ∀ (a b : List (List Int)) (z : List Int), z ∈ mrg a b ↔ z ∈ a ∨ z ∈ b
  | [], b, z => by simp [mrg]
  | x :: a, [], z => by simp [mrg]
  | x :: a, y :: b, z => by
    rw [mrg]
    by_cases h1 : cmpL x y < 0
    · rw [if_pos h1, List.mem_cons, mem_mrg a (y :: b) z]
      simp only [List.mem_cons, or_assoc]
    · rw [if_neg h1]
      by_cases h2 : 0 < cmpL x y
      · rw [if_pos h2, List.mem_cons, mem_mrg (x :: a) b z]
        simp only [List.mem_cons]
        constructor
        · rintro (h | (h | h) | h)
          · exact .inr (.inl h)
          · exact .inl (.inl h)
          · exact .inl (.inr h)
          · exact .inr (.inr h)
        · rintro ((h | h) | h | h)
          · exact .inr (.inl (.inl h))
          · exact .inr (.inl (.inr h))
          · exact .inl h
          · exact .inr (.inr h)
      · rw [if_neg h2, List.mem_cons, mem_mrg a b z]
        have := cmpL_eq x y (by omega)
        subst this
        simp only [List.mem_cons]
        constructor
        · rintro (h | h | h)
          · exact .inl (.inl h)
          · exact .inl (.inr h)
          · exact .inr (.inr h)
        · rintro ((h | h) | h | h)
          · exact .inl h
          · exact .inr (.inl h)
          · exact .inl h
          · exact .inr (.inr h)
  termination_by a b => a.length + b.length
theorem strict_mrg : ∀ (a b : List (List Int)), Strict a → Strict b → Strict (mrg a b)
  | [], b, _, hb => by simpa [mrg] using hb
  | x :: a, [], ha, _ => by simpa [mrg] using ha
  | x :: a, y :: b, ha, hb => by
    have ha' := ha; have hb' := hb
    unfold Strict at ha hb
    rw [List.pairwise_cons] at ha hb
    rw [mrg]
    by_cases h1 : cmpL x y < 0
    · rw [if_pos h1]
      unfold Strict
      rw [List.pairwise_cons]
      refine ⟨fun z hz => ?_, strict_mrg a (y :: b) ha.2 hb'⟩
      rcases (mem_mrg a (y :: b) z).1 hz with e | e
      · exact ha.1 z e
      · rcases List.mem_cons.1 e with e | e
        · rw [e]; exact h1
        · exact cmpL_trans x y z h1 (hb.1 z e)
    · rw [if_neg h1]
      by_cases h2 : 0 < cmpL x y
      · rw [if_pos h2]
        have h3 : cmpL y x < 0 := by have := cmpL_neg x y; omega
        unfold Strict
        rw [List.pairwise_cons]
        refine ⟨fun z hz => ?_, strict_mrg (x :: a) b ha' hb.2⟩
        rcases (mem_mrg (x :: a) b z).1 hz with e | e
        · rcases List.mem_cons.1 e with e | e
          · rw [e]; exact h3
          · exact cmpL_trans y x z h3 (ha.1 z e)
        · exact hb.1 z e
      · rw [if_neg h2]
        have e := cmpL_eq x y (by omega)
        subst e
        unfold Strict
        rw [List.pairwise_cons]
        refine ⟨fun z hz => ?_, strict_mrg a b ha.2 hb.2⟩
        rcases (mem_mrg a b z).1 hz with e | e
        · exact ha.1 z e
        · exact hb.1 z e
  termination_by a b => a.length + b.length
theorem mrg_sdR (a b : List (List Int)) : mrg (sdR a) (sdR b) = sdR (a ++ b) :=
  sdR_of (strict_mrg _ _ (strict_sdR a) (strict_sdR b)) (fun x => by rw [mem_mrg, mem_sdR, mem_sdR, List.mem_append])
theorem sdR_one (x : List Int) : sdR [x] = [x] := rfl
def cpt : List (List Int) → List (List Int)
  | [] => []
  | [x] => [x]
  | x :: y :: r => if y = x then cpt (y :: r) else x :: cpt (y :: r)
theorem mem_cpt : ∀ (l : List (List Int)) (z : List Int), z ∈ cpt l ↔ z ∈ l
  | [], z => by simp [cpt]
  | [x], z => by simp [cpt]
  | x :: y :: r, z => by
    simp only [cpt]
    by_cases h : y = x
    · rw [if_pos h, mem_cpt (y :: r) z]; subst h; simp
    · rw [if_neg h, List.mem_cons, mem_cpt (y :: r) z]; simp
theorem strict_cpt : ∀ (l : List (List Int)), l.Pairwise (fun a b => cmpL a b ≤ 0) → Strict (cpt l)
  | [], _ => by simp [cpt, Strict]
  | [x], _ => by simp [cpt, Strict]
  | x :: y :: r, h => by
    rw [List.pairwise_cons] at h
    simp only [cpt]
    by_cases e : y = x
    · rw [if_pos e]; exact strict_cpt (y :: r) h.2
    · rw [if_neg e]
      unfold Strict
      rw [List.pairwise_cons]
      refine ⟨fun z hz => ?_, strict_cpt (y :: r) h.2⟩
      have hz2 := (mem_cpt (y :: r) z).1 hz
      have hxy : cmpL x y < 0 := by
        have h1 := h.1 y (by simp)
        rcases Int.lt_or_eq_of_le h1 with h2 | h2
        · exact h2
        · exact absurd (cmpL_eq x y h2).symm e
      rcases List.mem_cons.1 hz2 with f | f
      · rw [f]; exact hxy
      · have h2 := h.2
        rw [List.pairwise_cons] at h2
        have h3 := h2.1 z f
        rcases Int.lt_or_eq_of_le h3 with h4 | h4
        · exact cmpL_trans x y z hxy h4
        · rw [← cmpL_eq y z h4]; exact hxy
theorem cpt_sdR {l d : List (List Int)} (h : d.Pairwise (fun a b => cmpL a b ≤ 0)) (hm : ∀ x, x ∈ d ↔ x ∈ l) : cpt d = sdR l :=
  sdR_of (strict_cpt d h) (fun x => (mem_cpt d x).trans (hm x))
end Go.Proofs.Ytkohcdddgjaijaa.PT
namespace Go.Proofs.Ytkohcdddgjaijaa.PT
open Go.RowKit Go.Lib Go.Sort Go.Proofs.Ytkohcdddgjaijaa.P Go.Proofs.YtkohcdddgjaijaaW.PrintWords Go.Proofs.YtkohcdddgjaijaaW.PrintLast Go.Proofs.Ytkohcdddgjaijaa.EvKit
set_option linter.unusedVariables false
set_option linter.unusedSimpArgs false
structure SortRow (g n : Nat) (V : Fin n → Value) (L : Fin n → List Int) (w : World) : Prop where
  lt : g < w.heap.size
  cell : ∀ i : Fin n, w.cell? ⟨g, i.1, none⟩ = some (V i) ∧ w.frozen? ⟨g, i.1, none⟩ = false
  read : ∀ i : Fin n, ∃ A c, V i = .slice A (L i).length c ∧ (L i).length ≤ c ∧ (L i).length ≤ 1048576 ∧ Kd.C (Kd.int .i64) w A (L i).length (L i) ∧ (∀ ad, A = some ad → 0 < (L i).length → ad.block ≠ g)
def cfR {n : Nat} (L : Fin n → List Int) (i j : Fin n) : Int := cmpL (L i) (L j)
theorem cfR_lt {n : Nat} (L : Fin n → List Int) (i j : Fin n) : Go.Proofs.ltOf (cfR L) i j = decide (cmpL (L i) (L j) < 0) := rfl
theorem cmpL_le_trans (a b c : List Int) (h1 : ¬ cmpL a b < 0) (h2 : ¬ cmpL b c < 0) : ¬ cmpL a c < 0 := by
  intro h
  have n1 := cmpL_neg a b
  have n2 := cmpL_neg b c
  by_cases e1 : cmpL a b = 0
  · have := cmpL_eq a b e1; subst this; exact h2 h
  · by_cases e2 : cmpL b c = 0
    · have := cmpL_eq b c e2; subst this; exact h1 h
    · have h3 := cmpL_trans c b a (by omega) (by omega)
      have n3 := cmpL_neg a c
      omega
theorem swoR {n : Nat} (L : Fin n → List Int) : SWO (Go.Proofs.ltOf (cfR L)) where
  irrefl x := by rw [cfR_lt, cmpL_self]; rfl
  trans x y z h1 h2 := by
    rw [cfR_lt] at *
    exact decide_eq_true (cmpL_trans _ _ _ (of_decide_eq_true h1) (of_decide_eq_true h2))
  ntrans x y z h1 h2 := by
    rw [cfR_lt] at *
    exact decide_eq_false (cmpL_le_trans _ _ _ (of_decide_eq_false h1) (of_decide_eq_false h2))
theorem keep_sortWorld {α : Type} [Inhabited α] (enc : α → Value) (w : World) (g m : Nat) (dk : Array α) (os : Array Obj) : KeepBut w (sortWorld enc w g 0 m dk os) g none := by
  refine ⟨?_, fun i hi hne _ => ?_⟩
  · show w.heap.size ≤ ((w.heap.modify g _) ++ os).size
    simp
  · show ((w.heap.modify g _) ++ os)[i]? = w.heap[i]?
    rw [Array.getElem?_append_left (by simpa using hi), Array.getElem?_modify, if_neg (fun e => hne e.symm)]
theorem sort_cmp {n : Nat} [Inhabited (Fin n)] (g : Nat) (V : Fin n → Value) (L : Fin n → List Int) (w : World) (h : SortRow g n V L w) : Go.Proofs.CmpLays1 Try.prog 40 #[] V (cfR L) g 0 n w := by
  refine Go.Proofs.CmpReads.lays (fun m os dk hs x y => ?_)
  obtain ⟨A1, c1, e1, hc1, hl1, hC1, hf1⟩ := h.read x
  obtain ⟨A2, c2, e2, hc2, hl2, hC2, hf2⟩ := h.read y
  have hk := keep_sortWorld V w g m dk os
  obtain ⟨k, hkc⟩ := Ev.rounds (slicesCompare_ev (L x) (L y) (by omega))
  have e : (#[V x, V y] ++ #[] : Array Value) = #[.slice A1 (L x).length c1, .slice A2 (L y).length c2] := by rw [e1, e2]; rfl
  rw [e]
  refine (slices_Compare_int_int.calls k A1 c1 (L x) A2 c2 (L y) _ _ (Kd.C_keep (0 : Int) hC1 hk hf1) hc1 (Kd.C_keep (0 : Int) hC2 hk hf2) hc2 hkc).mono ?_
  rintro e w' ⟨rfl, hd⟩
  exact ⟨rfl, hd.out⟩
theorem extract_all {α : Type} (a : Array α) (m : Nat) (h : a.size = m) : a.extract 0 m = a := by subst h; simp
theorem sort_walk {n : Nat} [Inhabited (Fin n)] (hn : 0 < n) (hn2 : n ≤ 1048576) (g cap : Nat) (V : Fin n → Value) (L : Fin n → List Int) (w : World) (h : SortRow g n V L w) :
    Calls Try.prog 53 #[.slice (some ⟨g, 0, none⟩) n cap, .func (.func 40) #[] #[]] w fun e w' => e = .returned (.tuple #[]) ∧
      ∃ (p : List (Fin n)) (m : Nat) (os : Array Obj), p.Perm (List.finRange n) ∧ p.Pairwise (fun i j => cmpL (L i) (L j) ≤ 0) ∧ w' = sortWorld V w g 0 m p.toArray os := by
  have hd : ((List.finRange n).toArray : Array (Fin n)).size = n := by simp
  have h1 : OneCell V := fun x => by
    obtain ⟨A, c, e, _⟩ := h.read x
    rw [e]; rfl
  have hH : Holds V w g 0 ((List.finRange n).toArray) := fun j hj => by
    rw [hd] at hj
    have e : ((List.finRange n).toArray : Array (Fin n))[j]! = ⟨j, hj⟩ := by
      rw [getElem!_pos _ j (by rw [hd]; exact hj)]; simp
    rw [e, Nat.zero_add]
    exact h.cell ⟨j, hj⟩
  have hs := Go.Proofs.Any.slices_SortFunc Try.sortL V h1 (cfR L) (swoR L) 40 #[] g 0 cap ((List.finRange n).toArray) w
    (fun args w => enters_ Try.func40 (by kernel_rfl) (by kernel_rfl) args w) (by rw [hd]; exact sort_cmp g V L w h) hH h.lt (by rw [hd]; omega)
  rw [hd] at hs
  refine hs.mono ?_
  rintro e w' ⟨he, d', m, os, hp, hsrt, hw⟩
  refine ⟨he, d'.toList, m, os, ?_, ?_, ?_⟩
  · obtain ⟨hsz, _, hpm⟩ := hp
    rw [hd] at hsz
    rw [extract_all d' n hsz, extract_all _ n hd] at hpm
    simpa using hpm
  · have hsz := hp.1
    rw [hd] at hsz
    rw [List.pairwise_iff_getElem]
    intro i j hi hj hij
    have hi' : i < d'.size := by simpa using hi
    have hj' : j < d'.size := by simpa using hj
    have := hsrt i j (Nat.zero_le _) hij (by omega)
    rw [cfR_lt, getElem!_pos d' i hi', getElem!_pos d' j hj'] at this
    have h5 := of_decide_eq_false this
    have h6 := cmpL_neg (L d'[i]) (L d'[j])
    simp only [Array.getElem_toList]
    omega
  · rw [hw]
end Go.Proofs.Ytkohcdddgjaijaa.PT
namespace Go.Proofs.Ytkohcdddgjaijaa.PT
open Go.RowKit Go.Lib Go.Sort Go.Proofs.Ytkohcdddgjaijaa.P Go.Proofs.YtkohcdddgjaijaaW.PrintWords Go.Proofs.YtkohcdddgjaijaaW.PrintLast Go.Proofs.Ytkohcdddgjaijaa.EvKit
set_option linter.unusedVariables false
set_option linter.unusedSimpArgs false
def cptU (K : Nat → Bool) (d : Array Value) (m : Nat) : List Value := ((List.range m).filter K).map (d[·]!)
theorem cptU_succ (K : Nat → Bool) (d : Array Value) (m : Nat) : cptU K d (m + 1) = cptU K d m ++ (if K m then [d[m]!] else []) := by
  unfold cptU
  rw [List.range_succ, List.filter_append, List.map_append]
  congr 1
  by_cases h : K m <;> simp [h]
theorem cptU_all (K : Nat → Bool) (d : Array Value) (m : Nat) (h : ∀ j, j < m → K j = true) : cptU K d m = (List.range m).map (d[·]!) := by
  unfold cptU
  rw [List.filter_eq_self.2 (fun j hj => h j (List.mem_range.1 hj))]
theorem cptU_len (K : Nat → Bool) (d : Array Value) (m : Nat) : (cptU K d m).length ≤ m := by
  unfold cptU
  rw [List.length_map]
  exact Nat.le_trans (List.length_filter_le _ _) (by simp)
structure CInv (K : Nat → Bool) (d : Array Value) (m k : Nat) (dk : Array Value) : Prop where
  size : dk.size = d.size
  len : (cptU K d m).length = k
  lt : k < m
  low : ∀ j, j < k → (cptU K d m)[j]? = some dk[j]!
  high : ∀ j, k ≤ j → dk[j]! = d[j]!
theorem CInv.start {K : Nat → Bool} {d : Array Value} {k0 : Nat} (hall : ∀ j, j < k0 → K j = true) (hdup : K k0 = false) : CInv K d (k0 + 1) k0 d where
  size := rfl
  len := by rw [cptU_succ, hdup, cptU_all K d k0 hall]; simp
  lt := Nat.lt_succ_self _
  low := fun j hj => by rw [cptU_succ, hdup, cptU_all K d k0 hall]; simp [hj]
  high := fun _ _ => rfl
theorem CInv.keep {K : Nat → Bool} {d dk : Array Value} {m k : Nat} (h : CInv K d m k dk) (hm : m < d.size) (hk : K m = true) : CInv K d (m + 1) (k + 1) (dk.setIfInBounds k d[m]!) where
  size := by simp [h.size]
  len := by rw [cptU_succ, hk]; simp [h.len]
  lt := by have := h.lt; omega
  low := fun j hj => by
    rw [cptU_succ, hk, if_pos rfl]
    by_cases e : j = k
    · subst e
      rw [List.getElem?_append_right (by rw [h.len]; exact Nat.le_refl _), h.len, Nat.sub_self, getElem!_set_same dk j _ (by have := h.lt; have := h.size; omega)]
      rfl
    · rw [List.getElem?_append_left (by rw [h.len]; omega), h.low j (by omega), getElem!_set_other dk k j _ e]
  high := fun j hj => by rw [getElem!_set_other dk k j _ (by omega), h.high j (by omega)]
theorem CInv.skip {K : Nat → Bool} {d dk : Array Value} {m k : Nat} (h : CInv K d m k dk) (hk : K m = false) : CInv K d (m + 1) k dk where
  size := h.size
  len := by rw [cptU_succ, hk]; simpa using h.len
  lt := by have := h.lt; omega
  low := fun j hj => by rw [cptU_succ, hk]; simpa using h.low j hj
  high := h.high
theorem CInv.done {K : Nat → Bool} {d dk : Array Value} {k : Nat} (h : CInv K d d.size k dk) (z : Value) :
    Lib.lay dk k (List.replicate (d.size - k) z) = (cptU K d d.size ++ List.replicate (d.size - k) z).toArray := by
  have hk := h.lt
  have hs := h.size
  apply Array.ext_getElem?
  intro j
  rw [Lib.lay_get? _ _ _ _ (by simp; omega), show (cptU K d d.size ++ List.replicate (d.size - k) z).toArray[j]? = (cptU K d d.size ++ List.replicate (d.size - k) z)[j]? from List.getElem?_toArray]
  simp only [List.length_replicate]
  by_cases c : j < k
  · rw [if_neg (by omega), List.getElem?_append_left (by rw [h.len]; exact c), h.low j c, getElem!_pos dk j (by omega), Array.getElem?_eq_getElem]
  · rw [List.getElem?_append_right (by rw [h.len]; omega), h.len]
    by_cases c2 : j < d.size
    · rw [if_pos (by omega)]
    · rw [if_neg (by omega), Array.getElem?_eq_none (by omega), List.getElem?_eq_none (by simp; omega)]
theorem put_drewN (w : World) (q n g : Nat) (dk : Array Value) : (putRow id (Sort.ahead w q) g 0 dk).drewN n = putRow id (Sort.ahead w (q + n)) g 0 dk := by
  rw [← ahead_ahead]; rfl
theorem put_drew (w : World) (q g : Nat) (dk : Array Value) : (putRow id (Sort.ahead w q) g 0 dk).drew = putRow id (Sort.ahead w (q + 1)) g 0 dk := put_drewN w q 1 g dk
def CptPost (w : World) (g cap : Nat) (K : Nat → Bool) (d : Array Value) (e : Ending) (w' : World) : Prop :=
  e = .returned (.slice (some ⟨g, 0, none⟩) (cptU K d d.size).length cap) ∧ ∃ q dk, w' = putRow id (Sort.ahead w q) g 0 dk ∧ dk.size = d.size ∧ ∀ j, j < (cptU K d d.size).length → (cptU K d d.size)[j]? = some dk[j]!
theorem put_set (W : World) (g : Nat) (dk : Array Value) (kk : Nat) (x : Value) (h : kk < dk.size) : (putRow id W g 0 dk).setCell ⟨g, kk, none⟩ x = putRow id W g 0 (dk.setIfInBounds kk x) := by
  have := putRow_set id W g 0 dk kk x h
  rw [Nat.zero_add] at this
  exact this
theorem cpt_end {w wr : World} {g cap q kk : Nat} {K : Nat → Bool} {d dk : Array Value} (hI : CInv K d d.size kk dk) (hw : wr = putRow id (Sort.ahead w q) g 0 dk) :
    CptPost w g cap K d (.returned (.slice (some ⟨g, 0, none⟩) kk cap)) (wr.setCells g kk (List.replicate (d.size - kk) (.slice none 0 0))) := by
  have hk := hI.lt
  refine ⟨by rw [hI.len], q, Lib.lay dk kk (List.replicate (d.size - kk) (.slice none 0 0)), ?_, ?_, ?_⟩
  · have := Lib.putRow_setCells id (Sort.ahead w q) g 0 (List.replicate (d.size - kk) (.slice none 0 0)) dk kk (by rw [List.length_replicate, hI.size]; omega)
    rw [Nat.zero_add, List.map_id] at this
    rw [hw, this]
  · rw [hI.done, List.size_toArray, List.length_append, List.length_replicate, hI.len]; omega
  · intro j hj
    rw [hI.done, getElem!_pos _ j (by rw [List.size_toArray, List.length_append]; omega), List.getElem_toArray, List.getElem_append_left hj, List.getElem?_eq_getElem hj]
def RowW (w : World) (g n : Nat) (W : World) : Prop := ∃ (q : Nat) (dk : Array Value), dk.size = n ∧ W = putRow id (Sort.ahead w q) g 0 dk
theorem RowW.drewN {w W W' : World} {g n : Nat} (h : RowW w g n W) (h' : ∃ m, W' = W.drewN m) : RowW w g n W' := by
  obtain ⟨q, dk, h1, rfl⟩ := h
  obtain ⟨m, rfl⟩ := h'
  exact ⟨q + m, dk, h1, put_drewN w q m g dk⟩
set_option maxHeartbeats 8000000 in
set_option maxRecDepth 100000 in
theorem compact_walk (g cap : Nat) (d : Array Value) (K : Nat → Bool) (w : World) (hK0 : K 0 = true) (hH : Holds id w g 0 d) (h1c : ∀ j, j < d.size → ∃ A n c, d[j]! = .slice A n c) (hsz : d.size ≤ 1048576) (hcap : d.size ≤ cap)
    (hEq : ∀ m, 1 ≤ m → m < d.size → ∀ W, RowW w g d.size W → Calls Try.prog 55 #[d[m]!, d[m - 1]!] W fun e w' => e = .returned (.bool (!K m)) ∧ ∃ k, w' = W.drewN k) :
    Calls Try.prog 54 #[.slice (some ⟨g, 0, none⟩) d.size cap, .func (.func 55) #[] #[]] w (CptPost w g cap K d) := by
  have HEq := Aside0.mk hEq
  have HH := Aside0.mk hH
  have H1 := Aside0.mk h1c
  have same : ∀ q, (∀ j, j < d.size → K j = true) → CptPost w g cap K d (.returned (.slice (some ⟨g, 0, none⟩) d.size cap)) (w.drewN q) := by
    intro q hall
    have e : cptU K d d.size = d.toList := by rw [cptU_all K d _ hall, range_map_get]
    unfold CptPost
    rw [e]
    refine ⟨by simp, q, d, (putRow_self id (Sort.ahead w q) g 0 d (holds_ahead id w q g 0 d hH)).symm, rfl, fun j hj => ?_⟩
    have : j < d.size := by simpa using hj
    rw [getElem!_pos d j this]; simp [this]
  have HS := Aside0.mk same
  have K1 : ∀ j, j < 1 → K j = true := fun j hj => by
    obtain rfl : j = 0 := by omega
    exact hK0
  have HK1 := Aside0.mk K1
  clear same hEq hH h1c K1
  by_cases h2 : d.size < 2
  · have e0 : decide ((d.size : Int) < 2) = true := decide_eq_true (by omega)
    go_enter Try.func54, Try.ntmps54
    go_wp2
    go_ret
    exact HS.out 0 (fun j hj => HK1.out j (by omega))
  · have e0 : decide ((d.size : Int) < 2) = false := decide_eq_false (by omega)
    go_enter Try.func54, Try.ntmps54
    go_wp2
    go_loopg [5] d.size (fun G s5 wr => ∃ k q : Nat, 1 ≤ k ∧ k ≤ d.size ∧ d.size - k ≤ G ∧ s5 = .int .i64 k ∧ Aside0 (wr = w.drewN q) ∧ Aside0 (∀ j, j < k → K j = true))
    case atStart => exact ⟨1, 0, Nat.le_refl _, by omega, by omega, rfl, ⟨rfl⟩, HK1⟩
    case round =>
      obtain ⟨k, q, hk1, hk, hg, rfl, HW, A⟩ := hrel
      by_cases hlt : k < d.size
      · have d1 : decide ((k : Int) < (d.size : Int)) = true := decide_eq_true (by omega)
        obtain ⟨c1, f1⟩ := HH.out k hlt
        obtain ⟨c0, f0⟩ := HH.out (k - 1) (by omega)
        rw [Nat.zero_add] at c1 c0
        replace c1 : wr.cell? ⟨g, k, none⟩ = some (id d[k]!) := by rw [HW.out]; exact c1
        replace c0 : wr.cell? ⟨g, k - 1, none⟩ = some (id d[k - 1]!) := by rw [HW.out]; exact c0
        have hw1 : IntKind.i64.wrap ((k : Int) - 1) = ((k - 1 : Nat) : Int) := by rw [IntWalk.i64_in _ (by omega)]; omega
        have hk2 : k - 1 < d.size := by omega
        have HC := Aside0.mk (HEq.out k hk1 hlt)
        have R0 : Aside0 (RowW w g d.size wr) := ⟨q, d, rfl, HW.out.trans (putRow_self id (Sort.ahead w q) g 0 d (holds_ahead id w q g 0 d HH.out)).symm⟩
        simp only [id] at c1 c0
        generalize d[k]! = x at c1 HC
        generalize d[k - 1]! = y at c0 HC
        clear f0 f1
        cases hkk : K k with
        | false =>
          rw [hkk] at HC
          have HKK := Aside0.mk hkk
          clear hkk
          go_wp2
          go_quiet (first | ((with_reducible refine (HC.out _ (R0.out.drewN (by repeat (first | exact ⟨0, rfl⟩ | exact ⟨_, rfl⟩ | apply qt_n | apply qt_1)))).mono ?_); intro e w1 hh; first | exact ⟨hh.1, qt_plus hh.2⟩ | exact ⟨hh.1, qt_more hh.2⟩))
          go_wp2
          go_loopg [5, 7] d.size (fun G s5 s7 wx => ∃ (kk k2 q2 : Nat) (dk : Array Value), s5 = .int .i64 kk ∧ s7 = .int .i64 k2 ∧ 1 ≤ k2 ∧ k + k2 ≤ d.size ∧ d.size - (k + k2) ≤ G ∧ Aside0 (wx = putRow id (Sort.ahead w q2) g 0 dk) ∧ Aside0 (CInv K d (k + k2) kk dk))
          case atStart => exact ⟨k, 1, q + nq, d, rfl, rfl, Nat.le_refl _, by omega, by omega, ⟨by rw [putRow_self id (Sort.ahead w (q + nq)) g 0 d (holds_ahead id w (q + nq) g 0 d HH.out), HW.out, ← ahead_ahead]; rfl⟩, ⟨CInv.start A.out HKK.out⟩⟩
          case round =>
            obtain ⟨kk, k2, q2, dk, rfl, rfl, h1, hle, hg2, W2, I2⟩ := hrel
            have hkk := I2.out.lt
            have hds := I2.out.size
            have hHk : Holds id wr g 0 dk := by rw [W2.out]; exact holds_putRow id _ g 0 d dk (holds_ahead id w q2 g 0 d HH.out) hds
            by_cases hlt2 : k + k2 < d.size
            · obtain ⟨cm, _⟩ := hHk (k + k2) (by omega)
              obtain ⟨cp, _⟩ := hHk (k + k2 - 1) (by omega)
              obtain ⟨ck, fk⟩ := hHk kk (by omega)
              have hcm : wr.cell? ⟨g, k + k2, none⟩ = some d[k + k2]! := by rw [Nat.zero_add, I2.out.high _ (by omega)] at cm; exact cm
              have hcp : wr.cell? ⟨g, k + (k2 - 1), none⟩ = some d[k + k2 - 1]! := by rw [Nat.zero_add, I2.out.high _ (by omega), show k + k2 - 1 = k + (k2 - 1) by omega] at cp; rw [show k + k2 - 1 = k + (k2 - 1) by omega]; exact cp
              replace ck : wr.cell? ⟨g, kk, none⟩ = some dk[kk]! := by rw [Nat.zero_add] at ck; exact ck
              replace fk : wr.frozen? ⟨g, kk, none⟩ = false := by rw [Nat.zero_add] at fk; exact fk
              obtain ⟨xA, xn, xc, hx2⟩ := H1.out (k + k2) hlt2
              have HC2 := Aside0.mk (HEq.out (k + k2) (by omega) hlt2)
              have R2 : Aside0 (RowW w g d.size wr) := ⟨q2, dk, hds, W2.out⟩
              have HX : Aside0 (d[k + k2]! = d[k + k2]!) := ⟨rfl⟩
              have hw2 : IntKind.i64.wrap ((k2 : Int) - 1) = ((k2 - 1 : Nat) : Int) := by rw [IntWalk.i64_in _ (by omega)]; omega
              have hk3 : k2 - 1 < d.size - k := by omega
              have hk4 : k2 < d.size - k := by omega
              have d2 : decide ((k2 : Int) < ((d.size - k : Nat) : Int)) = true := decide_eq_true (by omega)
              have HX2 := Aside0.mk hx2
              rw [hx2] at hcm HC2
              generalize d[k + k2 - 1]! = y2 at hcp HC2
              generalize dk[kk]! = old at ck
              clear cm cp hHk HX hx2 hds
              cases hkk2 : K (k + k2) with
              | false =>
                rw [hkk2] at HC2
                have HK2 := Aside0.mk hkk2
                clear hkk2
                go_wp2
                go_quiet (first | ((with_reducible refine (HC2.out _ (R2.out.drewN (by repeat (first | exact ⟨0, rfl⟩ | exact ⟨_, rfl⟩ | apply qt_n | apply qt_1)))).mono ?_); intro e w1 hh; first | exact ⟨hh.1, qt_plus hh.2⟩ | exact ⟨hh.1, qt_more hh.2⟩))
                go_wp2
                go_roundg (d.size - (k + (k2 + 1)))
                case measure => omega
                case rel => exact ⟨kk, k2 + 1, q2 + nq, dk, rfl, by go_num, by omega, by omega, Nat.le_refl _, ⟨by rw [W2.out, put_drewN]⟩, ⟨I2.out.skip HK2.out⟩⟩
              | true =>
                rw [hkk2] at HC2
                have HK2 := Aside0.mk hkk2
                clear hkk2
                go_wp2
                go_quiet (first | ((with_reducible refine (HC2.out _ (R2.out.drewN (by repeat (first | exact ⟨0, rfl⟩ | exact ⟨_, rfl⟩ | apply qt_n | apply qt_1)))).mono ?_); intro e w1 hh; first | exact ⟨hh.1, qt_plus hh.2⟩ | exact ⟨hh.1, qt_more hh.2⟩))
                go_wp2
                go_roundg (d.size - (k + (k2 + 1)))
                case measure => omega
                case rel => exact ⟨kk + 1, k2 + 1, q2 + nq, dk.setIfInBounds kk (.slice xA xn xc), by go_num, by go_num, by omega, by omega, Nat.le_refl _, ⟨by rw [W2.out, put_drewN]; exact put_set _ g dk kk _ (by have := I2.out.size; omega)⟩, ⟨by have := I2.out.keep hlt2 HK2.out; rw [HX2.out] at this; exact this⟩⟩
            · have hend : k + k2 = d.size := by omega
              have HI := I2.out
              rw [hend] at HI
              have hcl : ∀ ty, (Builtin.clear_ #[23] ty #[.slice (some ⟨g, kk, none⟩) (d.size - kk) (cap - kk)]).run Try.prog wr = .ok (.tuple #[]) (wr.setCells g kk (List.replicate (d.size - kk) (.slice none 0 0))) :=
                fun ty => by
                  have := Lib.run_clear_slice (P := Try.prog) wr 23 22 ty (.slice none 0 0) Try.underlying23 (fun w => by rfl) rfl rfl g kk (d.size - kk) (cap - kk) (by omega) (fun j hj => by have := (hHk (kk + j) (by omega)).1; rw [Nat.zero_add] at this; rw [this]; rfl) (fun j hj => by have := (hHk (kk + j) (by omega)).2; rw [Nat.zero_add] at this; exact this)
                  exact this
              have HI2 := Aside0.mk HI
              clear hHk HI I2 hds
              have d2 : decide ((k2 : Int) < ((d.size - k : Nat) : Int)) = false := decide_eq_false (by omega)
              go_wp2
              go_ret
              exact cpt_end HI2.out W2.out
        | true =>
          rw [hkk] at HC
          have HKK := Aside0.mk hkk
          clear hkk
          go_wp2
          go_quiet (first | ((with_reducible refine (HC.out _ (R0.out.drewN (by repeat (first | exact ⟨0, rfl⟩ | exact ⟨_, rfl⟩ | apply qt_n | apply qt_1)))).mono ?_); intro e w1 hh; first | exact ⟨hh.1, qt_plus hh.2⟩ | exact ⟨hh.1, qt_more hh.2⟩))
          go_wp2
          go_roundg (d.size - (k + 1))
          case measure => omega
          case rel => exact ⟨k + 1, q + nq, by omega, by omega, Nat.le_refl _, by go_num, ⟨by rw [HW.out, World.drewN_drewN]⟩, ⟨fun j hj => by
            by_cases e : j = k
            · subst e; exact HKK.out
            · exact A.out j (by omega)⟩⟩
      · have hke : k = d.size := by omega
        subst hke
        go_wp2
        go_ret
        rw [HW.out]
        exact HS.out q A.out
end Go.Proofs.Ytkohcdddgjaijaa.PT
namespace Go.Proofs.Ytkohcdddgjaijaa.PT
open Go.RowKit Go.Proofs.Ytkohcdddgjaijaa.P Go.Proofs.YtkohcdddgjaijaaW.PrintWords Go.Proofs.YtkohcdddgjaijaaW.PrintLast Go.Proofs.Ytkohcdddgjaijaa.EvKit
set_option linter.unusedVariables false
set_option linter.unusedSimpArgs false
set_option maxHeartbeats 4000000 in
set_option maxRecDepth 100000 in
theorem ins0_walk (A : Option Addr) (c : Nat) (fv : Value) (w : World) :
    Calls Try.prog 62 #[.slice A 0 c, .int .i64 0, .int .i64 0, fv] w fun e w' => e = .returned (.tuple #[]) ∧ w' = w := by
  go_enter Try.func62, Try.ntmps62
  go_wp2
  go_loopg [8] 1 (fun G s8 wr => s8 = .int .i64 1 ∧ wr = w)
  case atStart => exact ⟨rfl, rfl⟩
  case round =>
    obtain ⟨rfl, rfl⟩ := hrel
    go_wp2
    go_end0
    exact ⟨rfl, rfl⟩
set_option maxHeartbeats 4000000 in
set_option maxRecDepth 100000 in
theorem pdq0_walk (A : Option Addr) (c : Nat) (fv : Value) (w : World) :
    Calls Try.prog 59 #[.slice A 0 c, .int .i64 0, .int .i64 0, .int .i64 0, fv] w fun e w' => e = .returned (.tuple #[]) ∧ w' = w := by
  go_enter Try.func59, Try.ntmps59
  go_wp2
  go_loopg [1, 2, 3, 10, 11] 1 (fun G s1 s2 s3 s10 s11 wr => s1 = .int .i64 0 ∧ s2 = .int .i64 0 ∧ wr = w)
  case atStart => exact ⟨rfl, rfl, rfl⟩
  case round =>
    obtain ⟨rfl, rfl, rfl⟩ := hrel
    go_wp2_with (first | (go_at_call 62; (with_reducible refine (ins0_walk _ _ _ _).mono ?_); rintro e w' ⟨rfl, rfl⟩))
    refine bodyPost_ret (results_none rfl _ _ _) rfl ?_
    exact ⟨rfl, rfl⟩
theorem len64_z (v : Value) (i : Int) (h : v = .int .i64 i) : Ending.returned v = Ending.returned (.int .i64 i) := by rw [h]
set_option maxHeartbeats 4000000 in
set_option maxRecDepth 100000 in
theorem len64_0 (w : World) : Calls Try.prog 71 #[.int .u64 0] w fun e w' => e = .returned (.int .i64 0) ∧ w' = w := by
  go_enter Try.func71, Try.ntmps71
  go_wp2
  go_ret
  exact ⟨len64_z _ _ (by kernel_rfl), rfl⟩
set_option maxHeartbeats 4000000 in
set_option maxRecDepth 100000 in
theorem len_0 (w : World) : Calls Try.prog 60 #[.int .u64 0] w fun e w' => e = .returned (.int .i64 0) ∧ w' = w := by
  go_enter Try.func60, Try.ntmps60
  go_wp2_with (first | (go_at_call 71; (with_reducible refine (len64_0 _).mono ?_); rintro e w' ⟨rfl, rfl⟩))
  go_ret
  exact ⟨rfl, rfl⟩
set_option maxHeartbeats 4000000 in
set_option maxRecDepth 100000 in
theorem sort0_walk (A : Option Addr) (c : Nat) (fv : Value) (w : World) : Calls Try.prog 53 #[.slice A 0 c, fv] w fun e w' => e = .returned (.tuple #[]) ∧ w' = w := by
  go_enter Try.func53, Try.ntmps53
  go_wp2_with (first | (go_at_call 60; (with_reducible refine (len_0 _).mono ?_); rintro e w' ⟨rfl, rfl⟩) | (go_at_call 59; (with_reducible refine (pdq0_walk _ _ _ _).mono ?_); rintro e w' ⟨rfl, rfl⟩))
  go_end0
  exact ⟨rfl, rfl⟩
set_option maxHeartbeats 4000000 in
set_option maxRecDepth 100000 in
theorem compact0_walk (A : Option Addr) (c : Nat) (fv : Value) (w : World) : Calls Try.prog 54 #[.slice A 0 c, fv] w fun e w' => e = .returned (.slice A 0 c) ∧ w' = w := by
  go_enter Try.func54, Try.ntmps54
  go_wp2
  go_ret
  exact ⟨rfl, rfl⟩
end Go.Proofs.Ytkohcdddgjaijaa.PT
namespace Go.Proofs.Ytkohcdddgjaijaa.PT
open Go.RowKit Go.Proofs.Ytkohcdddgjaijaa.P Go.Proofs.YtkohcdddgjaijaaW.PrintWords Go.Proofs.YtkohcdddgjaijaaW.PrintLast Go.Proofs.Ytkohcdddgjaijaa.EvKit
set_option linter.unusedVariables false
set_option linter.unusedSimpArgs false
abbrev kRb : Kd (List Int) := Kd.slice 3 (Kd.int .i64)
structure RB (f : Nat → Nat) (W : World) (base : Nat) (ok : Nat → Prop) (g : Nat) (cs : Array Value) (zs : List (List Int × Nat)) : Prop where
  heap : W.heap[g]? = some (.cells cs 22 (0, 0))
  lo : base ≤ g
  ok_ : ok g
  small : cs.size ≤ maxLen
  len : zs.length ≤ cs.size
  row : ∀ j, (h : j < zs.length) → ∃ u, cs[j]? = some u ∧ (Kd.int .i64).R 3 W base (fun k => (ok k ∧ k ≠ g) ∧ f k = zs[j].2) u zs[j].1
theorem RB.of {f : Nat → Nat} {W : World} {base : Nat} {ok : Nat → Prop} {v : Value} {zs : List (List Int × Nat)} (h : (Kd.tag f kRb).R 22 W base ok v zs) (hp : 0 < zs.length) :
    ∃ g cs, v = .slice (some ⟨g, 0, none⟩) zs.length cs.size ∧ RB f W base ok g cs zs := by
  obtain ⟨h0, inner, ho, hr⟩ := h
  obtain ⟨hl, hc⟩ := ho
  rcases hc with ⟨_, e⟩ | ⟨g, cap, cur, rfl, hg, hh, h1, h2, h3, h4⟩
  · omega
  · have hs : (Kd.tag f kRb).sz = 1 := rfl
    rw [hs, Nat.mul_one] at h3 h4
    refine ⟨g, cur, by rw [h3], hh, hg, h0 g rfl, by omega, by omega, fun j hj => ?_⟩
    have hM := hr.2 j _ (List.getElem?_eq_getElem hj)
    obtain ⟨u, hu, hR⟩ := hM
    rw [hs, Nat.mul_one] at hu
    refine ⟨u, ?_, Kd.R_mono hR (fun k hk => ⟨⟨hk.1.1, fun e => hk.1.2 (by rw [e]; rfl)⟩, hk.2⟩)⟩
    have h5 : (inner.drop j).take 1 = [u] := hu
    have h6 : inner[j]? = some u := by
      have := congrArg (fun l : List Value => l[0]?) h5
      simpa [List.getElem?_take, List.getElem?_drop] using this
    rw [← h4, List.getElem?_take, if_pos hj] at h6
    rw [← Array.getElem?_toList]; exact h6
theorem RB.to {f : Nat → Nat} {W : World} {base : Nat} {ok : Nat → Prop} {g : Nat} {cs : Array Value} {zs : List (List Int × Nat)} (h : RB f W base ok g cs zs) :
    (Kd.tag f kRb).R 22 W base ok (.slice (some ⟨g, 0, none⟩) zs.length cs.size) zs := by
  have hs : (Kd.tag f kRb).sz = 1 := rfl
  have hlen := h.len
  refine ⟨fun k hk => ?_, cs.toList.take zs.length, ⟨?_, .inr ⟨g, cs.size, cs, rfl, h.lo, h.heap, h.len, h.small, by rw [hs, Nat.mul_one], by rw [hs, Nat.mul_one]⟩⟩, ?_, fun j p hj => ?_⟩
  · have : g = k := by simpa [Value.ownBlock] using hk
    subst this; exact h.ok_
  · rw [hs, Nat.mul_one, List.length_take]
    have e : cs.toList.length = cs.size := by simp
    omega
  · rw [hs, Nat.mul_one, List.length_take]
    have e : cs.toList.length = cs.size := by simp
    omega
  · obtain ⟨hj', rfl⟩ := List.getElem?_eq_some_iff.1 hj
    obtain ⟨u, hu, hR⟩ := h.row j hj'
    refine ⟨u, ?_, Kd.R_mono hR (fun k hk => ⟨⟨hk.1.1, fun e => hk.1.2 (by simpa [Value.ownBlock] using e)⟩, hk.2⟩)⟩
    rw [hs, Nat.mul_one]
    apply List.ext_getElem?
    intro i
    rw [List.getElem?_take, List.getElem?_drop, List.getElem?_take]
    cases i with
    | zero => rw [if_pos (by omega), if_pos (by omega), Array.getElem?_toList, Nat.add_zero, hu]; rfl
    | succ i => rw [if_neg (by omega)]; simp
theorem RB.turn {f : Nat → Nat} {W W' : World} {base : Nat} {ok : Nat → Prop} {g : Nat} {cs cs' : Array Value} {zs zs' : List (List Int × Nat)} (h : RB f W base ok g cs zs)
    (hh : W'.heap[g]? = some (.cells cs' 22 (0, 0))) (hs : cs'.size = cs.size) (hm : ∀ k, k < W.heap.size → k ≠ g → W'.heap[k]? = W.heap[k]?) (hl : zs'.length ≤ cs.size)
    (hz : ∀ j, (hj : j < zs'.length) → ∃ i, ∃ hi : i < zs.length, cs'[j]? = cs[i]? ∧ zs'[j] = zs[i]) : RB f W' base ok g cs' zs' := by
  refine ⟨hh, h.lo, h.ok_, by rw [hs]; exact h.small, by rw [hs]; exact hl, fun j hj => ?_⟩
  obtain ⟨i, hi, h1, h2⟩ := hz j hj
  obtain ⟨u, hu, hR⟩ := h.row i hi
  refine ⟨u, h1.trans hu, ?_⟩
  rw [h2]
  exact Kd.R_step hR (fun k hk hlt => hm k hlt hk.1.2)
theorem S_of_tags {α : Type} {d : Kd α} {e : Nat} {W : World} {base : Nat} {ok : Nat → Prop} {v : Value} {f : Nat → Nat} {zs : List (α × Nat)} (hn : (zs.map (·.2)).Nodup) (h : (Kd.tag f d).R e W base ok v zs) : Kd.S d e W base ok v (zs.map (·.1)) := by
  refine ⟨fun k => (zs.map (·.2)).idxOf (f k), ?_⟩
  obtain ⟨h0, inner, ho, hr⟩ := h
  refine ⟨h0, inner, ?_, ?_, fun j p hj => ?_⟩
  · have e : ((zs.map (·.1)).zipIdx).length = zs.length := by simp
    rw [e]; exact ho
  · have e : ((zs.map (·.1)).zipIdx).length = zs.length := by simp
    rw [e]; exact hr.1
  · have hlt : j < zs.length := by
      have := (List.getElem?_eq_some_iff.1 hj).1
      simpa using this
    have e : p = (zs[j].1, j) := by
      rw [List.getElem?_zipIdx] at hj
      simp [hlt] at hj
      exact hj.symm
    subst e
    have hM := hr.2 j _ (List.getElem?_eq_getElem hlt)
    refine d.M_mono (fun k hk => ⟨hk.1, ?_⟩) hM
    show (zs.map (·.2)).idxOf (f k) = j
    have h2 : f k = (zs.map (·.2))[j]'(by simpa using hlt) := by rw [List.getElem_map]; exact hk.2
    rw [h2, List.Nodup.idxOf_getElem hn]
theorem RB.read {f : Nat → Nat} {W : World} {base : Nat} {ok : Nat → Prop} {g : Nat} {cs : Array Value} {zs : List (List Int × Nat)} (h : RB f W base ok g cs zs) (j : Nat) (hj : j < zs.length) :
    ∃ A c, cs[j]? = some (.slice A (zs[j].1).length c) ∧ (zs[j].1).length ≤ c ∧ Kd.C (Kd.int .i64) W A (zs[j].1).length zs[j].1 ∧ (∀ ad, A = some ad → 0 < (zs[j].1).length → ad.block ≠ g) := by
  obtain ⟨u, hu, hR⟩ := h.row j hj
  obtain ⟨A, c, rfl, hl, hC⟩ := Kd.R_reads hR
  refine ⟨A, c, hu, hl, hC, fun ad ha _ e => ?_⟩
  have := hR.1 ad.block (by rw [ha]; rfl)
  exact this.1.2 e
end Go.Proofs.Ytkohcdddgjaijaa.PT
namespace Go.Proofs.Ytkohcdddgjaijaa.PT
set_option linter.unusedVariables false
def kpB (q : List (List Int)) (j : Nat) : Bool := decide (j = 0 ∨ q.getD j [] ≠ q.getD (j - 1) [])
def kpT (q : List (List Int)) (m : Nat) : List (List Int) := ((List.range m).filter (kpB q)).map (fun j => q.getD j [])
theorem kpT_succ (q : List (List Int)) (m : Nat) : kpT q (m + 1) = kpT q m ++ (if kpB q m then [q.getD m []] else []) := by
  unfold kpT
  rw [List.range_succ, List.filter_append, List.map_append]
  congr 1
  by_cases h : kpB q m <;> simp [h]
theorem kpT_mem (q : List (List Int)) : ∀ m (x : List Int), x ∈ kpT q m ↔ ∃ j, j < m ∧ x = q.getD j []
  | 0, x => by simp [kpT]
  | m + 1, x => by
    rw [kpT_succ, List.mem_append, kpT_mem q m x]
    constructor
    · rintro (⟨j, h1, h2⟩ | h)
      · exact ⟨j, by omega, h2⟩
      · by_cases c : kpB q m = true
        · rw [if_pos c, List.mem_singleton] at h
          exact ⟨m, by omega, h⟩
        · rw [if_neg c] at h; simp at h
    · rintro ⟨j, h1, h2⟩
      by_cases e : j = m
      · subst e
        by_cases c : kpB q j = true
        · rw [if_pos c]; exact .inr (by rw [List.mem_singleton]; exact h2)
        · left
          have h3 : ¬ (j = 0 ∨ q.getD j [] ≠ q.getD (j - 1) []) := fun h => c (decide_eq_true h)
          have h4 : j ≠ 0 := fun h => h3 (.inl h)
          have h5 : q.getD j [] = q.getD (j - 1) [] := Classical.byContradiction fun h => h3 (.inr h)
          exact ⟨j - 1, by omega, h2.trans h5⟩
      · exact .inl ⟨j, by omega, h2⟩
theorem getD_in {q : List (List Int)} {j : Nat} (h : j < q.length) : q.getD j [] = q[j] := by rw [List.getD_eq_getElem?_getD, List.getElem?_eq_getElem h]; rfl
theorem le_lt_trans {a b c : List Int} (h1 : cmpL a b ≤ 0) (h2 : cmpL b c < 0) : cmpL a c < 0 := by
  by_cases e : cmpL a b = 0
  · rw [cmpL_eq a b e]; exact h2
  · exact cmpL_trans a b c (by omega) h2
theorem kpT_strict (q : List (List Int)) (hq : q.Pairwise (fun a b => cmpL a b ≤ 0)) : ∀ m, m ≤ q.length → Strict (kpT q m)
  | 0, _ => by simp [kpT, Strict]
  | m + 1, hm => by
    have ih := kpT_strict q hq m (by omega)
    rw [kpT_succ]
    by_cases c : kpB q m = true
    · rw [if_pos c]
      have h3 : m = 0 ∨ q.getD m [] ≠ q.getD (m - 1) [] := of_decide_eq_true c
      unfold Strict at ih ⊢
      rw [List.pairwise_append]
      refine ⟨ih, List.pairwise_singleton _ _, fun x hx y hy => ?_⟩
      rw [List.mem_singleton] at hy
      subst hy
      obtain ⟨j, hj, rfl⟩ := (kpT_mem q m x).1 hx
      rcases h3 with h3 | h3
      · omega
      · rw [getD_in (show m < q.length by omega), getD_in (show m - 1 < q.length by omega)] at h3
        have h4 := (List.pairwise_iff_getElem.1 hq) (m - 1) m (by omega) (by omega) (by omega)
        have h5 : cmpL q[m - 1] q[m] < 0 := by
          have : cmpL q[m - 1] q[m] ≠ 0 := fun e => h3 (cmpL_eq _ _ e).symm
          omega
        rw [getD_in (show m < q.length by omega), getD_in (show j < q.length by omega)]
        by_cases e : j = m - 1
        · subst e; exact h5
        · exact le_lt_trans ((List.pairwise_iff_getElem.1 hq) j (m - 1) (by omega) (by omega) (by omega)) h5
    · rw [if_neg c, List.append_nil]; exact ih
theorem kpT_sdR {q l : List (List Int)} (hq : q.Pairwise (fun a b => cmpL a b ≤ 0)) (hm : ∀ x, x ∈ q ↔ x ∈ l) : kpT q q.length = sdR l :=
  sdR_of (kpT_strict q hq _ (Nat.le_refl _)) (fun x => by
    rw [kpT_mem, ← hm]
    constructor
    · rintro ⟨j, hj, rfl⟩
      rw [getD_in hj]; exact List.getElem_mem hj
    · intro h
      obtain ⟨j, hj, rfl⟩ := List.getElem_of_mem h
      exact ⟨j, hj, (getD_in hj).symm⟩)
end Go.Proofs.Ytkohcdddgjaijaa.PT
namespace Go.Proofs.Ytkohcdddgjaijaa.P
open Go.RowKit Go.Proofs.YtkohcdddgjaijaaW.PrintWords Go.Proofs.YtkohcdddgjaijaaW.PrintLast Go.Proofs.YtkohcdddgjaijaaW.PrintMore
attribute [local go_sem] max2_int min2_int max_two min_two max_three min_three max_four min_four
set_option linter.unusedVariables false
set_option linter.unusedSimpArgs false
def slices_Equal_int_int.l0 : Nat → List Int → List Int → Int → Int → Option (Bool)
 | 0, _, _, _, _ => none
 | k + 1, x0, x1, x12, x13 => if x13 < x12 then (if 0 ≤ x13 then (if x13 < (x0.length : Int) then (if x13 < (x1.length : Int) then (if (rd x0 x13) = (rd x1 x13) then (slices_Equal_int_int.l0 k x0 x1 x12 (wrap64 (x13 + 1))) else (some false)) else (none)) else (none)) else (none)) else (some true)
def slices_Equal_int_int.f (k : Nat) (l0 : List Int) (l1 : List Int) : Option (Bool) := if (l0.length : Int) = (l1.length : Int) then (slices_Equal_int_int.l0 k l0 l1 (l0.length : Int) 0) else (some false)
theorem slices_Equal_int_int.mono_l : ∀ k, (∀ y0 y1 y2 y3, LeO (slices_Equal_int_int.l0 k y0 y1 y2 y3) (slices_Equal_int_int.l0 (k + 1) y0 y1 y2 y3))
 | 0 => fun _ _ _ _ r h => by simp [slices_Equal_int_int.l0] at h
 | k + 1 => by
  have ih0 := slices_Equal_int_int.mono_l k
  ·intro y0 y1 y2 y3
   unfold slices_Equal_int_int.l0
   repeat' first
   | (with_reducible exact ih0 _ _ _ _)
   | (with_reducible exact LeO.refl _)
   | (with_reducible exact LeO.none _)
   | (with_reducible refine LeO.ite ?_ ?_)
   | (with_reducible refine LeO.bind ?_ (fun _ => ?_))
   | exact ih0 _ _ _ _
   | exact LeO.none _
   | refine LeO.ite ?_ ?_
   | refine LeO.bind ?_ (fun _ => ?_)
theorem slices_Equal_int_int.mono : ∀ a0 a1 k, LeO (slices_Equal_int_int.f k a0 a1) (slices_Equal_int_int.f (k + 1) a0 a1) := by
 intro a0 a1 k
 have ih0 := slices_Equal_int_int.mono_l k
 unfold slices_Equal_int_int.f
 repeat' first
   | (with_reducible exact ih0 _ _ _ _)
   | (with_reducible exact LeO.refl _)
   | (with_reducible exact LeO.none _)
   | (with_reducible refine LeO.ite ?_ ?_)
   | (with_reducible refine LeO.bind ?_ (fun _ => ?_))
   | exact ih0 _ _ _ _
   | exact LeO.none _
   | refine LeO.ite ?_ ?_
   | refine LeO.bind ?_ (fun _ => ?_)
set_option maxHeartbeats 8000000 in
set_option maxRecDepth 100000 in
theorem slices_Equal_int_int.calls (k : Nat) (A0 : Option Addr) (c0 : Nat) (l0 : List Int) (A1 : Option Addr) (c1 : Nat) (l1 : List Int) (r : Bool) (w : World) (hr0 : Kd.C (Kd.int .i64) w A0 l0.length l0) (hc0 : l0.length ≤ c0) (hr1 : Kd.C (Kd.int .i64) w A1 l1.length l1) (hc1 : l1.length ≤ c1) (h : slices_Equal_int_int.f k l0 l1 = some r) :
  Calls Try.prog 56 #[.slice A0 l0.length c0, .slice A1 l1.length c1] w fun e w' => e = .returned (.bool r) ∧ Drawn0 w w' := by
 have HR0 := Aside0.mk hr0
 have HC0 := Aside0.mk hc0
 clear hr0 hc0
 have HR1 := Aside0.mk hr1
 have HC1 := Aside0.mk hc1
 clear hr1 hc1
 have H : (if (l0.length : Int) = (l1.length : Int) then (slices_Equal_int_int.l0 k l0 l1 (l0.length : Int) 0) else (some false)) = some r := h
 clear h
 by_cases c3 : (l0.length : Int) = (l1.length : Int)
 ·rw [if_pos c3] at H
  have c3b0 : ((l0.length : Int) == (l1.length : Int)) = true := beq_iff_eq.mpr c3
  have c3b1 : ((l0.length : Int) != (l1.length : Int)) = false := bne_eq_false_iff_eq.mpr c3
  have c3b2 : (l0.length == l1.length) = true := by first | simpa using c3 | (simp at c3 ⊢; omega)
  clear c3
  have H' := Aside0.mk H
  clear H
  go_enter Try.func56, Try.ntmps56
  go_wp2
  repeat (go_quiet (fail); try go_wp2)
  go_loopg [13] k (fun kq v13 w' => ∃ (x13_1 : Int), v13 = .int .i64 x13_1 ∧ Aside0 (slices_Equal_int_int.l0 kq l0 l1 (l0.length : Int) x13_1 = some r) ∧ Aside0 (kq ≤ k) ∧ Drawn0 w w')
  case atStart => exact ⟨(0), (by first | rfl | (simp; done) | (simp [*]; done)), H', ⟨Nat.le_refl _⟩, by repeat (first | exact Drawn0.refl _ | apply Drawn0.step)⟩
  case round =>
   clear H'
   try clear c1
   try clear p2
   try clear c3
   try clear c3b0
   try clear c3b1
   try clear c3b2
   obtain ⟨x13_1, rfl, HA, HK1, ⟨m1, rfl⟩⟩ := hrel
   cases gk with
   | zero => exact absurd HA.out (by simp [slices_Equal_int_int.l0])
   | succ k1 =>
    have H := HA.out
    clear HA
    simp only [slices_Equal_int_int.l0] at H
    by_cases c4 : x13_1 < (l0.length : Int)
    ·rw [if_pos c4] at H
     have c4b0 : decide (x13_1 < (l0.length : Int)) = true := decide_eq_true c4
     clear c4
     by_cases c5 : 0 ≤ x13_1
     ·rw [if_pos c5] at H
      have c5b0 : decide (0 ≤ x13_1) = true := decide_eq_true c5
      clear c5
      by_cases c6 : x13_1 < (l0.length : Int)
      ·rw [if_pos c6] at H
       have c6b0 : decide (x13_1 < (l0.length : Int)) = true := decide_eq_true c6
       clear c6
       by_cases c7 : x13_1 < (l1.length : Int)
       ·rw [if_pos c7] at H
        have c7b0 : decide (x13_1 < (l1.length : Int)) = true := decide_eq_true c7
        clear c7
        by_cases c8 : (rd l0 x13_1) = (rd l1 x13_1)
        ·rw [if_pos c8] at H
         have c8b0 : ((rd l0 x13_1) == (rd l1 x13_1)) = true := beq_iff_eq.mpr c8
         have c8b1 : ((rd l0 x13_1) != (rd l1 x13_1)) = false := bne_eq_false_iff_eq.mpr c8
         clear c8
         have H' := Aside0.mk H
         clear H
         have p462 : 0 ≤ (x13_1 : Int) := of_decide_eq_true (by first | (with_reducible assumption) | assumption)
         have q462 : x13_1 < (l0.length : Int) := of_decide_eq_true (by first | (with_reducible assumption) | assumption)
         obtain ⟨ad462, e462, hx462_0⟩ := Kd.at_int HR0.out x13_1 p462 q462
         cases e462
         replace p462 := eq_true p462
         replace q462 := eq_true q462
         have p463 : 0 ≤ (x13_1 : Int) := of_decide_eq_true (by first | (with_reducible assumption) | assumption)
         have q463 : x13_1 < (l1.length : Int) := of_decide_eq_true (by first | (with_reducible assumption) | assumption)
         obtain ⟨ad463, e463, hx463_0⟩ := Kd.at_int HR1.out x13_1 p463 q463
         cases e463
         replace p463 := eq_true p463
         replace q463 := eq_true q463
         go_wp2
         repeat (go_quiet (fail); try go_wp2)
         go_roundg k1
         case measure => have := HK1.out; omega
         case rel => exact ⟨(wrap64 (x13_1 + 1)), (by first | rfl | (simp; done) | (simp [*]; done)), H', ⟨by have := HK1.out; omega⟩, by repeat (first | exact Drawn0.refl _ | apply Drawn0.step)⟩
        ·rw [if_neg c8] at H
         have c8b0 : ((rd l0 x13_1) == (rd l1 x13_1)) = false := beq_eq_false_iff_ne.mpr c8
         have c8b1 : ((rd l0 x13_1) != (rd l1 x13_1)) = true := bne_iff_ne.mpr c8
         obtain rfl := Option.some.inj H
         have p462 : 0 ≤ (x13_1 : Int) := of_decide_eq_true (by first | (with_reducible assumption) | assumption)
         have q462 : x13_1 < (l0.length : Int) := of_decide_eq_true (by first | (with_reducible assumption) | assumption)
         obtain ⟨ad462, e462, hx462_0⟩ := Kd.at_int HR0.out x13_1 p462 q462
         cases e462
         replace p462 := eq_true p462
         replace q462 := eq_true q462
         have p463 : 0 ≤ (x13_1 : Int) := of_decide_eq_true (by first | (with_reducible assumption) | assumption)
         have q463 : x13_1 < (l1.length : Int) := of_decide_eq_true (by first | (with_reducible assumption) | assumption)
         obtain ⟨ad463, e463, hx463_0⟩ := Kd.at_int HR1.out x13_1 p463 q463
         cases e463
         replace p463 := eq_true p463
         replace q463 := eq_true q463
         go_wp2
         repeat (go_quiet (fail); try go_wp2)
         go_ret
         exact ⟨by first | rfl | (simp; done) | (simp [*]; done), by repeat (first | exact Drawn0.refl _ | apply Drawn0.step)⟩
       ·rw [if_neg c7] at H
        exact absurd H (by simp)
      ·rw [if_neg c6] at H
       exact absurd H (by simp)
     ·rw [if_neg c5] at H
      exact absurd H (by simp)
    ·rw [if_neg c4] at H
     have c4b0 : decide (x13_1 < (l0.length : Int)) = false := decide_eq_false c4
     clear c4
     obtain rfl := Option.some.inj H
     go_wp2
     repeat (go_quiet (fail); try go_wp2)
     go_ret
     exact ⟨by first | rfl | (simp; done) | (simp [*]; done), by repeat (first | exact Drawn0.refl _ | apply Drawn0.step)⟩
 ·rw [if_neg c3] at H
  have c3b0 : ((l0.length : Int) == (l1.length : Int)) = false := beq_eq_false_iff_ne.mpr c3
  have c3b1 : ((l0.length : Int) != (l1.length : Int)) = true := bne_iff_ne.mpr c3
  have c3b2 : (l0.length == l1.length) = false := by first | simpa using c3 | (simp at c3 ⊢; omega)
  obtain rfl := Option.some.inj H
  go_enter Try.func56, Try.ntmps56
  go_wp2
  repeat (go_quiet (fail); try go_wp2)
  go_ret
  exact ⟨by first | rfl | (simp; done) | (simp [*]; done), by repeat (first | exact Drawn0.refl _ | apply Drawn0.step)⟩
end Go.Proofs.Ytkohcdddgjaijaa.P
namespace Go.Proofs.Ytkohcdddgjaijaa.PT
open Go.RowKit Go.Proofs.Ytkohcdddgjaijaa.P Go.Proofs.YtkohcdddgjaijaaW.PrintWords Go.Proofs.YtkohcdddgjaijaaW.PrintLast Go.Proofs.Ytkohcdddgjaijaa.EvKit
set_option linter.unusedVariables false
theorem slicesEqual_ev (a b : List Int) (hl : a.length ≤ 9223372036854775806) : Ev (fun k => slices_Equal_int_int.f k a b) (decide (a = b)) := by
  unfold slices_Equal_int_int.f
  by_cases hlen : (a.length : Int) = (b.length : Int)
  · refine Ev.pos hlen ?_
    have hlen2 : a.length = b.length := by omega
    have := Ev.loop (g := fun k i => slices_Equal_int_int.l0 k a b (a.length : Int) (i : Int)) (n := a.length) (R := fun i => decide (a.drop i = b.drop i)) ?_ ?_ 0 (Nat.zero_le _)
    · simpa using this
    · refine Ev.succ ?_
      simp only [slices_Equal_int_int.l0]
      refine Ev.neg (by omega) (Ev.to (Ev.now _) ?_)
      rw [List.drop_of_length_le (Nat.le_refl _), List.drop_of_length_le (by omega)]; simp
    · intro i hi ih
      have hi2 : i < b.length := by omega
      refine Ev.succ ?_
      simp only [slices_Equal_int_int.l0, rd_at hi, rd_at hi2, w64n (show i ≤ 9223372036854775806 by omega)]
      refine Ev.pos (by omega) (Ev.pos (by omega) (Ev.pos (by omega) (Ev.pos (by omega) ?_)))
      rw [List.drop_eq_getElem_cons hi, List.drop_eq_getElem_cons hi2]
      by_cases c : a[i] = b[i]
      · refine Ev.pos c (Ev.to ih ?_)
        rw [decide_eq_decide]
        constructor
        · intro h; rw [c, h]
        · intro h; exact (List.cons.inj h).2
      · refine Ev.neg c (Ev.to (Ev.now _) ?_)
        symm; rw [decide_eq_false_iff_not]
        exact fun h => c (List.cons.inj h).1
  · refine Ev.neg hlen (Ev.to (Ev.now _) ?_)
    symm; rw [decide_eq_false_iff_not]
    exact fun h => hlen (by rw [h])
end Go.Proofs.Ytkohcdddgjaijaa.PT
namespace Go.Proofs.Ytkohcdddgjaijaa.P
open Go.RowKit Go.Proofs.YtkohcdddgjaijaaW.PrintWords Go.Proofs.YtkohcdddgjaijaaW.PrintLast Go.Proofs.YtkohcdddgjaijaaW.PrintMore
attribute [local go_sem] max2_int min2_int max_two min_two max_three min_three max_four min_four
set_option linter.unusedVariables false
set_option linter.unusedSimpArgs false
def impl_distinct_1.f (k : Nat) (l0 : List Int) (l1 : List Int) : Option (Bool) := (slices_Equal_int_int.f k l0 l1).bind fun t464 => (some t464)
theorem impl_distinct_1.mono : ∀ a0 a1 k, LeO (impl_distinct_1.f k a0 a1) (impl_distinct_1.f (k + 1) a0 a1) := by
 intro a0 a1 k
 unfold impl_distinct_1.f
 repeat' first
   | (with_reducible exact slices_Equal_int_int.mono _ _ _)
   | (with_reducible exact LeO.refl _)
   | (with_reducible exact LeO.none _)
   | (with_reducible refine LeO.ite ?_ ?_)
   | (with_reducible refine LeO.bind ?_ (fun _ => ?_))
   | exact slices_Equal_int_int.mono _ _ _
   | exact LeO.none _
   | refine LeO.ite ?_ ?_
   | refine LeO.bind ?_ (fun _ => ?_)
set_option maxHeartbeats 8000000 in
set_option maxRecDepth 100000 in
theorem impl_distinct_1.calls (k : Nat) (A0 : Option Addr) (c0 : Nat) (l0 : List Int) (A1 : Option Addr) (c1 : Nat) (l1 : List Int) (r : Bool) (w : World) (hr0 : Kd.C (Kd.int .i64) w A0 l0.length l0) (hc0 : l0.length ≤ c0) (hr1 : Kd.C (Kd.int .i64) w A1 l1.length l1) (hc1 : l1.length ≤ c1) (h : impl_distinct_1.f k l0 l1 = some r) :
  Calls Try.prog 55 #[.slice A0 l0.length c0, .slice A1 l1.length c1] w fun e w' => e = .returned (.bool r) ∧ Drawn0 w w' := by
 have HR0 := Aside0.mk hr0
 have HC0 := Aside0.mk hc0
 clear hr0 hc0
 have HR1 := Aside0.mk hr1
 have HC1 := Aside0.mk hc1
 clear hr1 hc1
 have H : ((slices_Equal_int_int.f k l0 l1).bind fun t464 => (some t464)) = some r := h
 clear h
 replace H := Option.bind_eq_some_iff.mp H
 obtain ⟨t464, A30, H⟩ := H
 replace H : (some t464) = some r := H
 have A3 := Aside0.mk A30
 clear A30
 obtain rfl := Option.some.inj H
 go_enter Try.func55, Try.ntmps55
 go_wp2_with (first | ((with_reducible refine gate_callee (f := 56) rfl ?_); refine goesL_ (some 7) rfl rfl Try.func56 (by kernel_rfl) rfl #[.slice A0 l0.length c0, .slice A1 l1.length c1] rfl (by (try simp only [List.map_toArray, List.map_cons, List.map_nil]); first | done | rfl | (simp only [List.length_drop, List.length_take]; rfl)) ?_; (with_reducible refine (slices_Equal_int_int.calls k _ _ l0 _ _ l1 t464 _ ?side1 ?side2 ?side3 ?side4 A3.out).mono ?_); (case side1 => repeat (first | exact HR0.out | (with_reducible refine Kd.C_alloc ?_ _) | (with_reducible refine Kd.C_drewN ?_ _) | (with_reducible refine Kd.C_drew ?_))); (case side2 => exact HC0.out); (case side3 => repeat (first | exact HR1.out | (with_reducible refine Kd.C_alloc ?_ _) | (with_reducible refine Kd.C_drewN ?_ _) | (with_reducible refine Kd.C_drew ?_))); (case side4 => exact HC1.out); rintro e w' ⟨rfl, ⟨nd, rfl⟩⟩; refine ⟨_, rfl, ?_⟩))
 go_ret
 exact ⟨by first | rfl | (simp; done) | (simp [*]; done), by repeat (first | exact Drawn0.refl _ | apply Drawn0.step)⟩
def impl_distinct_1.Pure : Prop := ∀ (l0 : List Int) (l1 : List Int), l0.length ≤ maxLen → l0.length * 8 ≤ 140737488351232 → (∀ x ∈ l0, (Lit.int .i64 x).wf = true) → l1.length ≤ maxLen → l1.length * 8 ≤ 140737488351232 → (∀ x ∈ l1, (Lit.int .i64 x).wf = true) → ∃ k, impl_distinct_1.f k l0 l1 = some true
theorem impl_distinct_1.walk (P : impl_distinct_1.Pure) (a0 : Option Addr) (len0 cap0 : Nat) (z0 : List Int) (a1 : Option Addr) (len1 cap1 : Nat) (z1 : List Int) (w : World) (w0 : (a0 = none ∧ len0 = 0 ∧ cap0 = 0 ∧ z0 = []) ∨ ∃ x, a0 = some x ∧ len0 ≤ cap0 ∧ cap0 ≤ maxLen ∧ z0.length = cap0 ∧ (∀ i, i < z0.length → w.cell? (x.add i) = some (.int .i64 (z0.getD i 0))) ∧ ∀ n ∈ z0, (Lit.int .i64 n).wf = true) (y0 : len0 * 8 ≤ 140737488351232) (w1 : (a1 = none ∧ len1 = 0 ∧ cap1 = 0 ∧ z1 = []) ∨ ∃ x, a1 = some x ∧ len1 ≤ cap1 ∧ cap1 ≤ maxLen ∧ z1.length = cap1 ∧ (∀ i, i < z1.length → w.cell? (x.add i) = some (.int .i64 (z1.getD i 0))) ∧ ∀ n ∈ z1, (Lit.int .i64 n).wf = true) (y1 : len1 * 8 ≤ 140737488351232) :
  Calls Try.prog 55 #[.slice a0 len0 cap0, .slice a1 len1 cap1] w fun e w' => e = .returned (.bool true) ∧ Below w.heap.size w w' := by
 obtain ⟨l0, rfl, hr0, hm0, hw0, hc0⟩ := ReadsInt.ofRowC w0
 obtain ⟨l1, rfl, hr1, hm1, hw1, hc1⟩ := ReadsInt.ofRowC w1
 obtain ⟨k, h⟩ := P l0 l1 hm0 y0 hw0 hm1 y1 hw1
 refine (impl_distinct_1.calls k _ _ l0 _ _ l1 true w (Kd.C_of_reads (d := (0 : Int)) (h1 := fun _ => rfl) hr0) hc0 (Kd.C_of_reads (d := (0 : Int)) (h1 := fun _ => rfl) hr1) hc1 h).mono ?_
 rintro e w' ⟨rfl, hd⟩
 exact ⟨rfl, hd.below⟩
end Go.Proofs.Ytkohcdddgjaijaa.P
namespace Go.Proofs.Ytkohcdddgjaijaa.PT
open Go.RowKit Go.Lib Go.Sort Go.Proofs.Ytkohcdddgjaijaa.P Go.Proofs.YtkohcdddgjaijaaW.PrintWords Go.Proofs.YtkohcdddgjaijaaW.PrintLast Go.Proofs.Ytkohcdddgjaijaa.EvKit
set_option linter.unusedVariables false
set_option linter.unusedSimpArgs false
theorem put_blk {α : Type} [Inhabited α] (enc : α → Value) {w : World} {g : Nat} {cs : Array Value} {t : TypeId} (q : Nat) (dk : Array α) (h : w.heap[g]? = some (.cells cs t (0, 0))) :
    (putRow enc (Sort.ahead w q) g 0 dk).heap[g]? = some (.cells (putCells enc 0 dk cs) t (0, 0)) := by
  show (w.heap.modify g _)[g]? = _
  rw [Array.getElem?_modify, if_pos rfl, h]; rfl
theorem put_oth {α : Type} [Inhabited α] (enc : α → Value) (w : World) (g q : Nat) (dk : Array α) (k : Nat) (hk : k ≠ g) : (putRow enc (Sort.ahead w q) g 0 dk).heap[k]? = w.heap[k]? := by
  show (w.heap.modify g _)[k]? = _
  rw [Array.getElem?_modify, if_neg (fun e => hk e.symm)]
theorem putCells_size {α : Type} [Inhabited α] (enc : α → Value) (off : Nat) (dk : Array α) (cs : Array Value) : (putCells enc off dk cs).size = cs.size := by simp [putCells]
theorem putCells_at {α : Type} [Inhabited α] (enc : α → Value) (dk : Array α) (cs : Array Value) (j : Nat) (hj : j < dk.size) (hc : j < cs.size) : (putCells enc 0 dk cs)[j]? = some (enc dk[j]!) := by
  unfold putCells
  rw [Array.getElem?_mapIdx, Array.getElem?_eq_getElem hc]
  simp only [Option.map_some, Nat.sub_zero]
  rw [if_pos ⟨Nat.zero_le _, by omega⟩]
theorem sort_blk {α : Type} [Inhabited α] (enc : α → Value) {w : World} {g : Nat} {cs : Array Value} {t : TypeId} (q : Nat) (dk : Array α) (os : Array Obj) (h : w.heap[g]? = some (.cells cs t (0, 0))) :
    (sortWorld enc w g 0 q dk os).heap[g]? = some (.cells (putCells enc 0 dk cs) t (0, 0)) := by
  show ((w.heap.modify g _) ++ os)[g]? = _
  have hl := blk_lt h
  rw [Array.getElem?_append_left (by simpa using hl), Array.getElem?_modify, if_pos rfl, h]; rfl
def DistPost (w : World) (base : Nat) (ok : Nat → Prop) (v : Value) (xs : List (List Int)) (e : Ending) (w' : World) : Prop :=
  ∃ v', e = .returned v' ∧ Kd.S kRb 22 w' base ok v' (sdR xs) ∧ w.grownBy w' v.ownBlock ∧ v'.ownBlock = v.ownBlock
theorem grown_row {w W : World} {g : Nat} (h1 : W.os = w.os) (h2 : W.tape = w.tape) (h3 : W.output = w.output) (hs : w.heap.size ≤ W.heap.size) (hb : ∀ k, k < w.heap.size → k ≠ g → W.heap[k]? = w.heap[k]?) : w.grownBy W (some g) :=
  ⟨h1, h2, h3, hs, fun k hk hn => hb k hk (fun e => hn (by rw [e]))⟩
theorem eq_at {W : World} {A1 A2 : Option Addr} {c1 c2 : Nat} {x y : List Int} (h1 : Kd.C (Kd.int .i64) W A1 x.length x) (hc1 : x.length ≤ c1) (h2 : Kd.C (Kd.int .i64) W A2 y.length y) (hc2 : y.length ≤ c2) (hl : x.length ≤ 1048576) :
    Calls Try.prog 55 #[.slice A1 x.length c1, .slice A2 y.length c2] W fun e w' => e = .returned (.bool (decide (x = y))) ∧ ∃ k, w' = W.drewN k := by
  obtain ⟨k, hk⟩ := Ev.rounds (slicesEqual_ev x y (by omega))
  exact (impl_distinct_1.calls k A1 c1 x A2 c2 y _ W h1 hc1 h2 hc2 (by unfold impl_distinct_1.f; rw [hk]; rfl)).mono (fun e w' h => ⟨h.1, by obtain ⟨k, hk⟩ := h.2.out; exact ⟨k, hk⟩⟩)
theorem distinct_big (f : Nat → Nat) (base : Nat) (ok : Nat → Prop) (g : Nat) (cs : Array Value) (xs : List (List Int)) (w : World) (hR : RB f w base ok g cs xs.zipIdx) (hp : 0 < xs.length) (hl : xs.length ≤ 1048576) (hx : ∀ x, x ∈ xs → x.length ≤ 1048576) :
    Calls Try.prog 53 #[.slice (some ⟨g, 0, none⟩) xs.length cs.size, .func (.func 40) #[] #[]] w fun e w1 => e = .returned (.tuple #[]) ∧ Aside0 (w.grownBy w1 (some g) ∧
      Calls Try.prog 54 #[.slice (some ⟨g, 0, none⟩) xs.length cs.size, .func (.func 55) #[] #[]] w1 (fun e2 w2 => ∃ v', e2 = .returned v' ∧ Kd.S kRb 22 w2 base ok v' (sdR xs) ∧ w.grownBy w2 (some g) ∧ v'.ownBlock = some g)) := by
  obtain ⟨n, hn⟩ : ∃ n, n = xs.length := ⟨_, rfl⟩
  have hz : xs.zipIdx.length = n := by rw [List.length_zipIdx, hn]
  have hzl : ∀ j (h : j < xs.zipIdx.length), (xs.zipIdx[j]).1 = xs[j]'(by simpa using h) ∧ (xs.zipIdx[j]).2 = j := fun j h => by simp
  have hread := hR.read
  have hnc := hR.len
  have hV : ∀ i : Fin n, ∃ u, cs[i.1]? = some u := fun i => by
    have : i.1 < cs.size := by have := i.2; omega
    exact ⟨_, Array.getElem?_eq_getElem this⟩
  obtain ⟨V, hV⟩ := Classical.axiomOfChoice hV
  let L : Fin n → List Int := fun i => xs[i.1]'(by have := i.2; omega)
  haveI : Inhabited (Fin n) := ⟨⟨0, by omega⟩⟩
  have hrd : ∀ i : Fin n, ∃ A c, V i = .slice A (L i).length c ∧ (L i).length ≤ c ∧ (L i).length ≤ 1048576 ∧ Kd.C (Kd.int .i64) w A (L i).length (L i) ∧ (∀ ad, A = some ad → 0 < (L i).length → ad.block ≠ g) := fun i => by
    obtain ⟨A, c, h1, h2, h3, h4⟩ := hread i.1 (by have := i.2; omega)
    rw [hV i] at h1
    rw [(hzl i.1 (by have := i.2; omega)).1] at h1 h2 h3 h4
    exact ⟨A, c, Option.some.inj h1, h2, hx _ (List.getElem_mem _), h3, h4⟩
  have hsr : SortRow g n V L w := by
    refine ⟨blk_lt hR.heap, fun i => ⟨?_, blk_frozen hR.heap _⟩, hrd⟩
    rw [blk_cell hR.heap]; exact hV i
  have hs := sort_walk (by omega) (by omega) g cs.size V L w hsr
  rw [← hn]
  refine hs.mono ?_
  rintro e w1 ⟨he, p, m, os, hperm, hpw, hw1⟩
  refine ⟨he, ⟨?_, ?_⟩⟩
  · subst hw1
    have hk := keep_sortWorld V w g m p.toArray os
    exact grown_row rfl rfl rfl hk.1 (fun k h1 h2 => hk.2 k h1 h2 (by simp))
  · have hpl : p.length = n := by rw [hperm.length_eq]; simp
    have hk := keep_sortWorld V w g m p.toArray os
    rw [← hw1] at hk
    have hb1 : w1.heap[g]? = some (.cells (putCells V 0 p.toArray cs) 22 (0, 0)) := by rw [hw1]; exact sort_blk V m p.toArray os hR.heap
    have hc1 : ∀ j (h : j < p.length), (putCells V 0 p.toArray cs)[j]? = some (V p[j]) := fun j h => by
      rw [putCells_at V p.toArray cs j (by simpa using h) (by omega), getElem!_pos p.toArray j (by simpa using h)]; simp
    have hR1 : RB f w1 base ok g (putCells V 0 p.toArray cs) (p.map (fun i => xs.zipIdx[i.1]'(by have := i.2; omega))) := by
      refine hR.turn hb1 (putCells_size V 0 p.toArray cs) (fun k h1 h2 => hk.2 k h1 h2 (by simp)) (by rw [List.length_map]; omega) (fun j hj => ?_)
      have hj' : j < p.length := by simpa using hj
      exact ⟨p[j].1, by have := p[j].2; omega, by rw [hc1 j hj', hV], by simp⟩
    obtain ⟨d, hd⟩ : ∃ d : Array Value, d = (p.map V).toArray := ⟨_, rfl⟩
    have hds : d.size = n := by rw [hd]; simp [hpl]
    have hdj : ∀ j (h : j < p.length), d[j]! = V p[j] := fun j h => by rw [getElem!_pos d j (by omega)]; subst hd; simp
    obtain ⟨q, hq⟩ : ∃ q, q = p.map L := ⟨_, rfl⟩
    have hql : q.length = n := by rw [hq]; simp [hpl]
    have hqj : ∀ j (h : j < p.length), q.getD j [] = L p[j] := fun j h => by rw [getD_in (by omega)]; subst hq; simp
    have hH : Holds id w1 g 0 d := fun j hj => by
      have hj' : j < p.length := by omega
      rw [Nat.zero_add, blk_cell hb1, hc1 j hj', hdj j hj']
      exact ⟨rfl, blk_frozen hb1 _⟩
    have hsl : ∀ j, j < d.size → ∃ A n c, d[j]! = .slice A n c := fun j hj => by
      rw [hdj j (by omega)]
      obtain ⟨A, c, h, _⟩ := hrd (p[j]'(by omega))
      exact ⟨A, _, c, h⟩
    have hEq : ∀ m, 1 ≤ m → m < d.size → ∀ W, RowW w1 g d.size W → Calls Try.prog 55 #[d[m]!, d[m - 1]!] W fun e w' => e = .returned (.bool (!(kpB q m))) ∧ ∃ k, w' = W.drewN k := by
      intro m h1 h2 W hW
      have hm1 : m < p.length := by omega
      have hm2 : m - 1 < p.length := by omega
      obtain ⟨A1, c1, e1, a1, b1, r1, f1⟩ := hrd p[m]
      obtain ⟨A2, c2, e2, a2, b2, r2, f2⟩ := hrd p[m - 1]
      have hkW : KeepBut w W g none := by
        obtain ⟨q2, dk, _, rfl⟩ := hW
        refine ⟨Nat.le_trans hk.1 (Nat.le_of_eq (by show _ = (w1.heap.modify g _).size; simp)), fun k h3 h4 _ => ?_⟩
        rw [put_oth id w1 g q2 dk k h4]
        exact hk.2 k h3 h4 (by simp)
      have hK : (!(kpB q m)) = decide (L p[m] = L p[m - 1]) := by
        unfold kpB
        rw [hqj m hm1, hqj (m - 1) hm2]
        by_cases c : L p[m] = L p[m - 1]
        · rw [decide_eq_true c, decide_eq_false (by rintro (h | h); omega; exact h c)]; rfl
        · rw [decide_eq_false c, decide_eq_true (.inr c)]; rfl
      rw [hdj m hm1, hdj (m - 1) hm2, e1, e2, hK]
      exact eq_at (Kd.C_keep (0 : Int) r1 hkW f1) a1 (Kd.C_keep (0 : Int) r2 hkW f2) a2 b1
    have hcw := compact_walk g cs.size d (kpB q) w1 (by simp [kpB]) hH hsl (by omega) (by omega) hEq
    rw [hds] at hcw
    refine hcw.mono ?_
    rintro e2 w2 ⟨he2, q2, dk, hw2, hdk, hkd⟩
    have hb2 : w2.heap[g]? = some (.cells (putCells id 0 dk (putCells V 0 p.toArray cs)) 22 (0, 0)) := by rw [hw2]; exact put_blk id q2 dk hb1
    rw [hds] at hdk hkd he2
    have hkl := cptU_len (kpB q) d n
    obtain ⟨zs, hzs⟩ : ∃ zs : List (List Int × Nat), zs = ((List.range n).filter (kpB q)).map (fun j => ((p.map (fun i => xs.zipIdx[i.1]'(by have := i.2; omega))).getD j ([], 0))) := ⟨_, rfl⟩
    have hcl : (cptU (kpB q) d n).length = zs.length := by rw [hzs]; unfold cptU; simp
    have hR2 : RB f w2 base ok g (putCells id 0 dk (putCells V 0 p.toArray cs)) zs := by
      refine hR1.turn hb2 (putCells_size id 0 dk _) (fun k h1 h2 => by rw [hw2]; exact put_oth id w1 g q2 dk k h2) (by rw [putCells_size]; omega) (fun j hj => ?_)
      have hj2 : j < ((List.range n).filter (kpB q)).length := by rw [hzs] at hj; simpa using hj
      obtain ⟨i, hi⟩ : ∃ i, i = ((List.range n).filter (kpB q))[j] := ⟨_, rfl⟩
      have hin : i < n := by
        have := List.getElem_mem hj2
        rw [← hi] at this
        exact List.mem_range.1 (List.mem_filter.1 this).1
      refine ⟨i, by rw [List.length_map]; omega, ?_, ?_⟩
      · rw [putCells_at id dk _ j (by omega) (by rw [putCells_size]; omega), hc1 i (by omega)]
        have h3 := hkd j (by omega)
        rw [show (cptU (kpB q) d n)[j]? = some d[i]! by unfold cptU; rw [List.getElem?_map, List.getElem?_eq_getElem hj2, ← hi]; rfl] at h3
        rw [← hdj i (by omega)]
        exact h3.symm
      · subst hzs
        rw [List.getElem_map, ← hi, List.getD_eq_getElem?_getD, List.getElem?_eq_getElem (by rw [List.length_map]; omega)]; rfl
    have hT1 : zs.map (·.1) = kpT q n := by
      rw [hzs, List.map_map]
      unfold kpT
      refine List.map_congr_left (fun j hj => ?_)
      have hjn : j < n := List.mem_range.1 (List.mem_filter.1 hj).1
      rw [hqj j (by omega)]
      show (((p.map _).getD j _) : List Int × Nat).1 = _
      rw [List.getD_eq_getElem?_getD, List.getElem?_eq_getElem (by rw [List.length_map]; omega)]
      simp [L]
    have hT2 : (zs.map (·.2)).Nodup := by
      have e : zs.map (·.2) = ((List.range n).filter (kpB q)).map (fun j => (p.map (·.1)).getD j 0) := by
        rw [hzs, List.map_map]
        refine List.map_congr_left (fun j hj => ?_)
        have hjn : j < n := List.mem_range.1 (List.mem_filter.1 hj).1
        show (((p.map _).getD j _) : List Int × Nat).2 = _
        rw [List.getD_eq_getElem?_getD, List.getElem?_eq_getElem (by rw [List.length_map]; omega), List.getD_eq_getElem?_getD, List.getElem?_eq_getElem (by rw [List.length_map]; omega)]
        simp
      rw [e]
      have hnd : (p.map (·.1)).Nodup := by
        have h5 : (p.map (fun i : Fin n => i.1)).Perm ((List.finRange n).map (fun i => i.1)) := hperm.map _
        refine h5.nodup_iff.2 ?_
        unfold List.Nodup
        rw [List.pairwise_iff_getElem]
        intro i j hi hj hij
        simp only [List.getElem_map, List.getElem_finRange, Fin.val_cast]
        omega
      unfold List.Nodup
      rw [List.pairwise_map]
      refine List.Pairwise.imp_of_mem ?_ (List.Pairwise.filter _ (List.nodup_range (n := n)))
      intro a b ha hb hne hab
      refine hne ?_
      have han : a < n := List.mem_range.1 (List.mem_filter.1 ha).1
      have hbn : b < n := List.mem_range.1 (List.mem_filter.1 hb).1
      rw [List.getD_eq_getElem?_getD, List.getElem?_eq_getElem (by rw [List.length_map]; omega), List.getD_eq_getElem?_getD, List.getElem?_eq_getElem (by rw [List.length_map]; omega)] at hab
      have h7 := congrArg (fun x => (p.map (fun i : Fin n => i.1)).idxOf x) (Option.some.inj (congrArg some hab) : (p.map (fun i : Fin n => i.1))[a]'(by rw [List.length_map]; omega) = (p.map (fun i : Fin n => i.1))[b]'(by rw [List.length_map]; omega))
      simp only [List.Nodup.idxOf_getElem hnd] at h7
      exact h7
    have hsd : kpT q n = sdR xs := by
      rw [← hql]
      refine kpT_sdR ?_ (fun x => ?_)
      · rw [hq, List.pairwise_map]; exact hpw
      · rw [hq, List.mem_map]
        constructor
        · rintro ⟨i, _, rfl⟩; exact List.getElem_mem _
        · intro h
          obtain ⟨j, hj, rfl⟩ := List.getElem_of_mem h
          exact ⟨⟨j, by omega⟩, hperm.mem_iff.2 (List.mem_finRange _), rfl⟩
    refine ⟨_, he2, ?_, ?_, rfl⟩
    · have h6 := S_of_tags hT2 hR2.to
      rw [hT1, hsd] at h6
      rw [hcl, ← putCells_size V 0 p.toArray cs, ← putCells_size id 0 dk]
      exact h6
    · subst hw2
      refine grown_row ?_ ?_ ?_ ?_ ?_
      · show w1.os = w.os
        rw [hw1]; rfl
      · show w1.tape = w.tape
        rw [hw1]; rfl
      · show w1.output = w.output
        rw [hw1]; rfl
      · exact Nat.le_trans hk.1 (Nat.le_of_eq (by show _ = (w1.heap.modify g _).size; simp))
      · intro k h1 h2
        rw [put_oth id w1 g q2 dk k h2]
        exact hk.2 k h1 h2 (by simp)
set_option maxHeartbeats 4000000 in
set_option maxRecDepth 100000 in
theorem distinct_walk (base : Nat) (ok : Nat → Prop) (v : Value) (xs : List (List Int)) (w : World) (hS : Kd.S kRb 22 w base ok v xs) (hl : xs.length ≤ 1048576) (hx : ∀ x, x ∈ xs → x.length ≤ 1048576) :
    Calls Try.prog 47 #[v] w (DistPost w base ok v xs) := by
  by_cases hp : 0 < xs.length
  · obtain ⟨f, hR⟩ := hS
    have hz : xs.zipIdx.length = xs.length := List.length_zipIdx
    obtain ⟨g, cs, hv, hRB⟩ := RB.of hR (by omega)
    rw [hz] at hv
    subst hv
    have H := Aside0.mk (distinct_big f base ok g cs xs w hRB hp hl hx)
    clear hR hRB hz hx
    go_enter Try.func47, Try.ntmps47
    go_wp2_with (first | (go_at_call 53; (with_reducible refine H.out.mono ?_); clear H; rintro e w1 ⟨rfl, H1⟩) | (go_at_call 54; (with_reducible refine H1.out.2.mono ?_); clear H1; rintro e w2 ⟨v', rfl, hS2, hG2, hO2⟩))
    go_ret
    exact ⟨v', rfl, hS2, hG2, hO2⟩
  · obtain ⟨A, c, hv⟩ := Kd.S_slice hS
    have h0 : xs = [] := by cases xs with
      | nil => rfl
      | cons a l => simp at hp
    subst h0
    subst hv
    have H := Aside0.mk hS
    clear hS hx
    go_enter Try.func47, Try.ntmps47
    go_wp2_with (first | (go_at_call 53; (with_reducible refine (sort0_walk _ _ _ _).mono ?_); rintro e w1 ⟨rfl, rfl⟩) | (go_at_call 54; (with_reducible refine (compact0_walk _ _ _ _).mono ?_); rintro e w2 ⟨rfl, rfl⟩))
    go_ret
    exact ⟨_, rfl, H.out, ⟨rfl, rfl, rfl, Nat.le_refl _, fun _ _ _ => rfl⟩, rfl⟩
end Go.Proofs.Ytkohcdddgjaijaa.PT
namespace Go.Proofs.Ytkohcdddgjaijaa.P
open Go.RowKit Go.Proofs.YtkohcdddgjaijaaW.PrintWords Go.Proofs.YtkohcdddgjaijaaW.PrintLast Go.Proofs.YtkohcdddgjaijaaW.PrintMore
attribute [local go_sem] max2_int min2_int max_two min_two max_three min_three max_four min_four
set_option linter.unusedVariables false
set_option linter.unusedSimpArgs false
def bits_Mul64.f (a0 : Int) (a1 : Int) : Option (Int × Int) := some (IntKind.u64.wrap ((IntKind.u64.wrap ((IntKind.u64.wrap ((a0 / 4294967296) * (a1 / 4294967296))) + ((IntKind.u64.wrap ((IntKind.u64.wrap ((a0 / 4294967296) * (Go.bits .and .u64 a1 4294967295))) + ((IntKind.u64.wrap ((Go.bits .and .u64 a0 4294967295) * (Go.bits .and .u64 a1 4294967295))) / 4294967296))) / 4294967296))) + ((IntKind.u64.wrap ((Go.bits .and .u64 (IntKind.u64.wrap ((IntKind.u64.wrap ((a0 / 4294967296) * (Go.bits .and .u64 a1 4294967295))) + ((IntKind.u64.wrap ((Go.bits .and .u64 a0 4294967295) * (Go.bits .and .u64 a1 4294967295))) / 4294967296))) 4294967295) + (IntKind.u64.wrap ((Go.bits .and .u64 a0 4294967295) * (a1 / 4294967296))))) / 4294967296)), IntKind.u64.wrap (a0 * a1))
set_option maxHeartbeats 8000000 in
set_option maxRecDepth 100000 in
theorem bits_Mul64.calls (a0 : Int) (a1 : Int) (r1 : Int) (r2 : Int) (w : World) (h : bits_Mul64.f a0 a1 = some (r1, r2)) :
  Calls Try.prog 73 #[.int .u64 a0, .int .u64 a1] w fun e w' => e = .returned (.tuple #[.int .u64 r1, .int .u64 r2]) ∧ Drawn0 w w' := by
 have H : (some (IntKind.u64.wrap ((IntKind.u64.wrap ((IntKind.u64.wrap ((a0 / 4294967296) * (a1 / 4294967296))) + ((IntKind.u64.wrap ((IntKind.u64.wrap ((a0 / 4294967296) * (Go.bits .and .u64 a1 4294967295))) + ((IntKind.u64.wrap ((Go.bits .and .u64 a0 4294967295) * (Go.bits .and .u64 a1 4294967295))) / 4294967296))) / 4294967296))) + ((IntKind.u64.wrap ((Go.bits .and .u64 (IntKind.u64.wrap ((IntKind.u64.wrap ((a0 / 4294967296) * (Go.bits .and .u64 a1 4294967295))) + ((IntKind.u64.wrap ((Go.bits .and .u64 a0 4294967295) * (Go.bits .and .u64 a1 4294967295))) / 4294967296))) 4294967295) + (IntKind.u64.wrap ((Go.bits .and .u64 a0 4294967295) * (a1 / 4294967296))))) / 4294967296)), IntKind.u64.wrap (a0 * a1))) = some (r1, r2) := h
 clear h
 simp only [Option.some.injEq, Prod.mk.injEq] at H
 obtain ⟨rfl, rfl⟩ := H
 go_enter Try.func73, Try.ntmps73
 go_wp2
 go_ret2
 exact ⟨by first | rfl | (simp; done) | (simp [*]; done), by repeat (first | exact Drawn0.refl _ | apply Drawn0.step)⟩
end Go.Proofs.Ytkohcdddgjaijaa.P
namespace Go.Proofs.Ytkohcdddgjaijaa.P
open Go.RowKit Go.Proofs.YtkohcdddgjaijaaW.PrintWords Go.Proofs.YtkohcdddgjaijaaW.PrintLast Go.Proofs.YtkohcdddgjaijaaW.PrintMore
attribute [local go_sem] max2_int min2_int max_two min_two max_three min_three max_four min_four
set_option linter.unusedVariables false
set_option linter.unusedSimpArgs false
def bits_Mul.f (a0 : Int) (a1 : Int) : Option (Int × Int) := (bits_Mul64.f a0 a1).bind fun bt262 => (some (bt262.1, bt262.2))
set_option maxHeartbeats 8000000 in
set_option maxRecDepth 100000 in
theorem bits_Mul.calls (a0 : Int) (a1 : Int) (r1 : Int) (r2 : Int) (w : World) (h : bits_Mul.f a0 a1 = some (r1, r2)) :
  Calls Try.prog 61 #[.int .u64 a0, .int .u64 a1] w fun e w' => e = .returned (.tuple #[.int .u64 r1, .int .u64 r2]) ∧ Drawn0 w w' := by
 have H : ((bits_Mul64.f a0 a1).bind fun bt262 => (some (bt262.1, bt262.2))) = some (r1, r2) := h
 clear h
 replace H := Option.bind_eq_some_iff.mp H
 obtain ⟨⟨t262, t263⟩, A30, H⟩ := H
 replace H : (some (t262, t263)) = some (r1, r2) := H
 have A3 := Aside0.mk A30
 clear A30
 simp only [Option.some.injEq, Prod.mk.injEq] at H
 obtain ⟨rfl, rfl⟩ := H
 go_enter Try.func61, Try.ntmps61
 go_wp2_with (first | ((with_reducible refine gate_callee (f := 73) rfl ?_); refine goesL_ (some 25) rfl rfl Try.func73 (by kernel_rfl) rfl #[.int .u64 a0, .int .u64 a1] rfl (by (try simp only [List.map_toArray, List.map_cons, List.map_nil]); first | done | rfl | (simp only [List.length_drop, List.length_take]; rfl)) ?_; (with_reducible refine (bits_Mul64.calls a0 a1 t262 t263 _ A3.out).mono ?_); rintro e w' ⟨rfl, ⟨nd, rfl⟩⟩; refine ⟨_, rfl, ?_⟩))
 go_ret2
 exact ⟨by first | rfl | (simp; done) | (simp [*]; done), by repeat (first | exact Drawn0.refl _ | apply Drawn0.step)⟩
end Go.Proofs.Ytkohcdddgjaijaa.P
namespace Go.Proofs.Ytkohcdddgjaijaa.PT
open Go.RowKit Go.Proofs.Ytkohcdddgjaijaa.P Go.Proofs.YtkohcdddgjaijaaW.PrintWords Go.Proofs.YtkohcdddgjaijaaW.PrintLast Go.Proofs.Ytkohcdddgjaijaa.EvKit
set_option linter.unusedVariables false
set_option linter.unusedSimpArgs false
theorem mul_one_v (n : Nat) (h : n ≤ 1048576) : bits_Mul.f 1 (n : Int) = some (0, (n : Int)) := by
  have e1 : Go.bits .and .u64 (1 : Int) 4294967295 = 1 := by rw [and_low32 _ (by omega) (by omega)]; omega
  have e2 : Go.bits .and .u64 (n : Int) 4294967295 = n := by rw [and_low32 _ (by omega) (by omega)]; omega
  have w0 : ∀ x : Int, 0 ≤ x → x < 18446744073709551616 → IntKind.u64.wrap x = x := fun x h0 h1 => by
    simp [IntKind.wrap, IntKind.bits, IntKind.signed]; omega
  have d1 : (1 : Int) / 4294967296 = 0 := by omega
  have d2 : (n : Int) / 4294967296 = 0 := by omega
  unfold bits_Mul.f bits_Mul64.f
  rw [e1, e2, d1, d2]
  simp only [Int.mul_zero, Int.zero_mul, Int.one_mul, Int.add_zero, Int.zero_add]
  rw [w0 0 (by omega) (by omega), w0 (n : Int) (by omega) (by omega), d2]
  simp only [Int.zero_add, Int.add_zero]
  rw [w0 0 (by omega) (by omega)]
  rw [show (0 : Int) / 4294967296 = 0 by decide]
  have e3 : Go.bits .and .u64 (0 : Int) 4294967295 = 0 := by rw [and_low32 _ (by omega) (by omega)]; omega
  simp only [e3, Int.add_zero]
  rw [w0 0 (by omega) (by omega)]
  rw [show (0 : Int) / 4294967296 = 0 by decide, Int.add_zero, w0 0 (by omega) (by omega)]; rfl
theorem add0_ (a : Addr) : a.add 0 = a := by simp [Addr.add]
def CpSrc (W : World) (g off : Nat) (ad : Addr) (k : Nat) : Prop := 0 < (List.replicate k (Value.int .i64 1)).length → (some ⟨g, off, none⟩ : Option Addr) = some ⟨g, off, none⟩ ∧ ∃ a, (some ad : Option Addr) = some a ∧ ∀ j v, (List.replicate k (Value.int .i64 1))[j]? = some v → W.cell? (a.add j) = some v
theorem CpSrc.out {W : World} {g off : Nat} {ad : Addr} {k : Nat} (h : CpSrc W g off ad k) : 0 < (List.replicate k (Value.int .i64 1)).length → (some ⟨g, off, none⟩ : Option Addr) = some ⟨g, off, none⟩ ∧ ∃ a, (some ad : Option Addr) = some a ∧ ∀ j v, (List.replicate k (Value.int .i64 1))[j]? = some v → W.cell? (a.add j) = some v := h
theorem below_le_ {B C : Nat} {w w' : World} (h : Below C w w') (hBC : B ≤ C) : Below B w w' := ⟨h.os, h.tape, h.output, h.size, fun k hk => h.block k (by omega)⟩
theorem CpSrc.cells {W : World} {g off : Nat} {ad : Addr} {k : Nat} (h : CpSrc W g off ad k) : ∀ j v, (List.replicate k (Value.int .i64 1))[j]? = some v → W.cell? (ad.add j) = some v := fun j v hv => by
  have hk : 0 < (List.replicate k (Value.int .i64 1)).length := by have := (List.getElem?_eq_some_iff.1 hv).1; omega
  obtain ⟨_, a, e, h2⟩ := h hk
  cases e; exact h2 j v hv
theorem CpSrc.mk {W : World} {g off : Nat} {ad : Addr} {k : Nat} (h : ∀ j, j < k → W.cell? (ad.add j) = some (.int .i64 1)) : CpSrc W g off ad k := fun _ => ⟨rfl, ad, rfl, fun j v hv => by
  rw [List.getElem?_replicate] at hv
  by_cases c : j < k
  · rw [if_pos c] at hv; injection hv with hv; subst hv; exact h j c
  · rw [if_neg c] at hv; simp at hv⟩
def onesV (m n : Nat) : List Value := List.replicate m (.int .i64 1) ++ List.replicate (n - m) (.int .i64 0)
theorem onesV_at {m n j : Nat} (h : j < m) : (onesV m n).toArray[j]? = some (.int .i64 1) := by
  rw [List.getElem?_toArray]
  unfold onesV
  rw [List.getElem?_append_left (by simpa using h), List.getElem?_replicate, if_pos h]
theorem onesV_len {m n : Nat} (h : m ≤ n) : (onesV m n).length = n := by simp [onesV]; omega
theorem onesV_splice {m n k : Nat} (h : m + k ≤ n) : splice (onesV m n) m (List.replicate k (.int .i64 1)) = onesV (m + k) n := by
  unfold splice onesV
  have e1 : (List.replicate m (Value.int .i64 1) ++ List.replicate (n - m) (Value.int .i64 0)).take m = List.replicate m (Value.int .i64 1) := by
    rw [List.take_append_of_le_length (by simp), List.take_of_length_le (by simp)]
  have e2 : (List.replicate m (Value.int .i64 1) ++ List.replicate (n - m) (Value.int .i64 0)).drop (m + (List.replicate k (Value.int .i64 1)).length) = List.replicate (n - (m + k)) (Value.int .i64 0) := by
    rw [List.length_replicate, List.drop_append, List.drop_of_length_le (by simp), List.nil_append, List.length_replicate, List.drop_replicate]
    congr 1; omega
  rw [e1, e2, ← List.append_assoc, List.replicate_append_replicate]
theorem make_n (n : Nat) (h : n ≤ 1048576) (w : World) : (Instr.makeSlice 22 (.int .i64 (n : Int)) (.int .i64 (n : Int))).run Try.prog w = .ok (.slice (some ⟨w.heap.size, 0, none⟩) n n) (w.alloc (.cells (onesV 0 n).toArray 3)) := by
  obtain ⟨i, hi, hz, hs, hb⟩ := info_parts info3
  have hr := run_make (P := Try.prog) w 22 3 i (.int .i64 0) Try.underlying22 hi hz .i64 .i64 n n (by omega) (by omega) (by rw [hb]; omega) (by omega)
  have e : (Value.int IntKind.i64 0).cells = #[.int .i64 0] := rfl
  have e2 : madeCells #[Value.int .i64 0] n = (onesV 0 n).toArray := by
    apply Array.ext
    · rw [size_madeCells]; simp [onesV]
    · intro i h1 h2
      simp [madeCells, onesV]
      rw [Nat.mod_one]; rfl
  rw [e] at hr
  simpa [hs, e2] using hr
theorem ones_own {W : World} {g n base : Nat} (hb : base ≤ g) (h : W.heap[g]? = some (.cells (onesV n n).toArray 3 (0, 0))) (hn : n ≤ 1048576) : Kd.R (Kd.int .i64) 3 W base (fun _ => True) (.slice (some ⟨g, 0, none⟩) n n) (List.replicate n 1) := by
  have e : Kd.R (Kd.int .i64) 3 W base (fun _ => True) (.slice (some ⟨g, 0, none⟩) n n) (List.replicate n (1 : Int)) := by
    refine Kd.R_of_own ?_ (fun _ _ => trivial)
    refine ⟨by simp [encs], .inr ⟨g, n, (onesV n n).toArray, by rw [List.length_replicate], hb, h, by rw [List.length_replicate]; exact Nat.le_refl _, by unfold maxLen; omega, by simp [onesV], ?_⟩⟩
    rw [List.length_replicate, Nat.mul_one]
    show (onesV n n).take n = _
    rw [List.take_of_length_le (by simp [onesV])]
    simp [onesV, encs]
  exact e
theorem wp_copy {P : Program} (w : World) {o : Oper} {a : Act} {K : Act → World → Prop} {Q : Exit → Act → World → Prop} (d s : Operand) (dT sT : TypeId)
    (ho : o.op = .call { callee := .builtin .copy, args := #[d, s], argTypes := #[dT, sT] }) (elem : TypeId) (hu : P.underlying dT = some (.slice elem)) (hsz : (P.info? elem).map (·.size) = some 1)
    (g off dLen dCap : Nat) (ad : Addr) (sLen sCap : Nat) (hd : a.eval d = .slice (some ⟨g, off, none⟩) dLen dCap) (hs : a.eval s = .slice (some ad) sLen sCap)
    (cur : Array Value) (t : TypeId) (hg : w.heap[g]? = some (.cells cur t (0, 0))) (cs : List Value) (hn : cs.length = Nat.min sLen dLen)
    (hsrc : ∀ j v, cs[j]? = some v → w.cell? (ad.add j) = some v) (hfit : off + cs.length ≤ cur.size) (h1 : ∀ v ∈ cs, v.oneCell' = true)
    (h : ∀ w', w'.heap[g]? = some (.cells (splice cur.toList off cs).toArray t (0, 0)) → Below g w w' → K (a.put o.dst (goInt cs.length)) w') : o.wp P a w K Q := by
  have hrun := run_copy_row (P := P) w dT sT o.type elem g off dLen dCap ad sLen sCap cur t cs hu hsz hg hn hsrc hfit h1
  unfold Oper.wp execOp
  simp only [ho, resolve, invoke, builtin, Sem.run_bind, Sem.run_pure, Result.andThen_ok, List.map_toArray, List.map_cons, List.map_nil, hd, hs, hrun]
  refine h _ ?_ (below_setRow ⟨rfl, rfl, rfl, Nat.le_refl _, fun _ _ => rfl⟩ (Nat.le_refl _) _)
  rw [setRow_heap w g _ _ t _ hg, splice, List.append_assoc]
set_option maxHeartbeats 800000 in
set_option maxRecDepth 100000 in
theorem repeat_walk (b c n : Nat) (w0 w : World) (hn : n ≤ 1048576) (hB : Below w0.heap.size w0 w) (hc : w.cell? ⟨b, 0, none⟩ = some (.int .i64 1)) :
    Calls Try.prog 57 #[.slice (some ⟨b, 0, none⟩) 1 c, .int .i64 (n : Int)] w fun e w' => ∃ v, e = .returned v ∧ Kd.R (Kd.int .i64) 3 w' w0.heap.size (fun _ => True) v (List.replicate n 1) ∧ Below w0.heap.size w0 w' := by
  have HM := Aside0.mk (fun W => bits_Mul.calls 1 (n : Int) 0 (n : Int) W (mul_one_v n hn))
  have hmk := make_n n hn
  have HB := Aside0.mk hB
  have HB1 : Aside0 (∀ m, Below w0.heap.size w0 ((w.drewN m).alloc (.cells (onesV 0 n).toArray 3))) := ⟨fun m => below_alloc (pw_below_drewN hB m) _⟩
  have hw1 : IntKind.u64.wrap (n : Int) = n := by simp [IntKind.wrap, IntKind.bits, IntKind.signed]; omega
  have hw2 : IntKind.i64.wrap (n : Int) = n := by rw [IntWalk.i64_in _ (by omega)]
  have HS := Aside0.mk hB.size
  clear hB
  have HG : Aside0 (∀ m, ((w.drewN m).alloc (.cells (onesV 0 n).toArray 3)).heap[w.heap.size]? = some (.cells (onesV 0 n).toArray 3 (0, 0))) := ⟨fun m => by show (w.heap.push _)[w.heap.size]? = _; simp⟩
  have q1 : decide ((n : Int) < 0) = false := decide_eq_false (by omega)
  have q2 : decide ((n : Int) > 9223372036854775807) = false := decide_eq_false (by omega)
  have q3 : (0 : Int) ≤ (n : Int) := by omega
  have hsz : (Try.prog.info? 3).map (·.size) = some 1 := by kernel_rfl
  obtain ⟨k1, hk1⟩ : ∃ k1, k1 = min 1 n := ⟨_, rfl⟩
  have hmin : (List.replicate k1 (Value.int .i64 1)).length = Nat.min 1 n := by rw [List.length_replicate]; exact hk1
  have HK1 : Aside0 (k1 ≤ n ∧ k1 ≤ 1 ∧ (0 < n → 1 ≤ k1)) := ⟨by omega⟩
  have HC : Aside0 (∀ m, CpSrc ((w.drewN m).alloc (.cells (onesV 0 n).toArray 3)) w.heap.size 0 ⟨b, 0, none⟩ k1) := ⟨fun m => CpSrc.mk (fun j hj => by
    obtain rfl : j = 0 := by have := HK1.out; omega
    rw [add0_]
    exact pw_cell_below (below_alloc (pw_below_drewN (Below.refl _ _) m) _) hc)⟩
  have HFIT0 : Aside0 (0 + (List.replicate k1 (Value.int .i64 1)).length ≤ (onesV 0 n).length) := ⟨by rw [onesV_len (by omega), List.length_replicate]; omega⟩
  have HONE0 : Aside0 (∀ v ∈ List.replicate k1 (Value.int .i64 1), v.oneCell' = true) := ⟨fun v hv => by rw [List.eq_of_mem_replicate hv]; rfl⟩
  have HMIN0 := Aside0.mk hmin
  clear hc hmin hk1
  go_enter Try.func57, Try.ntmps57
  go_wp2_with (first | (go_at_call 61; (with_reducible refine (HM.out _).mono ?_); rintro e w1 ⟨rfl, ⟨m1, rfl⟩⟩) | ((with_reducible refine wpList_copy_splice rfl (.tmp 31) (.tmp 32) 22 22 rfl 3 Try.underlying22 hsz (some ⟨w.heap.size, 0, none⟩) (some ⟨b, 0, none⟩) n n 1 c rfl rfl w.heap.size 0 (onesV 0 n) 3 (HG.out m1) (List.replicate k1 (.int .i64 1)) HMIN0.out (HC.out m1).out HFIT0.out HONE0.out w0.heap.size w0 (HB1.out m1) HS.out ?_); intro w2 hg2 hb2; have HG2 := Aside0.mk hg2; have HB2 := Aside0.mk hb2; clear hg2 hb2))
  go_loopg [8] n (fun G s8 wr => ∃ m : Nat, s8 = .int .i64 (m : Int) ∧ (0 < n → 1 ≤ m) ∧ m ≤ n ∧ n - m ≤ G ∧ Aside0 (wr.heap[w.heap.size]? = some (.cells (onesV m n).toArray 3 (0, 0))) ∧ Aside0 (Below w0.heap.size w0 wr))
  case atStart => exact ⟨k1, rfl, HK1.out.2.2, HK1.out.1, by omega, ⟨by have := HG2.out; unfold Hid at this; rw [onesV_splice (by have := HK1.out; omega), Nat.zero_add] at this; exact this⟩, HB2⟩
  case round =>
    obtain ⟨m, rfl, hm1, hm2, hg, HH, HBW⟩ := hrel
    by_cases hlt : m < n
    · replace hm1 : 1 ≤ m := hm1 (by omega)
      obtain ⟨k, hk⟩ : ∃ k, k = min m (n - m) := ⟨_, rfl⟩
      have hnm : 1 ≤ n - m := by omega
      have hk1 : 1 ≤ k ∧ k ≤ m ∧ m + k ≤ n := by
        omega
      have hne : ¬ n = m := by omega
      have hmin2 : (List.replicate k (Value.int .i64 1)).length = Nat.min m (n - m) := by rw [List.length_replicate]; exact hk
      have HC2 : Aside0 (CpSrc wr.drew w.heap.size m ⟨w.heap.size, 0, none⟩ k) := ⟨CpSrc.mk (fun j hj => by
        have e : (⟨w.heap.size, 0, none⟩ : Addr).add j = ⟨w.heap.size, j, none⟩ := by simp [Addr.add]; try (intro h; exact h.symm)
        rw [e]
        show wr.cell? _ = _
        rw [blk_cell HH.out]
        exact onesV_at (by omega))⟩
      have HBD : Aside0 (Below w0.heap.size w0 wr.drew) := ⟨below_drew1 HBW.out⟩
      have HHD : Aside0 (wr.drew.heap[w.heap.size]? = some (.cells (onesV m n).toArray 3 (0, 0))) := HH
      have hfit : m + (List.replicate k (Value.int .i64 1)).length ≤ (onesV m n).length := by rw [onesV_len (by omega), List.length_replicate]; omega
      have hone : ∀ v ∈ List.replicate k (Value.int .i64 1), v.oneCell' = true := fun v hv => by rw [List.eq_of_mem_replicate hv]; rfl
      have HONE := Aside0.mk hone
      have HFIT := Aside0.mk hfit
      have HMIN := Aside0.mk hmin2
      have hkl : (List.replicate k (Value.int .i64 1)).length = k := List.length_replicate
      have HKL := Aside0.mk hkl
      have hk2 := hk1.2.2
      have hk3 := hk1.1
      have hw5 : IntKind.i64.wrap ((m : Int) + (k : Int)) = ((m + k : Nat) : Int) := by rw [IntWalk.i64_in _ (by omega)]; omega
      clear hone hfit hmin2 hk1 hk hkl HG HG2 HB1 HB2 HB HM hmk q1 q2 q3 HC HFIT0 HONE0 HMIN0 HK1
      go_wp2_with fail
      go_region_held3 (fun w' => True) (first | exact trivial) (first | (refine wp_copy _ (.tmp 41) (.tmp 44) 22 22 rfl 3 Try.underlying22 hsz w.heap.size m (n - m) (n - m) ⟨w.heap.size, 0, none⟩ m n (by first | rfl | (show Value.slice (ite (n = m) _ _) _ _ = _; rw [if_neg hne])) rfl (onesV m n).toArray 3 HHD.out (List.replicate k (.int .i64 1)) HMIN.out HC2.out.cells HFIT.out HONE.out ?_; intro w4 hg4 hb4; have HG4 := Aside0.mk hg4; have HB4 := Aside0.mk hb4; clear hg4 hb4))
      go_wp2
      go_roundg (n - (m + k))
      case measure => omega
      case rel => exact ⟨m + k, by go_num, fun _ => by omega, by omega, Nat.le_refl _, ⟨by have := HG4.out; rw [onesV_splice hk2] at this; exact this⟩, ⟨HBD.out.trans (below_le_ HB4.out HS.out)⟩⟩
    · obtain rfl : n = m := by omega
      have hown := Aside0.mk (ones_own HS.out HH.out hn)
      go_wp2
      go_ret
      exact ⟨_, rfl, hown.out, HBW.out⟩
set_option maxHeartbeats 800000 in
set_option maxRecDepth 100000 in
theorem ones_walk (n : Nat) (w : World) (hn : n ≤ 1048576) :
    Calls Try.prog 48 #[.int .i64 (n : Int)] w fun e w' => ∃ v, e = .returned v ∧ Kd.R (Kd.int .i64) 3 w' w.heap.size (fun _ => True) v (List.replicate n 1) ∧ Below w.heap.size w w' := by
  have H : Aside0 (∀ W b c, Below w.heap.size w W → W.cell? ⟨b, 0, none⟩ = some (.int .i64 1) → Calls Try.prog 57 #[.slice (some ⟨b, 0, none⟩) 1 c, .int .i64 (n : Int)] W fun e w' => ∃ v, e = .returned v ∧ Kd.R (Kd.int .i64) 3 w' w.heap.size (fun _ => True) v (List.replicate n 1) ∧ Below w.heap.size w w') := ⟨fun W b c h1 h2 => repeat_walk b c n w W hn h1 h2⟩
  have HB := Aside0.mk (Below.refl w.heap.size w)
  go_enter Try.func48, Try.ntmps48
  go_wp2_with (first | (go_at_call 57; (with_reducible refine (H.out _ _ _ (below_alloc HB.out _) (by go_simp)).mono ?_); rintro e w1 ⟨v, rfl, hR, hB⟩; have HR := Aside0.mk hR; have HB1 := Aside0.mk hB; clear hR hB))
  go_ret
  exact ⟨v, rfl, HR.out, HB1.out⟩
end Go.Proofs.Ytkohcdddgjaijaa.PT
namespace Go.Proofs.Ytkohcdddgjaijaa.PT
open Go.RowKit Go.Proofs.Ytkohcdddgjaijaa.P Go.Proofs.YtkohcdddgjaijaaW.PrintWords Go.Proofs.YtkohcdddgjaijaaW.PrintLast Go.Proofs.Ytkohcdddgjaijaa.EvKit
set_option linter.unusedVariables false
set_option linter.unusedSimpArgs false
theorem empty_own (W : World) (base : Nat) (hb : base ≤ W.heap.size) : Kd.R (Kd.int .i64) 3 (W.alloc (.cells #[] 3)) base (fun _ => True) (.slice (some ⟨W.heap.size, 0, none⟩) 0 0) [] := by
  refine Kd.R_of_own (xs := ([] : List Int)) ?_ (fun _ _ => trivial)
  refine ⟨rfl, .inr ⟨W.heap.size, 0, #[], rfl, hb, ?_, Nat.le_refl _, ?_, rfl, rfl⟩⟩
  · show (W.heap.push _)[W.heap.size]? = _; simp
  · unfold maxLen; omega
set_option maxHeartbeats 800000 in
set_option maxRecDepth 100000 in
theorem cloneI_walk (A : Option Addr) (c : Nat) (xs : List Int) (w : World) (hr : Kd.C (Kd.int .i64) w A xs.length xs) (hl : xs.length ≤ 1048576) :
    Calls Try.prog 37 #[.slice A xs.length c] w fun e w' => ∃ v, e = .returned v ∧ Kd.R (Kd.int .i64) 3 w' w.heap.size (fun _ => True) v xs ∧ Below w.heap.size w w' := by
  have q22 := fun (w : World) (a : Option Addr) (n c n' c' : Nat) => Lib.run_eql_slice_nil (P := Try.prog) w 22 3 a n c n' c' Try.underlying22
  have HB := Aside0.mk (Below.refl w.heap.size w)
  have HR := Aside0.mk hr
  cases A with
  | none =>
    have h0 : xs = [] := by
      by_cases h : 0 < xs.length
      · obtain ⟨_, e, _⟩ := hr.2.2 h
        cases e
      · exact List.eq_nil_of_length_eq_zero (by omega)
    subst h0
    clear hr
    go_enter Try.func37, Try.ntmps37
    go_wp2
    go_ret
    exact ⟨_, rfl, Kd.R_nil _ _ _ _ _, HB.out⟩
  | some ad =>
    clear hr
    go_enter Try.func37, Try.ntmps37
    go_wp2_with (first | (at_builtin; refine Kd.R_append_row (Value.int .i64) (0 : Int) (w0 := w) w.heap.size rfl (.tmp 5) (.tmp 6) 22 3 (.int .i64 0) 8 rfl Try.underlying22 info3 rfl (by decide) (.slice (some ⟨w.heap.size, 0, none⟩) 0 0) [] xs (some ad) xs.length c (fun _ => True) rfl rfl (fun _ _ => trivial) (empty_own w _ (Nat.le_refl _)) (Kd.C_alloc HR.out _) (below_alloc HB.out _) (by simp) (by simp; omega) ?_; intro v1 w1 ho1 hb1 hg1 hat1; have HO1 := Aside0.mk ho1; have HB1 := Aside0.mk hb1; clear ho1 hb1 hg1 hat1))
    go_ret
    exact ⟨v1, rfl, HO1.out, HB1.out⟩
end Go.Proofs.Ytkohcdddgjaijaa.PT
namespace Go.Proofs.Ytkohcdddgjaijaa.PT
open Go.RowKit Go.Proofs.Ytkohcdddgjaijaa.P Go.Proofs.YtkohcdddgjaijaaW.PrintWords Go.Proofs.YtkohcdddgjaijaaW.PrintLast Go.Proofs.Ytkohcdddgjaijaa.EvKit
set_option linter.unusedVariables false
set_option linter.unusedSimpArgs false
theorem make_room (c : Nat) (h : c ≤ 1048576) (w : World) : (Instr.makeSlice 22 (.int .i64 0) (.int .i64 (c : Int))).run Try.prog w = .ok (.slice (some ⟨w.heap.size, 0, none⟩) 0 c) (w.alloc (.cells (madeCells #[.int .i64 0] c) 3)) := by
  obtain ⟨i, hi, hz, hs, hb⟩ := info_parts info3
  have hr := run_make (P := Try.prog) w 22 3 i (.int .i64 0) Try.underlying22 hi hz .i64 .i64 0 c (Int.le_refl _) (by omega) (by rw [hb]; omega) (by omega)
  have e : (Value.int IntKind.i64 0).cells = #[.int .i64 0] := rfl
  rw [e] at hr
  simpa [hs] using hr
theorem room_own (w : World) (c : Nat) (h : c ≤ 1048576) (W0 : Nat) (hW : W0 ≤ w.heap.size) : Kd.R (Kd.int .i64) 3 (w.alloc (.cells (madeCells #[.int .i64 0] c) 3)) W0 (fun _ => True) (.slice (some ⟨w.heap.size, 0, none⟩) 0 c) [] := by
  refine Kd.R_of_own (xs := ([] : List Int)) ?_ (fun _ _ => trivial)
  refine ⟨rfl, .inr ⟨w.heap.size, c, madeCells #[.int .i64 0] c, rfl, hW, ?_, Nat.zero_le _, ?_, ?_, ?_⟩⟩
  · have : (w.alloc (.cells (madeCells #[.int .i64 0] c) 3)).heap = w.heap.push (.cells (madeCells #[.int .i64 0] c) 3) := rfl
    rw [this]; simp
  · unfold maxLen; omega
  · simp [madeCells]
  · simp [encs]
set_option maxHeartbeats 4000000 in
set_option maxRecDepth 100000 in
theorem pick_walk (A1 : Option Addr) (c1 : Nat) (row : List Int) (A2 : Option Addr) (c2 : Nat) (cols : List Int) (w : World) (hr1 : Kd.C (Kd.int .i64) w A1 row.length row) (hr2 : Kd.C (Kd.int .i64) w A2 cols.length cols) (hb : ∀ c, c ∈ cols → 0 ≤ c ∧ c < (row.length : Int)) (hn : cols.length ≤ 1048576) :
    Calls Try.prog 39 #[.slice A1 row.length c1, .slice A2 cols.length c2] w fun e w' => ∃ v, e = .returned v ∧ Kd.R (Kd.int .i64) 3 w' w.heap.size (fun _ => True) v (cols.map (rd row)) ∧ Below w.heap.size w w' := by
  have HR1 := Aside0.mk hr1
  have HR2 := Aside0.mk hr2
  have HBc := Aside0.mk hb
  have HB := Aside0.mk (Below.refl w.heap.size w)
  have hlen1 := hr1.2.1
  have hlen2 := hr2.2.1
  have hmk := make_room cols.length hn
  clear hr1 hr2 hb
  go_enter Try.func39, Try.ntmps39
  go_wp2
  go_loopw [13, 5] (fun i v wr => ∃ x : Int, i = .int .i64 x ∧ 0 ≤ x ∧ x ≤ (cols.length : Int) ∧ Aside0 (Kd.R (Kd.int .i64) 3 wr w.heap.size (fun _ => True) v ((cols.take x.toNat).map (rd row))) ∧ Aside0 (Below w.heap.size w wr)) (fun i _ _ => cols.length - (intOf i).toNat)
  case atStart => exact ⟨0, rfl, by omega, by omega, ⟨by simpa using room_own w cols.length hn _ (Nat.le_refl _)⟩, ⟨below_alloc HB.out _⟩⟩
  case round =>
    obtain ⟨x, rfl, h0, hle, HO, HBx⟩ := hrel
    obtain ⟨v, hv⟩ : ∃ v, v = u5 := ⟨_, rfl⟩
    subst hv
    by_cases hlt : x < (cols.length : Int)
    · have hn2 : x.toNat < cols.length := by omega
      obtain ⟨ad, e, hx⟩ := Kd.at_int HR2.out x h0 hlt
      cases e
      have hcm : rd cols x = cols[x.toNat] := by unfold rd; simp [List.getD_eq_getElem?_getD, hn2]
      have hbd := HBc.out (rd cols x) (by rw [hcm]; exact List.getElem_mem hn2)
      have HE : Aside0 ((cols.take (x + 1).toNat).map (rd row) = (cols.take x.toNat).map (rd row) ++ [rd row (rd cols x)]) := ⟨by
        rw [show (x + 1).toNat = x.toNat + 1 by omega, List.take_succ_eq_append_getElem hn2, List.map_append, List.map_singleton, hcm]⟩
      have HL : Aside0 (((cols.take x.toNat).map (rd row)).length ≤ 1048576) := ⟨by simp; omega⟩
      clear hcm
      replace hx := (HBx.out.cell (World.block_lt_of_cell? w _ hx)).trans hx
      generalize rd cols x = c at *
      obtain ⟨ad3, e, hx3⟩ := Kd.at_int HR1.out c hbd.1 hbd.2
      cases e
      replace hx3 := (HBx.out.cell (World.block_lt_of_cell? w _ hx3)).trans hx3
      generalize rd row c = z at *
      obtain ⟨hbd0, hbd1⟩ := hbd
      have HZ := Aside0.mk (HBx.out.size)
      generalize (cols.take x.toNat).map (rd row) = out at *
      go_wp2_with (first | (at_builtin; refine Kd.R_append (Kd.int .i64) (w0 := w) w.heap.size rfl _ _ 22 3 (.int .i64 0) 8 rfl Try.underlying22 info3 rfl (by decide) (by omega) v out z [.int .i64 z] (fun _ => True) (fun _ => False) rfl (by first | (go_simp; done) | (go_simp; rfl)) rfl (fun _ hk => hk.elim) (fun _ _ => trivial) HO.out HBx.out HZ.out (by have := HL.out; omega) ?_; intro v1 w3 ho3 hb3 hg3 hat3))
      go_roundw
      case rel => exact ⟨x + 1, rfl, by omega, by omega, ⟨by rw [HE.out]; exact ho3⟩, ⟨hb3⟩⟩
      case measure => simp [intOf]; omega
    · have hx : cols.take x.toNat = cols := List.take_of_length_le (by omega)
      have H : Aside0 (Kd.R (Kd.int .i64) 3 wr w.heap.size (fun _ => True) v (cols.map (rd row))) := ⟨by have := HO.out; rw [hx] at this; exact this⟩
      clear HO hx
      go_wp2
      go_ret
      exact ⟨_, rfl, H.out, HBx.out⟩
end Go.Proofs.Ytkohcdddgjaijaa.PT
namespace Go.Proofs.Ytkohcdddgjaijaa.P
open Go.RowKit Go.Proofs.YtkohcdddgjaijaaW.PrintWords Go.Proofs.YtkohcdddgjaijaaW.PrintLast Go.Proofs.YtkohcdddgjaijaaW.PrintMore
attribute [local go_sem] max2_int min2_int max_two min_two max_three min_three max_four min_four
set_option linter.unusedVariables false
set_option linter.unusedSimpArgs false
def slices_Index_int_int.l0 : Nat → List Int → Int → Int → Int → Option (Int)
 | 0, _, _, _, _ => none
 | k + 1, x0, x1, x7, x8 => if x8 < x7 then (if 0 ≤ x8 then (if x8 < (x0.length : Int) then (if x1 = (rd x0 x8) then (some x8) else (slices_Index_int_int.l0 k x0 x1 x7 (wrap64 (x8 + 1)))) else (none)) else (none)) else (some (-1))
def slices_Index_int_int.f (k : Nat) (l0 : List Int) (a1 : Int) : Option (Int) := slices_Index_int_int.l0 k l0 a1 (l0.length : Int) 0
theorem slices_Index_int_int.mono_l : ∀ k, (∀ y0 y1 y2 y3, LeO (slices_Index_int_int.l0 k y0 y1 y2 y3) (slices_Index_int_int.l0 (k + 1) y0 y1 y2 y3))
 | 0 => fun _ _ _ _ r h => by simp [slices_Index_int_int.l0] at h
 | k + 1 => by
  have ih0 := slices_Index_int_int.mono_l k
  ·intro y0 y1 y2 y3
   unfold slices_Index_int_int.l0
   repeat' first
   | (with_reducible exact ih0 _ _ _ _)
   | (with_reducible exact LeO.refl _)
   | (with_reducible exact LeO.none _)
   | (with_reducible refine LeO.ite ?_ ?_)
   | (with_reducible refine LeO.bind ?_ (fun _ => ?_))
   | exact ih0 _ _ _ _
   | exact LeO.none _
   | refine LeO.ite ?_ ?_
   | refine LeO.bind ?_ (fun _ => ?_)
theorem slices_Index_int_int.mono : ∀ a0 a1 k, LeO (slices_Index_int_int.f k a0 a1) (slices_Index_int_int.f (k + 1) a0 a1) := by
 intro a0 a1 k
 have ih0 := slices_Index_int_int.mono_l k
 unfold slices_Index_int_int.f
 repeat' first
   | (with_reducible exact ih0 _ _ _ _)
   | (with_reducible exact LeO.refl _)
   | (with_reducible exact LeO.none _)
   | (with_reducible refine LeO.ite ?_ ?_)
   | (with_reducible refine LeO.bind ?_ (fun _ => ?_))
   | exact ih0 _ _ _ _
   | exact LeO.none _
   | refine LeO.ite ?_ ?_
   | refine LeO.bind ?_ (fun _ => ?_)
set_option maxHeartbeats 8000000 in
set_option maxRecDepth 100000 in
theorem slices_Index_int_int.calls (k : Nat) (A0 : Option Addr) (c0 : Nat) (l0 : List Int) (a1 : Int) (r : Int) (w : World) (hr0 : Kd.C (Kd.int .i64) w A0 l0.length l0) (hc0 : l0.length ≤ c0) (h : slices_Index_int_int.f k l0 a1 = some r) :
  Calls Try.prog 46 #[.slice A0 l0.length c0, .int .i64 a1] w fun e w' => e = .returned (.int .i64 r) ∧ Drawn0 w w' := by
 have HR0 := Aside0.mk hr0
 have HC0 := Aside0.mk hc0
 clear hr0 hc0
 have H : (slices_Index_int_int.l0 k l0 a1 (l0.length : Int) 0) = some r := h
 clear h
 have H' := Aside0.mk H
 clear H
 go_enter Try.func46, Try.ntmps46
 go_wp2
 go_loopg [8] k (fun kq v8 w' => ∃ (x8_1 : Int), v8 = .int .i64 x8_1 ∧ Aside0 (slices_Index_int_int.l0 kq l0 a1 (l0.length : Int) x8_1 = some r) ∧ Aside0 (kq ≤ k) ∧ Drawn0 w w')
 case atStart => exact ⟨(0), (by first | rfl | (simp; done) | (simp [*]; done)), H', ⟨Nat.le_refl _⟩, by repeat (first | exact Drawn0.refl _ | apply Drawn0.step)⟩
 case round =>
  clear H'
  try clear p2
  obtain ⟨x8_1, rfl, HA, HK1, ⟨m1, rfl⟩⟩ := hrel
  cases gk with
  | zero => exact absurd HA.out (by simp [slices_Index_int_int.l0])
  | succ k1 =>
   have H := HA.out
   clear HA
   simp only [slices_Index_int_int.l0] at H
   by_cases c3 : x8_1 < (l0.length : Int)
   ·rw [if_pos c3] at H
    have c3b0 : decide (x8_1 < (l0.length : Int)) = true := decide_eq_true c3
    clear c3
    by_cases c4 : 0 ≤ x8_1
    ·rw [if_pos c4] at H
     have c4b0 : decide (0 ≤ x8_1) = true := decide_eq_true c4
     clear c4
     by_cases c5 : x8_1 < (l0.length : Int)
     ·rw [if_pos c5] at H
      have c5b0 : decide (x8_1 < (l0.length : Int)) = true := decide_eq_true c5
      clear c5
      by_cases c6 : a1 = (rd l0 x8_1)
      ·rw [if_pos c6] at H
       have c6b0 : (a1 == (rd l0 x8_1)) = true := beq_iff_eq.mpr c6
       have c6b1 : (a1 != (rd l0 x8_1)) = false := bne_eq_false_iff_eq.mpr c6
       clear c6
       obtain rfl := Option.some.inj H
       have p252 : 0 ≤ (x8_1 : Int) := of_decide_eq_true (by first | (with_reducible assumption) | assumption)
       have q252 : x8_1 < (l0.length : Int) := of_decide_eq_true (by first | (with_reducible assumption) | assumption)
       obtain ⟨ad252, e252, hx252_0⟩ := Kd.at_int HR0.out x8_1 p252 q252
       cases e252
       replace p252 := eq_true p252
       replace q252 := eq_true q252
       go_wp2
       go_ret
       exact ⟨by first | rfl | (simp; done) | (simp [*]; done), by repeat (first | exact Drawn0.refl _ | apply Drawn0.step)⟩
      ·rw [if_neg c6] at H
       have c6b0 : (a1 == (rd l0 x8_1)) = false := beq_eq_false_iff_ne.mpr c6
       have c6b1 : (a1 != (rd l0 x8_1)) = true := bne_iff_ne.mpr c6
       have H' := Aside0.mk H
       clear H
       have p252 : 0 ≤ (x8_1 : Int) := of_decide_eq_true (by first | (with_reducible assumption) | assumption)
       have q252 : x8_1 < (l0.length : Int) := of_decide_eq_true (by first | (with_reducible assumption) | assumption)
       obtain ⟨ad252, e252, hx252_0⟩ := Kd.at_int HR0.out x8_1 p252 q252
       cases e252
       replace p252 := eq_true p252
       replace q252 := eq_true q252
       go_wp2
       go_roundg k1
       case measure => have := HK1.out; omega
       case rel => exact ⟨(wrap64 (x8_1 + 1)), (by first | rfl | (simp; done) | (simp [*]; done)), H', ⟨by have := HK1.out; omega⟩, by repeat (first | exact Drawn0.refl _ | apply Drawn0.step)⟩
     ·rw [if_neg c5] at H
      exact absurd H (by simp)
    ·rw [if_neg c4] at H
     exact absurd H (by simp)
   ·rw [if_neg c3] at H
    have c3b0 : decide (x8_1 < (l0.length : Int)) = false := decide_eq_false c3
    clear c3
    obtain rfl := Option.some.inj H
    go_wp2
    go_ret
    exact ⟨by first | rfl | (simp; done) | (simp [*]; done), by repeat (first | exact Drawn0.refl _ | apply Drawn0.step)⟩
end Go.Proofs.Ytkohcdddgjaijaa.P
namespace Go.Proofs.Ytkohcdddgjaijaa.P
open Go.RowKit Go.Proofs.YtkohcdddgjaijaaW.PrintWords Go.Proofs.YtkohcdddgjaijaaW.PrintLast Go.Proofs.YtkohcdddgjaijaaW.PrintMore
attribute [local go_sem] max2_int min2_int max_two min_two max_three min_three max_four min_four
set_option linter.unusedVariables false
set_option linter.unusedSimpArgs false
def impl_Table_columns.l0 : Nat → List Int → List Int → Int → Int → List Int → List (List Int) → List Int → Option (List Int)
 | 0, _, _, _, _, _, _, _ => none
 | k + 1, x5, x8, x9, x10, x255000, x255001, x255002 => if x10 < x9 then (if 0 ≤ x10 then (if x10 < (x8.length : Int) then ((slices_Index_int_int.f k x255000 (rd x8 x10)).bind fun t256 => (if x5.length < 17592186044416 then (impl_Table_columns.l0 k (x5 ++ [t256]) x8 x9 (wrap64 (x10 + 1)) x255000 x255001 x255002) else (none))) else (none)) else (none)) else (some x5)
def impl_Table_columns.f (k : Nat) (l0_0 : List Int) (l0_1 : List (List Int)) (l0_2 : List Int) (l1 : List Int) : Option (List Int) := impl_Table_columns.l0 k ([] : List Int) l1 (l1.length : Int) 0 l0_0 l0_1 l0_2
theorem impl_Table_columns.mono_l : ∀ k, (∀ y0 y1 y2 y3 y4 y5 y6, LeO (impl_Table_columns.l0 k y0 y1 y2 y3 y4 y5 y6) (impl_Table_columns.l0 (k + 1) y0 y1 y2 y3 y4 y5 y6))
 | 0 => fun _ _ _ _ _ _ _ r h => by simp [impl_Table_columns.l0] at h
 | k + 1 => by
  have ih0 := impl_Table_columns.mono_l k
  ·intro y0 y1 y2 y3 y4 y5 y6
   unfold impl_Table_columns.l0
   repeat' first
   | (with_reducible exact ih0 _ _ _ _ _ _ _)
   | (with_reducible exact slices_Index_int_int.mono _ _ _)
   | (with_reducible exact LeO.refl _)
   | (with_reducible exact LeO.none _)
   | (with_reducible refine LeO.ite ?_ ?_)
   | (with_reducible refine LeO.bind ?_ (fun _ => ?_))
   | exact ih0 _ _ _ _ _ _ _
   | exact slices_Index_int_int.mono _ _ _
   | exact LeO.none _
   | refine LeO.ite ?_ ?_
   | refine LeO.bind ?_ (fun _ => ?_)
theorem impl_Table_columns.mono : ∀ a0 a1 a2 a3 k, LeO (impl_Table_columns.f k a0 a1 a2 a3) (impl_Table_columns.f (k + 1) a0 a1 a2 a3) := by
 intro a0 a1 a2 a3 k
 have ih0 := impl_Table_columns.mono_l k
 unfold impl_Table_columns.f
 repeat' first
   | (with_reducible exact ih0 _ _ _ _ _ _ _)
   | (with_reducible exact slices_Index_int_int.mono _ _ _)
   | (with_reducible exact LeO.refl _)
   | (with_reducible exact LeO.none _)
   | (with_reducible refine LeO.ite ?_ ?_)
   | (with_reducible refine LeO.bind ?_ (fun _ => ?_))
   | exact ih0 _ _ _ _ _ _ _
   | exact slices_Index_int_int.mono _ _ _
   | exact LeO.none _
   | refine LeO.ite ?_ ?_
   | refine LeO.bind ?_ (fun _ => ?_)
set_option maxHeartbeats 8000000 in
set_option maxRecDepth 100000 in
theorem impl_Table_columns.calls (k : Nat) (A0_0 : Option Addr) (c0_0 : Nat) (l0_0 : List Int) (A0_1 : Option Addr) (c0_1 : Nat) (l0_1 : List (List Int)) (A0_2 : Option Addr) (c0_2 : Nat) (l0_2 : List Int) (A1 : Option Addr) (c1 : Nat) (l1 : List Int) (r : List Int) (w : World) (hr0_0 : Kd.C (Kd.int .i64) w A0_0 l0_0.length l0_0) (hc0_0 : l0_0.length ≤ c0_0) (hr0_1 : Kd.C (Kd.slice 3 (Kd.int .i64)) w A0_1 l0_1.length l0_1) (hc0_1 : l0_1.length ≤ c0_1) (hr0_2 : Kd.C (Kd.int .i64) w A0_2 l0_2.length l0_2) (hc0_2 : l0_2.length ≤ c0_2) (hr1 : Kd.C (Kd.int .i64) w A1 l1.length l1) (hc1 : l1.length ≤ c1) (h : impl_Table_columns.f k l0_0 l0_1 l0_2 l1 = some r) :
  Calls Try.prog 27 #[.agg #[.slice A0_0 l0_0.length c0_0, .slice A0_1 l0_1.length c0_1, .slice A0_2 l0_2.length c0_2], .slice A1 l1.length c1] w fun e w' => ∃ v0_ : Value, e = .returned (v0_) ∧ Kd.R (Kd.int .i64) 3 w' w.heap.size (fun _ => True) v0_ r ∧ Below w.heap.size w w' := by
 have hu27 := Try.underlying27
 have HR0_0 := Aside0.mk hr0_0
 have HC0_0 := Aside0.mk hc0_0
 clear hr0_0 hc0_0
 have HR0_1 := Aside0.mk hr0_1
 have HC0_1 := Aside0.mk hc0_1
 clear hr0_1 hc0_1
 have HR0_2 := Aside0.mk hr0_2
 have HC0_2 := Aside0.mk hc0_2
 clear hr0_2 hc0_2
 have HR1 := Aside0.mk hr1
 have HC1 := Aside0.mk hc1
 clear hr1 hc1
 have HB := Aside0.mk (Below.refl w.heap.size w)
 have H : (impl_Table_columns.l0 k ([] : List Int) l1 (l1.length : Int) 0 l0_0 l0_1 l0_2) = some r := h
 clear h
 have H' := Aside0.mk H
 clear H
 go_enter Try.func27, Try.ntmps27
 go_wp2_with (first | ((with_reducible refine gate_dst (N := 2) rfl ?_); refine box_event ?hg (N := 2) ?hd (cs := #[.slice A0_0 l0_0.length c0_0, .slice A0_1 l0_1.length c0_1, .slice A0_2 l0_2.length c0_2]) (t := 27) ?hr ?_; (case hd => rfl); (case hg => rfl); (case hr => first | (go_simp; done) | (go_simp; rfl)); intro gb254 hg w3 hbox hb; have n0_ := Aside0.mk (below_step (by repeat (first | (with_reducible first | exact HB.out | apply below_alloc | apply pw_below_drewN | apply below_drew1) | exact HB.out)) hb); have n1_ := Aside0.mk (hbox); have n2_ := Aside0.mk ((by rw [hg]; exact (below_size (by repeat (first | (with_reducible first | exact HB.out | apply below_alloc | apply pw_below_drewN | apply below_drew1) | exact HB.out))) : w.heap.size ≤ gb254)); have n3_ := Aside0.mk ((by rw [hg]; exact (below_size (by repeat (first | (with_reducible first | exact HB.out | apply below_alloc | apply pw_below_drewN | apply below_drew1) | exact HB.out))) : w.heap.size ≤ gb254)); clear HB; have HB := n0_; have BK254 := n1_; have GW254 := n2_; have GE254 := n3_; clear n0_ n1_ n2_ n3_; clear hb hbox hg))
 go_loopg [5, 10] k (fun kq v5 v10 w' => ∃ (x5_1 : List Int) (x10_1 : Int), v10 = .int .i64 x10_1 ∧ Aside0 (impl_Table_columns.l0 kq x5_1 l1 (l1.length : Int) x10_1 l0_0 l0_1 l0_2 = some r) ∧ Aside0 (kq ≤ k) ∧ Aside0 (Kd.R (Kd.int .i64) 3 w' w.heap.size (fun _ => True) v5 x5_1) ∧ Aside0 (w'.heap[gb254]? = some (.cells #[(.slice A0_0 l0_0.length c0_0), (.slice A0_1 l0_1.length c0_1), (.slice A0_2 l0_2.length c0_2)] 27 (0, 0))) ∧ Aside0 (Below w.heap.size w w'))
 case atStart => exact ⟨(([] : List Int)), (0), (by first | rfl | (simp; done) | (simp [*]; done)), H', ⟨Nat.le_refl _⟩, ⟨by first | exact Kd.R_nil _ _ _ _ _ | exact Kd.N_nil _ _ _ _ _ | exact Kd.V_nil _ _ _ _ _ | exact Kd.Q_nil _ _ _ _ _ | exact Kd.S_nil _ _ _ _ _⟩, ⟨by (with_reducible repeat (first | refine blk_drewN ?_ _ | refine blk_drew ?_ | refine blk_alloc ?_ _)); exact BK254.out⟩, ⟨by repeat (first | (with_reducible first | exact HB.out | apply below_alloc | apply pw_below_drewN | apply below_drew1 | refine below_set ?_ GE254.out) | exact HB.out)⟩⟩
 case round =>
  clear H'
  try clear c1
  try clear c2
  try clear p2
  obtain ⟨x5_1, x10_1, rfl, HA, HK1, HO_5, BK254, HB⟩ := hrel
  cases gk with
  | zero => exact absurd HA.out (by simp [impl_Table_columns.l0])
  | succ k1 =>
   have H := HA.out
   clear HA
   simp only [impl_Table_columns.l0] at H
   by_cases c4 : x10_1 < (l1.length : Int)
   ·rw [if_pos c4] at H
    have c4b0 : decide (x10_1 < (l1.length : Int)) = true := decide_eq_true c4
    clear c4
    by_cases c5 : 0 ≤ x10_1
    ·rw [if_pos c5] at H
     have c5b0 : decide (0 ≤ x10_1) = true := decide_eq_true c5
     clear c5
     by_cases c6 : x10_1 < (l1.length : Int)
     ·rw [if_pos c6] at H
      have c6b0 : decide (x10_1 < (l1.length : Int)) = true := decide_eq_true c6
      clear c6
      replace H := Option.bind_eq_some_iff.mp H
      obtain ⟨t256, A70, H⟩ := H
      replace H : (if x5_1.length < 17592186044416 then (impl_Table_columns.l0 k1 (x5_1 ++ [t256]) l1 (l1.length : Int) (wrap64 (x10_1 + 1)) l0_0 l0_1 l0_2) else (none)) = some r := H
      have A7 := Aside0.mk A70
      clear A70
      by_cases c8 : x5_1.length < 17592186044416
      ·rw [if_pos c8] at H
       have LMc8 := Aside0.mk c8
       clear c8
       obtain ⟨y257, hy257⟩ : ∃ y_ : List Int, y_ = (x5_1 ++ [t256]) := ⟨_, rfl⟩
       replace H : (impl_Table_columns.l0 k1 y257 l1 (l1.length : Int) (wrap64 (x10_1 + 1)) l0_0 l0_1 l0_2) = some r := by first | (rw [hy257]; with_reducible exact H) | (have H2_ := (Option.bind_some _ _).symm.trans H; rw [hy257]; with_reducible exact H2_) | (have H2_ := (Option.bind_some _ _).symm.trans H; with_reducible exact H2_) | with_reducible exact H | (rw [hy257]; exact H) | exact H
       have Ny257 := Aside0.mk hy257
       clear hy257
       have H' := Aside0.mk H
       clear H
       have p255 : 0 ≤ (x10_1 : Int) := of_decide_eq_true (by first | (with_reducible assumption) | assumption)
       have q255 : x10_1 < (l1.length : Int) := of_decide_eq_true (by first | (with_reducible assumption) | assumption)
       obtain ⟨ad255, e255, hx255_0⟩ := Kd.at_int HR1.out x10_1 p255 q255
       cases e255
       replace hx255_0 := (HB.out.cell (World.block_lt_of_cell? w _ hx255_0)).trans hx255_0
       replace p255 := eq_true p255
       replace q255 := eq_true q255
       have hcz9_0 : wr.cell? ⟨gb254, 0, none⟩ = some (.slice A0_0 l0_0.length c0_0) := (blk_cell BK254.out 0).trans rfl
       have hcz9_1 : wr.cell? ⟨gb254, 1, none⟩ = some (.slice A0_1 l0_1.length c0_1) := (blk_cell BK254.out 1).trans rfl
       have hcz9_2 : wr.cell? ⟨gb254, 2, none⟩ = some (.slice A0_2 l0_2.length c0_2) := (blk_cell BK254.out 2).trans rfl
       have hfz9_0 := blk_frozen BK254.out 0
       have hfz9_1 := blk_frozen BK254.out 1
       have hfz9_2 := blk_frozen BK254.out 2
       go_wp2_with (first | ((with_reducible refine gate_callee (f := 46) rfl ?_); refine goesL_ (some 18) rfl rfl Try.func46 (by kernel_rfl) rfl #[.slice A0_0 l0_0.length c0_0, .int .i64 (rd l1 x10_1)] rfl (by (try simp only [List.map_toArray, List.map_cons, List.map_nil]); first | done | rfl | (simp only [List.length_drop, List.length_take]; rfl)) ?_; (with_reducible refine (slices_Index_int_int.calls k1 _ _ l0_0 (rd l1 x10_1) t256 _ ?side1 ?side2 A7.out).mono ?_); (case side1 => repeat (first | exact (Kd.C_below HR0_0.out HB.out) | (with_reducible refine Kd.C_alloc ?_ _) | (with_reducible refine Kd.C_drewN ?_ _) | (with_reducible refine Kd.C_drew ?_))); (case side2 => exact HC0_0.out); rintro e w' ⟨rfl, ⟨nd, rfl⟩⟩; refine ⟨_, rfl, ?_⟩) | ((with_reducible refine gate_builtin (b := .append) (xs := #[.tmp 14, .tmp 19]) rfl ?_); at_builtin; refine Kd.R_append (Kd.int .i64) (w0 := w) w.heap.size rfl (.tmp 14) (.tmp 19) 22 3 (.int .i64 0) 8 rfl Try.underlying22 info3 rfl (by decide) (by omega) u5 x5_1 t256 [.int .i64 t256] (fun _ => True) (fun _ => False) rfl rfl ?aP (fun _ hk => hk.elim) ?aF ?aO ?aB ?aS ?aL ?_; (case aP => exact rfl); (case aB => exact (by repeat (first | (with_reducible first | exact HB.out | apply below_alloc | apply pw_below_drewN | apply below_drew1 | refine below_set ?_ GE254.out) | exact HB.out))); (case aF => exact (fun _ _ => trivial)); (case aO => exact (by (with_reducible repeat (first | apply Kd.R_alloc | apply Kd.R_drewN | apply Kd.R_drew)); exact HO_5.out)); (case aS => exact (below_size (by repeat (first | (with_reducible first | exact HB.out | apply below_alloc | apply pw_below_drewN | apply below_drew1 | refine below_set ?_ GE254.out) | exact HB.out)))); (case aL => have := LMc8.out; omega); intro v258 w10 ho hb hg hat; rw [← Ny257.out] at ho; have n0_ := Aside0.mk (blk_grown (g := gb254) (o := .cells #[.slice A0_0 l0_0.length c0_0, .slice A0_1 l0_1.length c0_1, .slice A0_2 l0_2.length c0_2] 27 (0, 0)) (by (with_reducible repeat (first | refine blk_drewN ?_ _ | refine blk_drew ?_ | refine blk_alloc ?_ _)); exact BK254.out) hg (Kd.R_ne HO_5.out BK254.out (by decide))); have n1_ := Aside0.mk (hb); have n2_ := Aside0.mk (ho); clear BK254; clear HB; clear HO_5; have BK254 := n0_; have HB := n1_; have HO259 := n2_; clear n0_ n1_ n2_; clear ho hb hg hat))
       go_roundg k1
       case measure => have := HK1.out; omega
       case rel => exact ⟨(y257), (wrap64 (x10_1 + 1)), (by first | rfl | (simp; done) | (simp [*]; done)), H', ⟨by have := HK1.out; omega⟩, ⟨by (with_reducible repeat (first | apply Kd.R_alloc | apply Kd.R_drewN | apply Kd.R_drew)); exact HO259.out⟩, ⟨by (with_reducible repeat (first | refine blk_drewN ?_ _ | refine blk_drew ?_ | refine blk_alloc ?_ _)); exact BK254.out⟩, ⟨by repeat (first | (with_reducible first | exact HB.out | apply below_alloc | apply pw_below_drewN | apply below_drew1 | refine below_set ?_ GE254.out) | exact HB.out)⟩⟩
      ·rw [if_neg c8] at H
       exact absurd H (by simp)
     ·rw [if_neg c6] at H
      exact absurd H (by simp)
    ·rw [if_neg c5] at H
     exact absurd H (by simp)
   ·rw [if_neg c4] at H
    have c4b0 : decide (x10_1 < (l1.length : Int)) = false := decide_eq_false c4
    clear c4
    obtain rfl := Option.some.inj H
    go_wp2
    go_ret
    exact ⟨_, by first | rfl | (simp [errW_none, errW_some] <;> rfl) | (simp [*, errW_none, errW_some] <;> rfl), by (with_reducible repeat (first | apply Kd.R_alloc | apply Kd.R_drewN | apply Kd.R_drew)); exact HO_5.out, by repeat (first | (with_reducible first | exact HB.out | apply below_alloc | apply pw_below_drewN | apply below_drew1 | refine below_set ?_ GE254.out) | exact HB.out)⟩
end Go.Proofs.Ytkohcdddgjaijaa.P
namespace Go.Proofs.Ytkohcdddgjaijaa.P
open Go.RowKit Go.Proofs.YtkohcdddgjaijaaW.PrintWords Go.Proofs.YtkohcdddgjaijaaW.PrintLast Go.Proofs.YtkohcdddgjaijaaW.PrintMore
attribute [local go_sem] max2_int min2_int max_two min_two max_three min_three max_four min_four
set_option linter.unusedVariables false
set_option linter.unusedSimpArgs false
def slices_Contains_int_int.f (k : Nat) (l0 : List Int) (a1 : Int) : Option (Bool) := (slices_Index_int_int.f k l0 a1).bind fun t253 => (some (decide (t253 ≥ 0)))
theorem slices_Contains_int_int.mono : ∀ a0 a1 k, LeO (slices_Contains_int_int.f k a0 a1) (slices_Contains_int_int.f (k + 1) a0 a1) := by
 intro a0 a1 k
 unfold slices_Contains_int_int.f
 repeat' first
   | (with_reducible exact slices_Index_int_int.mono _ _ _)
   | (with_reducible exact LeO.refl _)
   | (with_reducible exact LeO.none _)
   | (with_reducible refine LeO.ite ?_ ?_)
   | (with_reducible refine LeO.bind ?_ (fun _ => ?_))
   | exact slices_Index_int_int.mono _ _ _
   | exact LeO.none _
   | refine LeO.ite ?_ ?_
   | refine LeO.bind ?_ (fun _ => ?_)
set_option maxHeartbeats 8000000 in
set_option maxRecDepth 100000 in
theorem slices_Contains_int_int.calls (k : Nat) (A0 : Option Addr) (c0 : Nat) (l0 : List Int) (a1 : Int) (r : Bool) (w : World) (hr0 : Kd.C (Kd.int .i64) w A0 l0.length l0) (hc0 : l0.length ≤ c0) (h : slices_Contains_int_int.f k l0 a1 = some r) :
  Calls Try.prog 26 #[.slice A0 l0.length c0, .int .i64 a1] w fun e w' => e = .returned (.bool r) ∧ Drawn0 w w' := by
 have HR0 := Aside0.mk hr0
 have HC0 := Aside0.mk hc0
 clear hr0 hc0
 have H : ((slices_Index_int_int.f k l0 a1).bind fun t253 => (some (decide (t253 ≥ 0)))) = some r := h
 clear h
 replace H := Option.bind_eq_some_iff.mp H
 obtain ⟨t253, A30, H⟩ := H
 replace H : (some (decide (t253 ≥ 0))) = some r := H
 have A3 := Aside0.mk A30
 clear A30
 obtain rfl := Option.some.inj H
 go_enter Try.func26, Try.ntmps26
 go_wp2_with (first | ((with_reducible refine gate_callee (f := 46) rfl ?_); refine goesL_ (some 7) rfl rfl Try.func46 (by kernel_rfl) rfl #[.slice A0 l0.length c0, .int .i64 a1] rfl (by (try simp only [List.map_toArray, List.map_cons, List.map_nil]); first | done | rfl | (simp only [List.length_drop, List.length_take]; rfl)) ?_; (with_reducible refine (slices_Index_int_int.calls k _ _ l0 a1 t253 _ ?side1 ?side2 A3.out).mono ?_); (case side1 => repeat (first | exact HR0.out | (with_reducible refine Kd.C_alloc ?_ _) | (with_reducible refine Kd.C_drewN ?_ _) | (with_reducible refine Kd.C_drew ?_))); (case side2 => exact HC0.out); rintro e w' ⟨rfl, ⟨nd, rfl⟩⟩; refine ⟨_, rfl, ?_⟩))
 go_ret
 exact ⟨by first | rfl | (simp; done) | (simp [*]; done), by repeat (first | exact Drawn0.refl _ | apply Drawn0.step)⟩
end Go.Proofs.Ytkohcdddgjaijaa.P
namespace Go.Proofs.Ytkohcdddgjaijaa.PT
open Go.RowKit Go.Proofs.Ytkohcdddgjaijaa.P Go.Proofs.YtkohcdddgjaijaaW.PrintWords Go.Proofs.YtkohcdddgjaijaaW.PrintLast Go.Proofs.Ytkohcdddgjaijaa.EvKit
set_option linter.unusedSimpArgs false
set_option linter.unusedVariables false
def idxI (v : Int) : List Int → Nat → Int
  | [], _ => -1
  | x :: r, i => if v = x then i else idxI v r (i + 1)
theorem idxI_mem (v : Int) : ∀ (l : List Int) (i : Nat), 0 ≤ idxI v l i ↔ v ∈ l
  | [], i => by simp [idxI]
  | x :: r, i => by
    simp only [idxI]
    by_cases h : v = x
    · rw [if_pos h]; subst h; simp
    · rw [if_neg h, idxI_mem v r (i + 1)]; simp [h]
theorem idxI_neg (v : Int) : ∀ (l : List Int) (i : Nat), v ∉ l → idxI v l i = -1
  | [], i, _ => rfl
  | x :: r, i, h => by
    simp only [List.mem_cons, not_or] at h
    simp only [idxI]
    rw [if_neg h.1]
    exact idxI_neg v r (i + 1) h.2
theorem idxI_bound (v : Int) : ∀ (l : List Int) (i : Nat), v ∈ l → (i : Int) ≤ idxI v l i ∧ idxI v l i < (i : Int) + l.length
  | [], i, h => by simp at h
  | x :: r, i, h => by
    simp only [idxI]
    by_cases c : v = x
    · rw [if_pos c]; simp only [List.length_cons]; omega
    · rw [if_neg c]
      have := idxI_bound v r (i + 1) ((List.mem_cons.1 h).resolve_left c)
      simp only [List.length_cons]; omega
theorem indexInt_ev (l : List Int) (v : Int) (hl : l.length ≤ 1048576) : Ev (fun k => slices_Index_int_int.f k l v) (idxI v l 0) := by
  unfold slices_Index_int_int.f
  have := Ev.loop (g := fun k i => slices_Index_int_int.l0 k l v (l.length : Int) (i : Int)) (n := l.length) (R := fun i => idxI v (l.drop i) i) ?_ ?_ 0 (Nat.zero_le _)
  · simpa using this
  · refine Ev.succ ?_
    simp only [slices_Index_int_int.l0]
    rw [List.drop_of_length_le (l := l) (Nat.le_refl _)]
    exact Ev.neg (by omega) (Ev.now _)
  · intro i hi ih
    refine Ev.succ ?_
    simp only [slices_Index_int_int.l0, rd_at hi, w64n (show i ≤ 9223372036854775806 by omega)]
    rw [drop_at hi]
    refine Ev.pos (by omega) (Ev.pos (by omega) (Ev.pos (by omega) ?_))
    simp only [idxI]
    by_cases c : v = l[i]
    · rw [if_pos c]; exact Ev.pos c (Ev.now _)
    · rw [if_neg c]; exact Ev.neg c ih
def colsI (tv vars : List Int) : List Int := vars.map (fun v => idxI v tv 0)
theorem columns_ev (tv : List Int) (rows : List (List Int)) (ws vars : List Int) (hl : tv.length ≤ 1048576) (hv : vars.length ≤ 1048576) : Ev (fun k => impl_Table_columns.f k tv rows ws vars) (colsI tv vars) := by
  unfold impl_Table_columns.f
  have key : ∀ d i, i + d = vars.length → Ev (fun k => impl_Table_columns.l0 k ((vars.take i).map (fun v => idxI v tv 0)) vars (vars.length : Int) (i : Int) tv rows ws) (colsI tv vars) := by
    intro d
    induction d with
    | zero =>
      intro i hi
      have e : i = vars.length := by omega
      subst e
      rw [List.take_length]
      refine Ev.succ ?_
      simp only [impl_Table_columns.l0]
      exact Ev.neg (by omega) (Ev.now _)
    | succ d ih =>
      intro i hi
      have hlt : i < vars.length := by omega
      have ih := ih (i + 1) (by omega)
      rw [List.take_succ_eq_append_getElem hlt, List.map_append, List.map_singleton] at ih
      refine Ev.succ ?_
      simp only [impl_Table_columns.l0, rd_at hlt, w64n (show i ≤ 9223372036854775806 by omega)]
      exact Ev.pos (by omega) (Ev.pos (by omega) (Ev.pos (by omega) (Ev.bind (indexInt_ev tv _ hl) (Ev.pos (by simp; omega) ih))))
  exact key vars.length 0 (by omega)
theorem containsInt_ev (l : List Int) (v : Int) (hl : l.length ≤ 1048576) : Ev (fun k => slices_Contains_int_int.f k l v) (decide (v ∈ l)) := by
  unfold slices_Contains_int_int.f
  refine Ev.bind (indexInt_ev l v hl) (Ev.to (Ev.now _) ?_)
  rw [decide_eq_decide]
  exact idxI_mem v l 0
theorem cols_all (tv vars : List Int) : (-1 : Int) ∈ colsI tv vars ↔ ¬ vars.all (fun v => decide (v ∈ tv)) = true := by
  unfold colsI
  rw [List.mem_map]
  constructor
  · rintro ⟨v, hv, he⟩ h
    have h1 := List.all_eq_true.1 h v hv
    have h2 := (idxI_mem v tv 0).2 (of_decide_eq_true h1)
    omega
  · intro h
    rw [List.all_eq_true] at h
    apply Classical.byContradiction
    intro hn
    apply h
    intro v hv
    apply decide_eq_true
    apply Classical.byContradiction
    intro hm
    exact hn ⟨v, hv, idxI_neg v tv 0 hm⟩
theorem cols_bound {tv vars : List Int} (h : vars.all (fun v => decide (v ∈ tv)) = true) : ∀ c, c ∈ colsI tv vars → 0 ≤ c ∧ c < (tv.length : Int) := by
  intro c hc
  unfold colsI at hc
  obtain ⟨v, hv, rfl⟩ := List.mem_map.1 hc
  have := idxI_bound v tv 0 (of_decide_eq_true (List.all_eq_true.1 h v hv))
  omega
def valOf : List Int → List Int → Int → Int
  | t :: ts, r :: rs, v => if t = v then r else valOf ts rs v
  | _, _, _ => 0
def projR (tv vars : List Int) (row : List Int) : List Int := vars.map (valOf tv row)
theorem valOf_idx (v : Int) : ∀ (tv row pre : List Int) (i : Nat), pre.length = i → v ∈ tv → tv.length = row.length → rd (pre ++ row) (idxI v tv i) = valOf tv row v
  | [], _, _, _, _, h, _ => by simp at h
  | t :: ts, [], _, _, _, _, h => by simp at h
  | t :: ts, r :: rs, pre, i, hp, h, hl => by
    simp only [idxI, valOf]
    by_cases c : v = t
    · rw [if_pos c, if_pos c.symm]
      unfold rd
      subst hp
      simp [List.getD_eq_getElem?_getD]
    · rw [if_neg c, if_neg (fun e => c e.symm)]
      have := valOf_idx v ts rs (pre ++ [r]) (i + 1) (by simp [hp]) ((List.mem_cons.1 h).resolve_left c) (by simpa using hl)
      simpa using this
theorem pick_proj {tv vars row : List Int} (h : vars.all (fun v => decide (v ∈ tv)) = true) (hl : tv.length = row.length) : (colsI tv vars).map (rd row) = projR tv vars row := by
  unfold colsI projR
  rw [List.map_map]
  refine List.map_congr_left (fun v hv => ?_)
  have := valOf_idx v tv row [] 0 rfl (of_decide_eq_true (List.all_eq_true.1 h v hv)) hl
  simpa using this
end Go.Proofs.Ytkohcdddgjaijaa.PT
