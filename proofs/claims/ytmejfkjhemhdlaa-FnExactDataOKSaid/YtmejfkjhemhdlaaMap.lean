/-
  Maps that a call makes, as lists of keys and values: look-up and store, at any kind of key that compares plainly. No condition.
-/
import Derived.Test.YtmejfkjhemhdlaaWMore
import Derived.MapKept
import Derived.WideKeyRuns
import Derived.Maps.OwnSet
import Derived.Laws.ByValue
namespace Go.Proofs.Ytmejfkjhemhdlaa.MapKit
open Go.RowKit Go.Proofs.YtmejfkjhemhdlaaW.PrintWords
set_option linter.unusedSimpArgs false
set_option linter.unusedSectionVars false

/-- The first place of a key, and what stands there. -/
def at? {κ : Type} [DecidableEq κ] (k : κ) : List (κ × Value) → Nat → Option (Nat × Value)
  | [], _ => none
  | p :: r, i => if k = p.1 then some (i, p.2) else at? k r (i + 1)
def get {κ : Type} [DecidableEq κ] (k : κ) (l : List (κ × Value)) : Option Value := (at? k l 0).map (·.2)
def put {κ : Type} [DecidableEq κ] (k : κ) (v : Value) : List (κ × Value) → List (κ × Value)
  | [] => [(k, v)]
  | p :: r => if k = p.1 then (p.1, v) :: r else p :: put k v r

/-- Keys of this kind compare as they should. -/
structure KeyEnc {κ : Type} [DecidableEq κ] (P : Program) (kt : TypeId) (enc : κ → Value) : Prop where
  check : ∀ (w : World) (b : Bool) (k : κ), (Instr.checkKey b 10000 kt (enc k)).run P w = .ok () w
  find : ∀ (w : World) (k : κ) (l : List (κ × Value)) (es : List MapEntry), es.map (fun e => (e.key, e.val)) = l.map (fun p => (enc p.1, p.2)) → (Instr.findKey kt (enc k) es).run P w = .ok (at? k l 0) w
  bits : ∀ k : κ, Instr.sameBits 10000 (enc k) (enc k) = true

theorem findNow_plain {κ : Type} [DecidableEq κ] {d : TypeDesc} {enc : κ → Value} (hn : ∀ a b : κ, Instr.sameNow d (enc a) (enc b) = some (decide (a = b))) (k : κ) :
    ∀ (l : List (κ × Value)) (es : List MapEntry) (i : Nat), es.map (fun e => (e.key, e.val)) = l.map (fun p => (enc p.1, p.2)) → Instr.findNow d (enc k) es i = some (at? k l i)
  | [], es, i, h => by
    cases es with
    | nil => rfl
    | cons e r => simp at h
  | p :: l, es, i, h => by
    cases es with
    | nil => simp at h
    | cons e r =>
      simp only [List.map_cons, List.cons.injEq, Prod.mk.injEq] at h
      obtain ⟨⟨h1, h2⟩, h3⟩ := h
      simp only [Instr.findNow, h1, hn, at?]
      by_cases hk : k = p.1
      · simp only [hk, decide_true, if_true, h2]
      · simp only [hk, decide_false, if_false]
        exact findNow_plain hn k l r (i + 1) h3
theorem KeyEnc.plain {κ : Type} [DecidableEq κ] {P : Program} {kt : TypeId} {d : TypeDesc} {enc : κ → Value} (hd : P.underlying kt = some d) (hk : ∀ k, MapKept.IsKey d (enc k)) (hn : ∀ a b : κ, Instr.sameNow d (enc a) (enc b) = some (decide (a = b)))
    (hb : ∀ k : κ, Instr.sameBits 10000 (enc k) (enc k) = true) : KeyEnc P kt enc :=
  ⟨fun _ b k => MapKept.run_checkKey hd (hk k) b 9999, fun _ k l es h => MapKept.run_findKey hd (findNow_plain hn k l es 0 h), hb⟩
theorem ba_beq (a b : ByteArray) : (a == b) = decide (a = b) := by
  rw [Bool.eq_iff_iff, decide_eq_true_iff]
  obtain ⟨a⟩ := a
  obtain ⟨b⟩ := b
  constructor
  · intro h
    have : (a == b) = true := h
    rw [beq_iff_eq] at this; rw [this]
  · intro h
    have h' : a = b := by injection h
    subst h'
    show (a == a) = true
    exact beq_self_eq_true a
instance lawfulBA : LawfulBEq ByteArray where
  rfl := by intro a; rw [ba_beq]; simp
  eq_of_beq := by intro a b h; rw [ba_beq] at h; simpa using h
theorem int_beq (a b : Int) : (a == b) = decide (a = b) := by
  rw [Bool.eq_iff_iff]; simp
theorem KeyEnc.string {P : Program} {kt : TypeId} (hd : P.underlying kt = some .string) : KeyEnc P kt Value.string :=
  .plain hd (fun _ => trivial) (fun a b => by simp only [Instr.sameNow, ba_beq]) (fun k => by simp only [Instr.sameBits, ba_beq, decide_true])
theorem KeyEnc.int {P : Program} {kt : TypeId} {q : IntKind} (hd : P.underlying kt = some (.int q)) : KeyEnc P kt (Value.int q) :=
  .plain hd (fun _ => rfl) (fun a b => by simp only [Instr.sameNow, if_true, int_beq]) (fun k => by simp only [Instr.sameBits, int_beq, decide_true, beq_self_eq_true, Bool.and_self])

/-- Block b is a map of these entries, in the order in which their keys came. -/
def HasMap {κ : Type} (w : World) (b : Nat) (enc : κ → Value) (l : List (κ × Value)) : Prop :=
  ∃ es clock, w.heap[b]? = some (.map es clock) ∧ es.toList.map (fun e => (e.key, e.val)) = l.map (fun p => (enc p.1, p.2))

theorem grown_set {w : World} {b : Nat} {o o' : Obj} (hb : w.heap[b]? = some o) : w.grownBy { w with heap := w.heap.setIfInBounds b o' } (some b) :=
  ⟨rfl, rfl, rfl, by simp, fun k _ hne => (MapKept.heap_set hb).2 k (fun e => hne (by rw [e]))⟩
section
variable {κ : Type} [DecidableEq κ] {P : Program} {w : World} {b : Nat} {t kt e : TypeId} {enc : κ → Value} {l : List (κ × Value)}
theorem HasMap.lt (h : HasMap w b enc l) : b < w.heap.size := by
  obtain ⟨es, c, hb, _⟩ := h
  exact (Array.getElem?_eq_some_iff.1 hb).1
theorem HasMap.made (w : World) (enc : κ → Value) : HasMap (w.alloc (.map #[] 0)) w.heap.size enc [] := ⟨#[], 0, heap_alloc_new w _, rfl⟩
theorem HasMap.move {w' : World} (h : HasMap w b enc l) (hb : w'.heap[b]? = w.heap[b]?) : HasMap w' b enc l := by
  obtain ⟨es, c, h1, h2⟩ := h
  exact ⟨es, c, hb.trans h1, h2⟩
theorem HasMap.grown {w' : World} {row : Option Nat} (h : HasMap w b enc l) (hg : w.grownBy w' row) (hne : some b ≠ row) : HasMap w' b enc l := h.move (hg.block b h.lt hne)

theorem HasMap.alloc (h : HasMap w b enc l) (o : Obj) : HasMap (w.alloc o) b enc l := h.grown (World.grownBy_alloc w o none) (by simp)
theorem HasMap.drewN (h : HasMap w b enc l) (n : Nat) : HasMap (w.drewN n) b enc l := h.move (by rw [World.heap_drewN])
theorem HasMap.drew (h : HasMap w b enc l) : HasMap w.drew b enc l := h.move rfl
theorem HasMap.set (h : HasMap w b enc l) {p : Addr} (hne : b ≠ p.block) (u : Value) : HasMap (w.setCell p u) b enc l := h.move (Below.heap_setCell w p u b hne)
theorem HasMap.below {w' : World} (h : HasMap w b enc l) (hb : Below w.heap.size w w') : HasMap w' b enc l := h.move (hb.block b h.lt)
/-- A block of cells is no map. -/
theorem HasMap.ne_cells (h : HasMap w b enc l) {g : Nat} {cs : Array Value} {ty : TypeId} {fr : Nat × Nat} (hg : w.heap[g]? = some (.cells cs ty fr)) : b ≠ g := by
  rintro rfl
  obtain ⟨es, c, hb, _⟩ := h
  rw [hb] at hg; cases hg

theorem at?_shift (k : κ) : ∀ (l : List (κ × Value)) (i : Nat), at? k l (i + 1) = (at? k l i).map (fun p => (p.1 + 1, p.2))
  | [], _ => rfl
  | p :: r, i => by
    simp only [at?]
    split
    · rfl
    · exact at?_shift k r (i + 1)

/-- 'm[k]' and 'v, ok := m[k]'. -/
theorem run_lookup (K : KeyEnc P kt enc) (ht : P.underlying t = some (.map kt e)) (h : HasMap w b enc l) {z : Value} (hz : (zeroValue e).run P w = .ok z w) (k : κ) (c : Bool) :
    (Instr.lookup t (.map (some b)) (enc k) c).run P w = .ok (if c then .tuple #[(get k l).getD z, .bool (get k l).isSome] else (get k l).getD z) w := by
  obtain ⟨es, cl, hb, hl⟩ := h
  have hf := K.find w k l es.toList hl
  unfold get
  cases ha : at? k l 0 with
  | none =>
    rw [ha] at hf
    cases c <;> simp [Instr.lookup, run_underlying ht, MapKept.run_getObj_map hb, K.check w _ k, hf, hz, Result.andThen]
  | some p =>
    rw [ha] at hf
    cases c <;> simp [Instr.lookup, run_underlying ht, MapKept.run_getObj_map hb, K.check w _ k, hf, Result.andThen]

theorem put_of_none (k : κ) (v : Value) : ∀ (l : List (κ × Value)) (i : Nat), at? k l i = none → put k v l = l ++ [(k, v)]
  | [], _, _ => rfl
  | p :: r, i, h => by
    simp only [at?] at h
    by_cases hk : k = p.1
    · rw [if_pos hk] at h; cases h
    · rw [if_neg hk] at h
      simp only [put, if_neg hk, put_of_none k v r (i + 1) h, List.cons_append]
theorem put_of_some (k : κ) (v : Value) : ∀ (l : List (κ × Value)) (i j : Nat) (u : Value), at? k l i = some (j, u) → ∃ n, j = i + n ∧ n < l.length ∧ (l[n]?).map (·.1) = some k ∧ put k v l = l.set n (k, v)
  | [], _, _, _, h => by simp [at?] at h
  | p :: r, i, j, u, h => by
    simp only [at?] at h
    by_cases hk : k = p.1
    · rw [if_pos hk] at h
      simp only [Option.some.injEq, Prod.mk.injEq] at h
      exact ⟨0, by omega, by simp, by simp [hk], by simp [put, hk]⟩
    · rw [if_neg hk] at h
      obtain ⟨n, h1, h2, h3, h4⟩ := put_of_some k v r (i + 1) j u h
      exact ⟨n + 1, by omega, by simp; omega, by simpa using h3, by simp [put, hk, h4]⟩

/-- 'm[k] = v'. -/
theorem run_update (K : KeyEnc P kt enc) (ht : P.underlying t = some (.map kt e)) (h : HasMap w b enc l) (k : κ) (v : Value) :
    ∃ w', (Instr.mapUpdate t (.map (some b)) (enc k) v).run P w = .ok () w' ∧ HasMap w' b enc (put k v l) ∧ w.grownBy w' (some b) := by
  obtain ⟨es, cl, hb, hl⟩ := h
  have hf := K.find w k l es.toList hl
  have hlen : es.toList.length = l.length := by have := congrArg List.length hl; simpa using this
  cases ha : at? k l 0 with
  | none =>
    rw [ha] at hf
    refine ⟨{ w with heap := w.heap.setIfInBounds b (.map (es.push { key := enc k, val := v, born := cl }) (cl + 1)) }, by simp [Instr.mapUpdate, run_underlying ht, MapKept.run_getObj_map hb, K.check w _ k, hf, MapKept.run_setObj_map _ hb, Result.andThen], ⟨_, _, (MapKept.heap_set hb).1, ?_⟩, ?_⟩
    · rw [put_of_none k v l 0 ha]; simp [hl]
    · exact grown_set hb
  | some p =>
    obtain ⟨i, u⟩ := p
    rw [ha] at hf
    obtain ⟨n, h1, h2, h3, h4⟩ := put_of_some k v l 0 i u ha
    have hin : i = n := by omega
    subst hin
    have hlt : i < es.size := by rw [← hlen] at h2; simpa using h2
    have hkey : es[i].key = enc k := by
      have h5 := congrArg (fun l => l[i]?) hl
      simp only [List.getElem?_map] at h5
      have h6 : es.toList[i]? = some es[i] := by simp [hlt]
      rw [h6] at h5
      have h7 : l[i]? = some l[i] := List.getElem?_eq_getElem h2
      rw [h7] at h3 h5
      simp only [Option.map_some, Option.some.injEq, Prod.mk.injEq] at h3 h5
      rw [h5.1, h3]
    have hks : ((es[i]?).map (·.key)).getD (enc k) = enc k := by simp [hlt, hkey]
    have hst : (Instr.keyThatStays (enc k) (enc k)).run P w = .ok (enc k) w := by simp [Instr.keyThatStays, K.bits k]
    refine ⟨{ w with heap := w.heap.setIfInBounds b (.map (es.modify i fun e => { e with key := enc k, val := v }) cl) }, by simp only [Instr.mapUpdate, Sem.run_bind, run_underlying ht, MapKept.run_getObj_map hb, K.check w _ k, hf, Result.andThen, hks, hst, MapKept.run_setObj_map _ hb], ⟨_, _, (MapKept.heap_set hb).1, ?_⟩, ?_⟩
    · rw [h4]
      refine List.ext_getElem? (fun j => ?_)
      have h5 := congrArg (fun l => l[j]?) hl
      simp only [List.getElem?_map, Array.getElem?_toList] at h5 ⊢
      simp only [List.getElem?_set, Array.getElem?_modify]
      by_cases hj : i = j
      · subst hj
        simp [hlt, h2]
      · simp only [hj, if_false]; exact h5
    · exact grown_set hb
/-- The look-up at the operation. -/
theorem wp_lookup {ops : Array Oper} {rest : List Oper} {o : Oper} {a : Act} {Q : Exit → Act → World → Prop} (hg : o.guard = none) (c : Bool) (m x : Operand) (hop : o.op = Op.lookup t m x c)
    (K : KeyEnc P kt enc) (ht : P.underlying t = some (.map kt e)) {z : Value} (hz : (zeroValue e).run P w = .ok z w) (hm : a.eval m = .map (some b)) (k : κ) (hx : a.eval x = enc k) (h : HasMap w b enc l)
    (hK : wpList P ops Q rest (a.put o.dst (if c then .tuple #[(get k l).getD z, .bool (get k l).isSome] else (get k l).getD z)) w) : wpList P ops Q (o :: rest) a w := by
  refine wpList_plain hg fun K' hK' => ?_
  unfold Oper.wp
  simp only [execOp, hop, hm, hx, Sem.run_bind, run_lookup K ht h hz k c, Result.andThen, Sem.run_pure]
  exact hK' _ _ hK
/-- The store at the operation. -/
theorem wp_update {ops : Array Oper} {rest : List Oper} {o : Oper} {a : Act} {Q : Exit → Act → World → Prop} (hg : o.guard = none) (m x v : Operand) (hop : o.op = Op.mapUpdate t m x v)
    (K : KeyEnc P kt enc) (ht : P.underlying t = some (.map kt e)) (hm : a.eval m = .map (some b)) (k : κ) (hx : a.eval x = enc k) (u : Value) (hv : a.eval v = u) (h : HasMap w b enc l)
    (hK : ∀ w', HasMap w' b enc (put k u l) → w.grownBy w' (some b) → wpList P ops Q rest (a.put o.dst undef) w') : wpList P ops Q (o :: rest) a w := by
  refine wpList_plain hg fun K' hK' => ?_
  obtain ⟨w', hrun, h1, h2⟩ := run_update K ht h k u
  unfold Oper.wp
  simp only [execOp, hop, hm, hx, hv, Sem.run_bind, hrun, Result.andThen, Sem.run_pure]
  exact hK' _ _ (hK w' h1 h2)
end
/-- A set: its keys with 'true' beside. -/
def setL {κ : Type} (ns : List κ) : List (κ × Value) := ns.map fun n => (n, Value.bool true)
theorem at?_set {κ : Type} [DecidableEq κ] (k : κ) : ∀ (ns : List κ) (i : Nat), (at? k (setL ns) i).map (·.2) = if k ∈ ns then some (Value.bool true) else none
  | [], _ => by simp [setL, at?]
  | n :: r, i => by
    have := at?_set k r (i + 1)
    simp only [setL, List.map_cons, at?] at this ⊢
    by_cases h : k = n
    · simp [h]
    · simp only [h, if_false, List.mem_cons, false_or]; exact this
theorem get_set {κ : Type} [DecidableEq κ] (k : κ) (ns : List κ) : (get k (setL ns)).getD (.bool false) = .bool (decide (k ∈ ns)) := by
  unfold get
  rw [at?_set]
  by_cases h : k ∈ ns <;> simp [h]
theorem put_set {κ : Type} [DecidableEq κ] (k : κ) : ∀ (ns : List κ), k ∉ ns → put k (.bool true) (setL ns) = setL (ns ++ [k])
  | [], _ => rfl
  | n :: r, h => by
    have h1 : k ≠ n := fun e => h (by simp [e])
    have h2 := put_set k r (fun e => h (by simp [e]))
    simp only [setL, List.map_cons, put, if_neg h1, List.cons_append] at h2 ⊢
    rw [h2]
end Go.Proofs.Ytmejfkjhemhdlaa.MapKit
