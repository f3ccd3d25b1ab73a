/-
  How a law's arguments, as the row hands them, read as lists: for each kind of the printed words, the type that it stands for. No condition.
-/
import Derived.Test.YtmejfkjhemhdlaaWMore
import Derived.ChangeArms
import Derived.Deep.Slices
import Derived.OpenShut
namespace Go.Proofs.Ytmejfkjhemhdlaa.Opens
open Go.Proofs.YtmejfkjhemhdlaaW.PrintWords Go.RowKit

/-- Whatever is read at type t is a value of kind d; G: what holds of its numbers and letters. -/
def Opens {α : Type} (P : Program) (d : Kd α) (t : TypeId) (G : α → Prop) : Prop :=
  P.cellsOf t = d.sz ∧ ∀ {H : Type} (enc : TypeId × Value → H) (W : World) (held : Bool) (fuel : Nat) (cs : List Value) (x : DataW H × List MemPlace), DataW.trod enc P W 0 (fun _ => true) held fuel t cs = some x → ∃ a : α, d.K W a cs ∧ G a

theorem Opens.int {P : Program} {t : TypeId} {k : IntKind} (ht : P.underlying t = some (.int k)) (hc : P.cellsOf t = 1) : Opens P (Kd.int k) t (fun n => (Lit.int k n).wf = true) :=
  ⟨hc, fun _ _ _ _ _ _ h => by obtain ⟨n, rfl, _, hw⟩ := DataW.trod_int ht h; exact ⟨n, rfl, hw⟩⟩
theorem Opens.bool {P : Program} {t : TypeId} (ht : P.underlying t = some .bool) (hc : P.cellsOf t = 1) : Opens P Kd.bool t (fun _ => True) :=
  ⟨hc, fun _ _ _ _ _ _ h => by obtain ⟨n, rfl, _⟩ := DataW.trod_bool ht h; exact ⟨n, rfl, trivial⟩⟩
theorem Opens.string {P : Program} {t : TypeId} (ht : P.underlying t = some .string) (hc : P.cellsOf t = 1) : Opens P Kd.string t (fun s => s.size ≤ maxLen) :=
  ⟨hc, fun _ _ _ _ _ _ h => by obtain ⟨n, rfl, _, hw⟩ := DataW.trod_string ht h; exact ⟨n, rfl, hw⟩⟩

theorem cells_at {w : World} {a : Addr} {n : Nat} {cs : List Value} (h : w.cells? 0 a n = some cs) : cs.length = n ∧ ∀ i u, cs[i]? = some u → w.cell? (a.add i) = some u := by
  unfold World.cells? at h
  rw [if_pos (Nat.zero_le _)] at h
  have h1 : ∀ (l : List Nat) (cs : List Value), l.mapM (fun i => w.cell? (a.add i)) = some cs → cs.length = l.length ∧ ∀ (i : Nat) (u : Value), cs[i]? = some u → ∃ j : Nat, l[i]? = some j ∧ w.cell? (a.add j) = some u := by
    intro l
    induction l with
    | nil => intro cs h; simp at h; subst h; exact ⟨rfl, fun i u h => by simp at h⟩
    | cons x l ih =>
      intro cs h
      rw [List.mapM_cons] at h
      obtain ⟨v, hv, h⟩ := Option.bind_eq_some_iff.1 h
      obtain ⟨vs, hvs, h⟩ := Option.bind_eq_some_iff.1 h
      cases h
      obtain ⟨hl, hi⟩ := ih vs hvs
      refine ⟨by simp [hl], fun i u hu => ?_⟩
      cases i with
      | zero => simp at hu; subst hu; exact ⟨x, by simp, hv⟩
      | succ i => simp at hu; obtain ⟨j, hj, hc⟩ := hi i u hu; exact ⟨j, by simpa using hj, hc⟩
  obtain ⟨hl, hi⟩ := h1 _ _ h
  refine ⟨by simpa using hl, fun i u hu => ?_⟩
  obtain ⟨j, hj, hc⟩ := hi i u hu
  have : i = j := by
    rw [List.getElem?_eq_some_iff] at hj
    obtain ⟨hlt, e⟩ := hj
    simpa using e
  subst this; exact hc

theorem choose_list {α : Type} {Q : Nat → α → Prop} : ∀ (n : Nat), (∀ i, i < n → ∃ a, Q i a) → ∃ l : List α, l.length = n ∧ ∀ i a, l[i]? = some a → Q i a
  | 0, _ => ⟨[], rfl, fun i a h => by simp at h⟩
  | n + 1, h => by
    obtain ⟨l, hl, hq⟩ := choose_list n (fun i hi => h i (by omega))
    obtain ⟨a, ha⟩ := h n (by omega)
    refine ⟨l ++ [a], by simp [hl], fun i b hb => ?_⟩
    rcases Nat.lt_or_ge i l.length with hi | hi
    · rw [List.getElem?_append_left hi] at hb; exact hq i b hb
    · rw [List.getElem?_append_right hi] at hb
      have e : i - l.length = 0 := by
        rw [List.getElem?_eq_some_iff] at hb
        obtain ⟨h0, _⟩ := hb
        simp at h0; exact h0
      rw [e] at hb
      simp at hb; subst hb
      have : i = n := by omega
      subst this; exact ha

theorem Opens.slice {α : Type} {P : Program} {d : Kd α} {t e : TypeId} {G : α → Prop} (ht : P.underlying t = some (.slice e)) (hc : P.cellsOf t = 1) (h : Opens P d e G) :
    Opens P (Kd.slice e d) t (fun l => l.length ≤ maxLen ∧ ∀ x, x ∈ l → G x) := by
  refine ⟨hc, fun enc W held fuel cs x hx => ?_⟩
  rcases Go.Deep.open_slice ht hx with ⟨rfl, _⟩ | ⟨a, len, cap, m, n, D, Pl, rfl, _, hl, hm, hmm, _, hel⟩
  · exact ⟨[], ⟨none, 0, rfl, Nat.le_refl _, rfl, by simp, fun h => by simp at h⟩, by simp, fun x hx => by simp at hx⟩
  · have hm2 : len ≤ m := by rw [hmm]; split <;> omega
    obtain ⟨l, hll, hq⟩ := choose_list (Q := fun i a' => ∃ c, c.length = d.sz ∧ d.K W a' c ∧ (∀ j u, c[j]? = some u → W.cell? (a.add (i * d.sz + j)) = some u) ∧ G a') len (fun i hi => by
      obtain ⟨cs', hcs, htr⟩ := hel i (by omega)
      obtain ⟨a', hk, hg⟩ := h.2 enc W held n cs' _ htr
      obtain ⟨hlen, hce⟩ := cells_at hcs
      refine ⟨a', cs', by rw [hlen, h.1], hk, fun j u hu => ?_, hg⟩
      have := hce j u hu
      rw [h.1, Addr.add_add] at this
      exact this)
    unfold maxLen at hm ⊢
    refine ⟨l, ⟨some a, cap, by rw [hll], by omega, ⟨rfl, by omega, fun _ => ⟨a, rfl, fun j p hj => ?_⟩⟩⟩, by omega, fun x hx => ?_⟩
    · obtain ⟨c, h1, h2, h3, _⟩ := hq j p hj
      exact ⟨c, h1, h2, h3⟩
    · obtain ⟨i, hi⟩ := List.getElem?_of_mem hx
      obtain ⟨c, _, _, _, h4⟩ := hq i x hi
      exact h4

/-- A struct's cells, field by field. -/
theorem Opens.pair {α β : Type} {a : Kd α} {b : Kd β} {Ga : α → Prop} {Gb : β → Prop} {W : World} {cs : List Value} {k : Nat}
    (h1 : ∃ x, a.K W x (cs.take k) ∧ Ga x) (h2 : ∃ y, b.K W y (cs.drop k) ∧ Gb y) : ∃ p : α × β, (Kd.pair a b).K W p cs ∧ Ga p.1 ∧ Gb p.2 := by
  obtain ⟨x, hx, gx⟩ := h1
  obtain ⟨y, hy, gy⟩ := h2
  exact ⟨(x, y), ⟨cs.take k, cs.drop k, (List.take_append_drop _ _).symm, hx, hy⟩, gx, gy⟩
theorem Opens.struct {α : Type} {P : Program} {d : Kd α} {t : TypeId} {fs : Array Field} {G : α → Prop} (ht : P.underlying t = some (.struct fs)) (hc : P.cellsOf t = d.sz)
    (h : ∀ {H : Type} (enc : TypeId × Value → H) (W : World) (held : Bool) (n : Nat) (cs : List Value), cs.length = d.sz →
      (∀ (i : Nat) (f : Field), fs[i]? = some f → ∃ y, DataW.trod enc P W 0 (fun _ => true) held n f.type ((cs.drop f.offset).take (P.cellsOf f.type)) = some y) → ∃ a : α, d.K W a cs ∧ G a) : Opens P d t G := by
  refine ⟨hc, fun enc W held fuel cs x hx => ?_⟩
  obtain ⟨xs, n, _, _, hl, hlen, hf⟩ := DataW.trod_struct ht hx
  refine h enc W held n cs (hl.trans hc) (fun i f hi => ?_)
  have := hf i f hi
  have hlt : i < xs.length := by
    rw [hlen]
    rw [Array.getElem?_eq_some_iff] at hi
    exact hi.1
  exact ⟨xs[i], by rw [this, List.getElem?_eq_getElem hlt]⟩
theorem Opens.iso {α β : Type} {d : Kd α} (f : β → α) (g : α → β) (hfg : ∀ x, f (g x) = x) {G : α → Prop} {W : World} {cs : List Value} (h : ∃ x, d.K W x cs ∧ G x) : ∃ y : β, (Kd.iso d f).K W y cs ∧ G (f y) := by
  obtain ⟨x, hx, gx⟩ := h
  refine ⟨g x, ?_, by rw [hfg]; exact gx⟩
  show d.K W (f (g x)) cs
  rw [hfg]; exact hx
theorem Opens.fld {α : Type} {P : Program} {d : Kd α} {t : TypeId} {G : α → Prop} (h : Opens P d t G) {H : Type} {enc : TypeId × Value → H} {W : World} {held : Bool} {n : Nat} {cs : List Value} {o : Nat}
    (hy : ∃ y, DataW.trod enc P W 0 (fun _ => true) held n t ((cs.drop o).take (P.cellsOf t)) = some y) : ∃ x, d.K W x ((cs.drop o).take d.sz) ∧ G x := by
  obtain ⟨y, hy⟩ := hy
  rw [h.1] at hy
  exact h.2 enc W held n _ y hy
theorem Opens.cons {α β : Type} {a : Kd α} {b : Kd β} {Ga : α → Prop} {Gb : β → Prop} {W : World} {cs : List Value} {o k : Nat}
    (h1 : ∃ x, a.K W x ((cs.drop o).take k) ∧ Ga x) (h2 : ∃ y, b.K W y (cs.drop (o + k)) ∧ Gb y) : ∃ p : α × β, (Kd.pair a b).K W p (cs.drop o) ∧ Ga p.1 ∧ Gb p.2 := by
  obtain ⟨x, hx, gx⟩ := h1
  obtain ⟨y, hy, gy⟩ := h2
  exact ⟨(x, y), ⟨(cs.drop o).take k, cs.drop (o + k), by rw [← List.drop_drop, List.take_append_drop], hx, hy⟩, gx, gy⟩
theorem Opens.last {α : Type} {a : Kd α} {Ga : α → Prop} {W : World} {cs : List Value} {o k : Nat} (hl : cs.length = o + k)
    (h1 : ∃ x, a.K W x ((cs.drop o).take k) ∧ Ga x) : ∃ x, a.K W x (cs.drop o) ∧ Ga x := by
  rw [List.take_of_length_le (by rw [List.length_drop]; omega)] at h1
  exact h1
end Go.Proofs.Ytmejfkjhemhdlaa.Opens
