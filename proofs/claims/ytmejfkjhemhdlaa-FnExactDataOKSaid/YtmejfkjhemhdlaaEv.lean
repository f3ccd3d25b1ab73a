/-
  Small helpers for loops that count rounds, and for 64 bits. No condition.
-/
import Derived.Test.YtmejfkjhemhdlaaWMore
namespace Go.Proofs.Ytmejfkjhemhdlaa.EvKit
open Go.RowKit Go.Proofs.YtmejfkjhemhdlaaW.PrintWords

theorem w64 {n : Int} (h1 : -9223372036854775808 ≤ n) (h2 : n ≤ 9223372036854775807) : wrap64 n = n := by
  unfold wrap64; omega
theorem w64n {n : Nat} (h2 : n ≤ 9223372036854775806) : wrap64 ((n : Int) + 1) = ((n + 1 : Nat) : Int) := by
  unfold wrap64; omega

theorem Ev.succ {α : Type} {g : Nat → Option α} {r : α} (h : Ev (fun k => g (k + 1)) r) : Ev g r := Ev.step (fun _ => rfl) h
theorem Ev.some {α : Type} (r : α) : Ev (fun _ => Option.some r) r := Ev.now r
/-- A loop from index i on: at the end, and backwards round by round. -/
theorem Ev.loop {α : Type} {g : Nat → Nat → Option α} {n : Nat} {R : Nat → α} (hend : Ev (fun k => g k n) (R n)) (hstep : ∀ i, i < n → Ev (fun k => g k (i + 1)) (R (i + 1)) → Ev (fun k => g k i) (R i)) :
    ∀ i, i ≤ n → Ev (fun k => g k i) (R i) := by
  have h : ∀ d i, i + d = n → Ev (fun k => g k i) (R i) := by
    intro d
    induction d with
    | zero => intro i hi; have : i = n := by omega
              subst this; exact hend
    | succ d ih => intro i hi; exact hstep i (by omega) (ih (i + 1) (by omega))
  intro i hi
  exact h (n - i) i (by omega)

theorem rd_at {l : List Int} {i : Nat} (h : i < l.length) : rd l (i : Int) = l[i] := by
  unfold rd; simp [List.getD_eq_getElem?_getD, h]
theorem getD_at {α : Type} {l : List α} {i : Nat} (d : α) (h : i < l.length) : l.getD ((i : Int).toNat) d = l[i] := by
  simp [List.getD_eq_getElem?_getD, h]
theorem drop_at {α : Type} {l : List α} {i : Nat} (h : i < l.length) : l.drop i = l[i] :: l.drop (i + 1) := List.drop_eq_getElem_cons h

theorem Ev.pos {α : Type} {c : Prop} [Decidable c] {A B : Nat → Option α} {r : α} (h : c) (hA : Ev A r) : Ev (fun k => if c then A k else B k) r := Ev.congr (fun _ => if_pos h) hA
theorem Ev.neg {α : Type} {c : Prop} [Decidable c] {A B : Nat → Option α} {r : α} (h : ¬ c) (hB : Ev B r) : Ev (fun k => if c then A k else B k) r := Ev.congr (fun _ => if_neg h) hB
theorem Ev.to {α : Type} {g : Nat → Option α} {r r' : α} (h : Ev g r) (e : r = r') : Ev g r' := e ▸ h
theorem Ev.val {α β : Type} {o : Option α} {x : α} {g : α → Nat → Option β} {r : β} (h : o = Option.some x) (hg : Ev (g x) r) : Ev (fun k => o.bind fun y => g y k) r := by
  subst h; exact hg
/-- A loop that asks the same of each element, and goes on to R. -/
theorem Ev.all {α : Type} (l : List α) (p : α → Bool) {g : Nat → Nat → Option Bool} {R : Bool} (hend : l.all p = true → Ev (fun k => g k l.length) R)
    (hyes : ∀ i (h : i < l.length), p l[i] = true → ∀ R', Ev (fun k => g k (i + 1)) R' → Ev (fun k => g k i) R') (hno : ∀ i (h : i < l.length), p l[i] = false → Ev (fun k => g k i) false) :
    Ev (fun k => g k 0) (l.all p && R) := by
  have key : ∀ d i, i + d = l.length → ((l.drop i).all p = true → Ev (fun k => g k l.length) R) → Ev (fun k => g k i) ((l.drop i).all p && R) := by
    intro d
    induction d with
    | zero =>
      intro i hi he
      have : i = l.length := by omega
      subst this
      simpa using he (by simp)
    | succ d ih =>
      intro i hi he
      have hlt : i < l.length := by omega
      rw [List.drop_eq_getElem_cons hlt, List.all_cons] at he ⊢
      cases hp : p l[i] with
      | true => rw [Bool.true_and]; exact hyes i hlt hp _ (ih (i + 1) (by omega) (fun h => he (by rw [hp, h]; rfl)))
      | false => simpa using hno i hlt hp
  simpa using key l.length 0 (by omega) (by simpa using hend)
theorem zip_all {α β : Type} (p : α → Bool) (q : β → Bool) : ∀ (a : List α) (b : List β), a.length = b.length → (a.zip b).all (fun z => p z.1 && q z.2) = (a.all p && b.all q)
  | [], [], _ => rfl
  | x :: a, y :: b, h => by
    have ih := zip_all p q a b (by simpa using h)
    simp only [List.zip_cons_cons, List.all_cons, ih]
    cases p x <;> cases q y <;> cases a.all p <;> cases b.all q <;> rfl

/-! ### strings -/
theorem toList_loop (s : ByteArray) : ∀ d i (r : List UInt8), i + d = s.size → ByteArray.toList.loop s i r = r.reverse ++ s.data.toList.drop i := by
  intro d
  induction d with
  | zero =>
    intro i r hi
    rw [ByteArray.toList.loop]
    rw [if_neg (by omega)]
    rw [List.drop_of_length_le (by simp; exact Nat.le_of_eq (by rw [← hi]; rfl))]; simp
  | succ d ih =>
    intro i r hi
    have hlt : i < s.data.toList.length := by show i < s.data.size; have : s.size = s.data.size := rfl; omega
    rw [ByteArray.toList.loop, if_pos (by omega), ih (i+1) _ (by omega)]
    rw [List.drop_eq_getElem_cons hlt]
    have : s.get! i = s.data.toList[i] := by
      show s.data[i]! = _
      rw [getElem!_pos s.data i hlt]; simp
    simp [this]
theorem toList_data (s : ByteArray) : s.toList = s.data.toList := by
  have := toList_loop s s.size 0 [] (by omega)
  simpa [ByteArray.toList] using this
theorem toList_eq {a b : ByteArray} : a.toList = b.toList ↔ a = b := by
  rw [toList_data, toList_data]
  constructor
  · intro h; cases a; cases b; simp at h; rw [h]
  · rintro rfl; rfl
theorem toList_nil (s : ByteArray) : s.toList = [] ↔ s.size = 0 := by
  rw [toList_data]
  constructor
  · intro h; have := congrArg List.length h; simpa using this
  · intro h; exact List.eq_nil_of_length_eq_zero (by simpa using h)
end Go.Proofs.Ytmejfkjhemhdlaa.EvKit
